/- The card of FnExactViewPatch: the law returns true at every input, and leaves its arguments unchanged; no condition. Text 4 of 6. -/
import Derived.Test.YthfipmaaojdmnaaGreatDoorVpC
import Derived.Shelf.RegionOpenPlain
import Derived.WalkKit
import Derived.Deep.RegionLaw
import Derived.Lib.Walk
import Derived.Lib.SliceRun
import Derived.Laws.CopyRow
import Derived.RowKit
import Derived.Lib.Overlaps
import Derived.Lib.AppendZerosOnto
import Derived.Laws.NewBlocks
import Derived.Laws.Externs
section
set_option linter.unusedVariables false
set_option maxRecDepth 100000
namespace Go.Pi
def aO_.p (m : M) : List Pat := [.i .i64, .i .i64, .i .i64]
abbrev aO_.c : Type := Int × Int × Int × Unit
def aO_.of : aO_.c → aO_ := fun (x0, x1, x2, _) => ⟨x0, x1, x2⟩
def aO_.to (s : aO_) : aO_.c := (s.col, s.op, s.v, ())
def bi_.p (m : M) : List Pat := [.i .i64, .sl m .iCond, .i .i64, .b, .i .i64, .sl m .int, .b, .i .i64, .i .i64]
def bi_.q1 (m : M) : List Pat := [.i .i64, .sl m .lCond, .i .i64, .b, .i .i64, .sl m .int, .b, .i .i64, .i .i64]
abbrev bi_.c : Type := Int × (List aO_) × Int × Bool × Int × (List Int) × Bool × Int × Int × Unit
def bi_.of : bi_.c → bi_ := fun (x0, x1, x2, x3, x4, x5, x6, x7, x8, _) => ⟨x0, x1, x2, x3, x4, x5, x6, x7, x8⟩
def bi_.to (s : bi_) : bi_.c := (s.table, s.where_, s.order, s.down, s.first, s.show_, s.kids, s.kidTable, s.kidCol, ())
def TRow.p (m : M) : List Pat := [.i .i64, .sl m .int]
abbrev TRow.c : Type := Int × (List Int) × Unit
def TRow.of : TRow.c → TRow := fun (x0, x1, _) => ⟨x0, x1⟩
def TRow.to (s : TRow) : TRow.c := (s.id_, s.cells, ())
def TKid.p (m : M) : List Pat := [.i .i64, .i .i64]
abbrev TKid.c : Type := Int × Int × Unit
def TKid.of : TKid.c → TKid := fun (x0, x1, _) => ⟨x0, x1⟩
def TKid.to (s : TKid) : TKid.c := (s.id_, s.n_, ())
def bB_.p (m : M) : List Pat := [.i .i64, .sl m .iCond, .i .i64, .b, .i .i64, .sl m .int, .b, .i .i64, .i .i64, .sl m .iRow, .sl m .iKid]
def bB_.q1 (m : M) : List Pat := [.i .i64, .sl m .lCond, .i .i64, .b, .i .i64, .sl m .int, .b, .i .i64, .i .i64, .sl m .lRow, .sl m .lKid]
abbrev bB_.c : Type := Int × (List aO_) × Int × Bool × Int × (List Int) × Bool × Int × Int × (List TRow) × (List TKid) × Unit
def bB_.of : bB_.c → bB_ := fun (x0, x1, x2, x3, x4, x5, x6, x7, x8, x9, x10, _) => ⟨⟨x0, x1, x2, x3, x4, x5, x6, x7, x8⟩, x9, x10⟩
def bB_.to (s : bB_) : bB_.c := (s.q.table, s.q.where_, s.q.order, s.q.down, s.q.first, s.q.show_, s.q.kids, s.q.kidTable, s.q.kidCol, s.rows, s.kids, ())
def aa_.p (m : M) : List Pat := [.i .i64, .i .i64, .s, .sl m .iJson, .sl m .str]
abbrev aa_.c : Type := Int × Int × Bs × (List aa_) × (List Bs) × Unit
def aa_.of : aa_.c → aa_ := fun (x0, x1, x2, x3, x4, _) => ⟨x0, x1, x2, x3, x4⟩
def aa_.to (s : aa_) : aa_.c := (s.kind, s.n_, s.s, s.list, s.names, ())
def TOp.p (m : M) : List Pat := [.i .i64, .sl m .str, .i .i64, .i .i64, .s, .sl m .iJson, .sl m .str]
abbrev TOp.c : Type := Int × (List Bs) × Int × Int × Bs × (List aa_) × (List Bs) × Unit
def TOp.of : TOp.c → TOp := fun (x0, x1, x2, x3, x4, x5, x6, _) => ⟨x0, x1, ⟨x2, x3, x4, x5, x6⟩⟩
def TOp.to (s : TOp) : TOp.c := (s.kind, s.way, s.value.kind, s.value.n_, s.value.s, s.value.list, s.value.names, ())
def am_.p (m : M) : List Pat := [.i .i64, .i .i64, .i .i64, .s, .sl m .iJson, .sl m .str]
abbrev am_.c : Type := Int × Int × Int × Bs × (List aa_) × (List Bs) × Unit
def am_.of : am_.c → am_ := fun (x0, x1, x2, x3, x4, x5, _) => ⟨x0, ⟨x1, x2, x3, x4, x5⟩⟩
def am_.to (s : am_) : am_.c := (s.key, s.value.kind, s.value.n_, s.value.s, s.value.list, s.value.names, ())

def b3_.d : FD Int := ⟨118, 12, 1, [.sl .v .lCond, .i .i64], [.i .i64], fun (a0, _) => a0, fun r => (r, ()), [.v, .v], [.v], [.k], [.tmp 4], [], [], [], []⟩
def b3_.F (n : Nat) : Pat.Ts b3_.d.ps → Option Int := fun (a0, a1, _) => b3_ n a0 a1

def ch_.d : FD Int := ⟨119, 12, 1, [.sl .v .int, .i .i64], [.i .i64], fun (a0, _) => a0, fun r => (r, ()), [.v, .v], [.v], [.k], [.tmp 4], [], [], [], []⟩
def ch_.F (n : Nat) : Pat.Ts ch_.d.ps → Option Int := fun (a0, a1, _) => ch_ n a0 a1

def b2_.d : FD Int := ⟨48, 18, 1, [.ag (bi_.q1 .v), .i .i64], [.i .i64], fun (a0, _) => a0, fun r => (r, ()), [.ag [.v, .v, .v, .v, .v, .v, .v, .v, .v], .v], [.v], [.k], [.tmp 4], [], [], [], []⟩
def b2_.F (n : Nat) : Pat.Ts b2_.d.ps → Option Int := fun (a0, a1, _) => b2_ n (bi_.of a0) a1

def cE_.d : FD Int := ⟨120, 12, 1, [.ag (TRow.p .v), .i .i64], [.i .i64], fun (a0, _) => a0, fun r => (r, ()), [.ag [.v, .v], .v], [.v], [.k], [.tmp 4], [], [], [], []⟩
def cE_.F (n : Nat) : Pat.Ts cE_.d.ps → Option Int := fun (a0, a1, _) => cE_ n (TRow.of a0) a1

def a1_.p7 : OD := ⟨[(0, .view .lRow), (1, .k), (5, .k)], [.sl .v .lRow, .i .i64, .i .i64], [.ext]⟩
def a1_.o0 : OD := ⟨[(1, .k)], [.i .i64], [.ext]⟩
def a1_.d : FD Int := ⟨49, 27, 1, [.sl .v .lRow, .i .i64], [.i .i64], fun (a0, _) => a0, fun r => (r, ()), [.v, .v], [.v], [.k], [.tmp 4], [], [(7, a1_.p7)], [], [(0, a1_.o0)]⟩
def a1_.F (n : Nat) : Pat.Ts a1_.d.ps → Option Int := fun (a0, a1, _) => a1_ n a0 a1

def cm_.d : FD Int := ⟨50, 12, 1, [.sl .v .lKid, .i .i64], [.i .i64], fun (a0, _) => a0, fun r => (r, ()), [.v, .v], [.v], [.k], [.tmp 4], [], [], [], []⟩
def cm_.F (n : Nat) : Pat.Ts cm_.d.ps → Option Int := fun (a0, a1, _) => cm_ n a0 a1

def cg_.d : FD Int := ⟨18, 24, 1, [.ag (bB_.q1 .v), .i .i64], [.i .i64], fun (a0, _) => a0, fun r => (r, ()), [.ag [.v, .v, .v, .v, .v, .v, .v, .v, .v, .v, .v], .v], [.v], [.k], [.tmp 4], [], [], [], []⟩
def cg_.F (n : Nat) : Pat.Ts cg_.d.ps → Option Int := fun (a0, a1, _) => cg_ n (bB_.of a0) a1

def cf_.d : FD aO_ := ⟨196, 14, 1, [.ag (aO_.p .v)], [.ag (aO_.p .v)], fun (a0, _) => (aO_.of a0), fun r => (aO_.to r, ()), [.ag [.v, .v, .v]], [.ag [.v, .v, .v]], [.ag [.k, .k, .k]], [.cell 2 139], [], [], [], []⟩
def cf_.F (n : Nat) : Pat.Ts cf_.d.ps → Option aO_ := fun (a0, _) => cf_ n (aO_.of a0)

def aP_.p4 : OD := ⟨[(0, .view .lCond), (3, .own .d .iCond), (4, .k)], [.sl .v .lCond, .rt 1, .i .i64], [.ext, .arr .d .iCond 2]⟩
def aP_.o0 : OD := ⟨[(3, .own .d .iCond)], [.rt 1], [.ext, .arr .d .iCond 2]⟩
def aP_.d : FD (List aO_) := ⟨128, 23, 1, [.sl .v .lCond], [.sl .d .iCond], fun (a0, _) => a0, fun r => (r, ()), [.v], [.o], [.own .d .iCond], [.tmp 2], [], [(4, aP_.p4)], [], [(0, aP_.o0)]⟩
def aP_.F (n : Nat) : Pat.Ts aP_.d.ps → Option (List aO_) := fun (a0, _) => aP_ n a0

def a0_.p4 : OD := ⟨[(0, .view .int), (3, .own .d .int), (4, .k)], [.sl .v .int, .rt 1, .i .i64], [.ext, .arr .d .int 2]⟩
def a0_.o0 : OD := ⟨[(3, .own .d .int)], [.rt 1], [.ext, .arr .d .int 2]⟩
def a0_.d : FD (List Int) := ⟨129, 22, 1, [.sl .v .int], [.sl .d .int], fun (a0, _) => a0, fun r => (r, ()), [.v], [.o], [.own .d .int], [.tmp 2], [], [(4, a0_.p4)], [], [(0, a0_.o0)]⟩
def a0_.F (n : Nat) : Pat.Ts a0_.d.ps → Option (List Int) := fun (a0, _) => a0_ n a0

def bV_.d : FD bi_ := ⟨56, 34, 1, [.ag (bi_.q1 .v)], [.ag (bi_.p .d)], fun (a0, _) => (bi_.of a0), fun r => (bi_.to r, ()), [.ag [.v, .v, .v, .v, .v, .v, .v, .v, .v]], [.ag [.v, .o, .v, .v, .v, .o, .v, .v, .v]], [.ag [.k, .own .d .iCond, .k, .k, .k, .own .d .int, .k, .k, .k]], [.cell 2 32], [], [], [], []⟩
def bV_.F (n : Nat) : Pat.Ts bV_.d.ps → Option bi_ := fun (a0, _) => bV_ n (bi_.of a0)

def cv_.d : FD TRow := ⟨130, 12, 1, [.ag (TRow.p .v)], [.ag (TRow.p .d)], fun (a0, _) => (TRow.of a0), fun r => (TRow.to r, ()), [.ag [.v, .v]], [.ag [.v, .o]], [.ag [.k, .own .d .int]], [.cell 2 84], [], [], [], []⟩
def cv_.F (n : Nat) : Pat.Ts cv_.d.ps → Option TRow := fun (a0, _) => cv_ n (TRow.of a0)

def a2_.p4 : OD := ⟨[(0, .view .lRow), (3, .own .d .iRow), (4, .k)], [.sl .v .lRow, .rt 1, .i .i64], [.ext, .arr .d .iRow 2]⟩
def a2_.o0 : OD := ⟨[(3, .own .d .iRow)], [.rt 1], [.ext, .arr .d .iRow 2]⟩
def a2_.d : FD (List TRow) := ⟨57, 23, 1, [.sl .v .lRow], [.sl .d .iRow], fun (a0, _) => a0, fun r => (r, ()), [.v], [.o], [.own .d .iRow], [.tmp 2], [], [(4, a2_.p4)], [], [(0, a2_.o0)]⟩
def a2_.F (n : Nat) : Pat.Ts a2_.d.ps → Option (List TRow) := fun (a0, _) => a2_ n a0

def cw_.d : FD TKid := ⟨131, 11, 1, [.ag (TKid.p .v)], [.ag (TKid.p .v)], fun (a0, _) => (TKid.of a0), fun r => (TKid.to r, ()), [.ag [.v, .v]], [.ag [.v, .v]], [.ag [.k, .k]], [.cell 2 89], [], [], [], []⟩
def cw_.F (n : Nat) : Pat.Ts cw_.d.ps → Option TKid := fun (a0, _) => cw_ n (TKid.of a0)

def a3_.p4 : OD := ⟨[(0, .view .lKid), (3, .own .d .iKid), (4, .k)], [.sl .v .lKid, .rt 1, .i .i64], [.ext, .arr .d .iKid 2]⟩
def a3_.o0 : OD := ⟨[(3, .own .d .iKid)], [.rt 1], [.ext, .arr .d .iKid 2]⟩
def a3_.d : FD (List TKid) := ⟨58, 23, 1, [.sl .v .lKid], [.sl .d .iKid], fun (a0, _) => a0, fun r => (r, ()), [.v], [.o], [.own .d .iKid], [.tmp 2], [], [(4, a3_.p4)], [], [(0, a3_.o0)]⟩
def a3_.F (n : Nat) : Pat.Ts a3_.d.ps → Option (List TKid) := fun (a0, _) => a3_ n a0

def bN_.d : FD bB_ := ⟨20, 17, 1, [.ag (bB_.q1 .v)], [.ag (bB_.p .d)], fun (a0, _) => (bB_.of a0), fun r => (bB_.to r, ()), [.ag [.v, .v, .v, .v, .v, .v, .v, .v, .v, .v, .v]], [.ag [.v, .o, .v, .v, .v, .o, .v, .v, .v, .o, .o]], [.ag [.k, .own .d .iCond, .k, .k, .k, .own .d .int, .k, .k, .k, .own .d .iRow, .own .d .iKid]], [.cell 2 38], [], [], [], []⟩
def bN_.F (n : Nat) : Pat.Ts bN_.d.ps → Option bB_ := fun (a0, _) => bN_ n (bB_.of a0)

def aY_.p3 : OD := ⟨[(0, .view .iCond), (1, .view .iCond), (5, .k)], [.sl .v .iCond, .sl .v .iCond, .i .i64], [.ext]⟩
def aY_.o0 : OD := ⟨[(0, .view .iCond), (1, .view .iCond)], [.sl .v .iCond, .sl .v .iCond], [.ext]⟩
def aY_.d : FD Bool := ⟨121, 32, 1, [.sl .v .iCond, .sl .v .iCond], [.b], fun (a0, _) => a0, fun r => (r, ()), [.v, .v], [.v], [.k], [.tmp 4], [], [(3, aY_.p3)], [], [(0, aY_.o0)]⟩
def aY_.F (n : Nat) : Pat.Ts aY_.d.ps → Option Bool := fun (a0, a1, _) => aY_ n a0 a1

def bb_.p3 : OD := ⟨[(0, .view .int), (1, .view .int), (5, .k)], [.sl .v .int, .sl .v .int, .i .i64], [.ext]⟩
def bb_.o0 : OD := ⟨[(0, .view .int), (1, .view .int)], [.sl .v .int, .sl .v .int], [.ext]⟩
def bb_.d : FD Bool := ⟨122, 32, 1, [.sl .v .int, .sl .v .int], [.b], fun (a0, _) => a0, fun r => (r, ()), [.v, .v], [.v], [.k], [.tmp 4], [], [(3, bb_.p3)], [], [(0, bb_.o0)]⟩
def bb_.F (n : Nat) : Pat.Ts bb_.d.ps → Option Bool := fun (a0, a1, _) => bb_ n a0 a1

def bH_.d : FD Bool := ⟨51, 66, 1, [.ag (bi_.p .v), .ag (bi_.p .v)], [.b], fun (a0, _) => a0, fun r => (r, ()), [.ag [.v, .v, .v, .v, .v, .v, .v, .v, .v], .ag [.v, .v, .v, .v, .v, .v, .v, .v, .v]], [.v], [.k], [.tmp 4], [], [], [], []⟩
def bH_.F (n : Nat) : Pat.Ts bH_.d.ps → Option Bool := fun (a0, a1, _) => bH_ n (bi_.of a0) (bi_.of a1)

def a7_.p3 : OD := ⟨[(0, .k), (3, .k)], [.s, .i .i64], [.ext]⟩
def a7_.o0 : OD := ⟨[(0, .k)], [.s], [.ext]⟩
def a7_.d : FD Bool := ⟨241, 23, 1, [.s], [.b], fun (a0, _) => a0, fun r => (r, ()), [.v], [.v], [.k], [.tmp 2], [], [(3, a7_.p3)], [], [(0, a7_.o0)]⟩
def a7_.F (n : Nat) : Pat.Ts a7_.d.ps → Option Bool := fun (a0, _) => a7_ n a0

def ae_.p6 : OD := ⟨[(1, .box [.k, .k, .k, .view .iJson, .view .str]), (3, .k)], [.pb 1 0, .i .i64], [.ext, .box (aa_.p .v)]⟩
def ae_.o0 : OD := ⟨[(1, .box [.k, .k, .k, .view .iJson, .view .str])], [.pb 1 0], [.ext, .box (aa_.p .v)]⟩
def ae_.d : FD Bool := ⟨242, 50, 1, [.ag (aa_.p .v)], [.b], fun (a0, _) => a0, fun r => (r, ()), [.ag [.v, .v, .v, .v, .v]], [.v], [.k], [.tmp 2], [], [(6, ae_.p6)], [], [(0, ae_.o0)]⟩
def ae_.F (n : Nat) : Pat.Ts ae_.d.ps → Option Bool := fun (a0, _) => ae_ n (aa_.of a0)

def cC_.d : FD Bool := ⟨219, 15, 1, (aO_.p .v), [.b], fun (a0, _) => a0, fun r => (r, ()), [.v, .v, .v], [.v], [.k], [.tmp 6], [], [], [], []⟩
def cC_.F (n : Nat) : Pat.Ts cC_.d.ps → Option Bool := fun (a0, a1, a2, _) => cC_ n a0 a1 a2

def aA_.p23 : OD := ⟨[(1, .k), (2, .box [.k, .k, .k, .view .iJson, .view .str]), (5, .k), (6, .k), (7, .k)], [.i .i64, .pb 1 0, .i .i64, .i .i64, .i .i64], [.ext, .box (aa_.p .v)]⟩
def aA_.o1 : OD := ⟨[(2, .box [.k, .k, .k, .view .iJson, .view .str]), (5, .k), (6, .k)], [.pb 1 0, .i .i64, .i .i64], [.ext, .box (aa_.p .v)]⟩
def aA_.d : FD Int := ⟨191, 106, 1, [.ag (aa_.p .v), .i .i64], [.i .i64], fun (a0, _) => a0, fun r => (r, ()), [.ag [.v, .v, .v, .v, .v], .v], [.v], [.k], [.tmp 4], [], [(23, aA_.p23)], [], [(1, aA_.o1)]⟩
def aA_.F (n : Nat) : Pat.Ts aA_.d.ps → Option Int := fun (a0, a1, _) => aA_ n (aa_.of a0) a1

def bZ_.d : FD Bool := ⟨123, 6, 1, [.ag (aa_.p .v)], [.b], fun (a0, _) => a0, fun r => (r, ()), [.ag [.v, .v, .v, .v, .v]], [.v], [.k], [.tmp 2], [], [], [], []⟩
def bZ_.F (n : Nat) : Pat.Ts bZ_.d.ps → Option Bool := fun (a0, _) => bZ_ n (aa_.of a0)

def cu_.d : FD aa_ := ⟨52, 11, 1, [.i .i64], [.ag (aa_.p .d)], fun (a0, _) => (aa_.of a0), fun r => (aa_.to r, ()), [.v], [.ag [.v, .v, .v, .o, .o]], [.ag [.k, .k, .k, .own .d .iJson, .own .d .str]], [.cell 2 49], [], [], [], []⟩
def cu_.F (n : Nat) : Pat.Ts cu_.d.ps → Option aa_ := fun (a0, _) => cu_ n a0

def cs_.d : FD Int := ⟨188, 10, 1, (TKid.p .v), [.i .i64], fun (a0, _) => a0, fun r => (r, ()), [.v, .v], [.v], [.k], [.tmp 4], [], [], [], []⟩
def cs_.F (n : Nat) : Pat.Ts cs_.d.ps → Option Int := fun (a0, a1, _) => cs_ n a0 a1

def ct_.d : FD Int := ⟨187, 10, 1, (TKid.p .v), [.i .i64], fun (a0, _) => a0, fun r => (r, ()), [.v, .v], [.v], [.k], [.tmp 4], [], [], [], []⟩
def ct_.F (n : Nat) : Pat.Ts ct_.d.ps → Option Int := fun (a0, a1, _) => ct_ n a0 a1

def bQ_.d : FD Int := ⟨114, 14, 1, [.ag (bi_.p .v), .i .i64], [.i .i64], fun (a0, _) => a0, fun r => (r, ()), [.ag [.v, .v, .v, .v, .v, .v, .v, .v, .v], .v], [.v], [.k], [.tmp 4], [], [], [], []⟩
def bQ_.F (n : Nat) : Pat.Ts bQ_.d.ps → Option Int := fun (a0, a1, _) => bQ_ n (bi_.of a0) a1

def bd_.p3 : OD := ⟨[(1, .k), (2, .box [.k, .view .iCond, .k, .k, .k, .view .int, .k, .k, .k, .view .iRow, .view .iKid]), (5, .k)], [.i .i64, .pb 1 0, .i .i64], [.ext, .box (bB_.p .v)]⟩
def bd_.o0 : OD := ⟨[], [], [.ext]⟩
def bd_.d : FD Int := ⟨12, 27, 1, [.ag (bB_.p .v), .i .i64], [.i .i64], fun (a0, _) => a0, fun r => (r, ()), [.ag [.v, .v, .v, .v, .v, .v, .v, .v, .v, .v, .v], .v], [.v], [.k], [.tmp 4], [], [(3, bd_.p3)], [], [(0, bd_.o0)]⟩
def bd_.F (n : Nat) : Pat.Ts bd_.d.ps → Option Int := fun (a0, a1, _) => bd_ n (bB_.of a0) a1

def aF_.p7 : OD := ⟨[(0, .k), (3, .k), (4, .k)], [.i .i64, .b, .s], [.ext]⟩
def aF_.o0 : OD := ⟨[(3, .k), (4, .k)], [.b, .s], [.ext]⟩
def aF_.d : FD Bs := ⟨155, 31, 1, [.i .i64], [.s], fun (a0, _) => a0, fun r => (r, ()), [.v], [.v], [.k], [.tmp 2], [], [(7, aF_.p7)], [], [(0, aF_.o0)]⟩
def aF_.F (n : Nat) : Pat.Ts aF_.d.ps → Option Bs := fun (a0, _) => aF_ n a0

def cd_.d : FD Int := ⟨190, 17, 1, [.ag (TRow.p .v), .i .i64], [.i .i64], fun (a0, _) => a0, fun r => (r, ()), [.ag [.v, .v], .v], [.v], [.k], [.tmp 4], [], [], [], []⟩
def cd_.F (n : Nat) : Pat.Ts cd_.d.ps → Option Int := fun (a0, a1, _) => cd_ n (TRow.of a0) a1

def bT_.d : FD aa_ := ⟨117, 5, 1, [.i .i64], [.ag (aa_.p .d)], fun (a0, _) => (aa_.of a0), fun r => (aa_.to r, ()), [.v], [.ag [.v, .v, .v, .o, .o]], [.ag [.k, .k, .k, .own .d .iJson, .own .d .str]], [.cell 2 49], [], [], [], []⟩
def bT_.F (n : Nat) : Pat.Ts bT_.d.ps → Option aa_ := fun (a0, _) => bT_ n a0

def bj_.p5 : OD := ⟨[(1, .k), (3, .box [.k, .k, .k, .view .iJson, .view .str]), (5, .box [.k, .k, .k, .view .iJson, .view .str]), (6, .box [.k, .k, .k, .k, .k]), (7, .box [.k, .k, .k, .own .s .iJson, .own .d .str]), (8, .k), (9, .k)], [.s, .pb 1 0, .pb 2 0, .pb 3 0, .pb 4 0, .b, .i .i64], [.ext, .box (aa_.p .v), .box (aa_.p .v), .box [.i .i64, .i .i64, .s, .nils, .nils], .box [.i .i64, .i .i64, .s, .rt 5, .rt 6], .arr .s .iJson 2, .arr .d .str 2]⟩
def bj_.o0 : OD := ⟨[(1, .k), (5, .box [.k, .k, .k, .view .iJson, .view .str]), (6, .box [.k, .k, .k, .k, .k]), (7, .box [.k, .k, .k, .own .s .iJson, .own .d .str]), (8, .k)], [.s, .pb 1 0, .pb 2 0, .pb 3 0, .b], [.ext, .box (aa_.p .v), .box [.i .i64, .i .i64, .s, .nils, .nils], .box [.i .i64, .i .i64, .s, .rt 4, .rt 5], .arr .s .iJson 2, .arr .d .str 2]⟩
def bj_.d : FD aa_ := ⟨189, 83, 1, [.ag (aa_.p .v), .s, .ag (aa_.p .v)], [.ag [.i .i64, .i .i64, .s, .sl .s .iJson, .sl .d .str]], fun (a0, _) => (aa_.of a0), fun r => (aa_.to r, ()), [.ag [.v, .v, .v, .v, .v], .v, .ag [.v, .v, .v, .v, .v]], [.ag [.v, .v, .v, .o, .o]], [.ag [.k, .k, .k, .own .s .iJson, .own .d .str]], [.cell 6 49], [], [(5, bj_.p5)], [], [(0, bj_.o0)]⟩
def bj_.F (n : Nat) : Pat.Ts bj_.d.ps → Option aa_ := fun (a0, a1, a2, _) => bj_ n (aa_.of a0) a1 (aa_.of a2)

def bc_.p4 : OD := ⟨[(2, .k), (3, .box [.k, .view .iCond, .k, .k, .k, .view .int, .k, .k, .k]), (4, .box [.k, .view .int]), (6, .box [.k, .k, .k, .k, .k]), (7, .box [.k, .k, .k, .own .s .iJson, .own .d .str]), (8, .k)], [.i .i64, .pb 1 0, .pb 2 0, .pb 3 0, .pb 4 0, .i .i64], [.ext, .box (bi_.p .v), .box (TRow.p .v), .box [.i .i64, .i .i64, .s, .nils, .nils], .box [.i .i64, .i .i64, .s, .rt 5, .rt 6], .arr .s .iJson 2, .arr .d .str 2]⟩
def bc_.o0 : OD := ⟨[(2, .k), (3, .box [.k, .view .iCond, .k, .k, .k, .view .int, .k, .k, .k]), (4, .box [.k, .view .int]), (6, .box [.k, .k, .k, .k, .k]), (7, .box [.k, .k, .k, .own .s .iJson, .own .d .str])], [.i .i64, .pb 1 0, .pb 2 0, .pb 3 0, .pb 4 0], [.ext, .box (bi_.p .v), .box (TRow.p .v), .box [.i .i64, .i .i64, .s, .nils, .nils], .box [.i .i64, .i .i64, .s, .rt 5, .rt 6], .arr .s .iJson 2, .arr .d .str 2]⟩
def bc_.d : FD aa_ := ⟨115, 46, 1, [.ag (bi_.p .v), .ag (TRow.p .v), .i .i64], [.ag [.i .i64, .i .i64, .s, .sl .s .iJson, .sl .d .str]], fun (a0, _) => (aa_.of a0), fun r => (aa_.to r, ()), [.ag [.v, .v, .v, .v, .v, .v, .v, .v, .v], .ag [.v, .v], .v], [.ag [.v, .v, .v, .o, .o]], [.ag [.k, .k, .k, .own .s .iJson, .own .d .str]], [.cell 6 49], [], [(4, bc_.p4)], [], [(0, bc_.o0)]⟩
def bc_.F (n : Nat) : Pat.Ts bc_.d.ps → Option aa_ := fun (a0, a1, a2, _) => bc_ n (bi_.of a0) (TRow.of a1) a2

def bP_.d : FD aa_ := ⟨116, 8, 1, [.ag (aa_.p .v)], [.ag (aa_.p .v)], fun (a0, _) => (aa_.of a0), fun r => (aa_.to r, ()), [.ag [.v, .v, .v, .v, .v]], [.ag [.v, .v, .v, .v, .v]], [.ag [.k, .k, .k, .view .iJson, .view .str]], [.cell 2 49], [], [], [], []⟩
def bP_.F (n : Nat) : Pat.Ts bP_.d.ps → Option aa_ := fun (a0, _) => bP_ n (aa_.of a0)

def ce_.d : FD aa_ := ⟨124, 12, 1, [.ag (bi_.p .v), .ag (TRow.p .v), .i .i64], [.ag (aa_.p .v)], fun (a0, _) => (aa_.of a0), fun r => (aa_.to r, ()), [.ag [.v, .v, .v, .v, .v, .v, .v, .v, .v], .ag [.v, .v], .v], [.ag [.v, .v, .v, .v, .v]], [.ag [.k, .k, .k, .view .iJson, .view .str]], [.cell 6 49], [], [], [], []⟩
def ce_.F (n : Nat) : Pat.Ts ce_.d.ps → Option aa_ := fun (a0, a1, a2, _) => ce_ n (bi_.of a0) (TRow.of a1) a2

def aN_.p5 : OD := ⟨[(1, .box [.k, .view .iCond, .k, .k, .k, .view .int, .k, .k, .k, .view .iRow, .view .iKid]), (4, .own .s .iJson), (5, .own .d .int), (6, .k)], [.pb 1 0, .rt 2, .rt 3, .i .i64], [.ext, .box (bB_.p .v), .arr .s .iJson 2, .arr .d .int 2]⟩
def aN_.o0 : OD := ⟨[(4, .own .s .iJson), (5, .own .d .int)], [.rt 1, .rt 2], [.ext, .arr .s .iJson 2, .arr .d .int 2]⟩
def aN_.d : FD ((List aa_) × (List Int)) := ⟨53, 49, 1, [.ag (bB_.p .v)], [.sl .s .iJson, .sl .d .int], fun (a0, a1, _) => (a0, a1), fun (a0, a1) => (a0, a1, ()), [.ag [.v, .v, .v, .v, .v, .v, .v, .v, .v, .v, .v]], [.o, .o], [.own .s .iJson, .own .d .int], [.tmp 2, .tmp 3], [], [(5, aN_.p5)], [], [(0, aN_.o0)]⟩
def aN_.F (n : Nat) : Pat.Ts aN_.d.ps → Option ((List aa_) × (List Int)) := fun (a0, _) => aN_ n (bB_.of a0)

def bs_.p3 : OD := ⟨[(0, .view .int), (1, .k), (5, .k)], [.sl .v .int, .i .i64, .i .i64], [.ext]⟩
def bs_.o0 : OD := ⟨[], [], [.ext]⟩
def bs_.d : FD Int := ⟨192, 19, 1, [.sl .v .int, .i .i64], [.i .i64], fun (a0, _) => a0, fun r => (r, ()), [.v, .v], [.v], [.k], [.tmp 4], [], [(3, bs_.p3)], [], [(0, bs_.o0)]⟩
def bs_.F (n : Nat) : Pat.Ts bs_.d.ps → Option Int := fun (a0, a1, _) => bs_ n a0 a1

def aw_.p3 : OD := ⟨[(0, .view .int), (1, .view .iJson), (5, .k)], [.sl .v .int, .sl .v .iJson, .i .i64], [.ext]⟩
def aw_.p11 : OD := ⟨[(0, .view .int), (1, .view .iJson), (6, .k)], [.sl .v .int, .sl .v .iJson, .i .i64], [.ext]⟩
def aw_.o0 : OD := ⟨[(0, .view .int), (1, .view .iJson)], [.sl .v .int, .sl .v .iJson], [.ext]⟩
def aw_.o2 : OD := ⟨[(0, .view .int), (1, .view .iJson)], [.sl .v .int, .sl .v .iJson], [.ext]⟩
def aw_.d : FD Bool := ⟨126, 39, 1, [.sl .v .int, .sl .v .iJson], [.b], fun (a0, _) => a0, fun r => (r, ()), [.v, .v], [.v], [.k], [.tmp 4], [], [(3, aw_.p3), (11, aw_.p11)], [], [(0, aw_.o0), (2, aw_.o2)]⟩
def aw_.F (n : Nat) : Pat.Ts aw_.d.ps → Option Bool := fun (a0, a1, _) => aw_ n a0 a1

def bD_.d : FD (List Int) := ⟨193, 15, 1, [.sl .v .int, .i .i64], [.sl .d .int], fun (a0, _) => a0, fun r => (r, ()), [.v, .v], [.o], [.own .d .int], [.tmp 4], [], [], [], []⟩
def bD_.F (n : Nat) : Pat.Ts bD_.d.ps → Option (List Int) := fun (a0, a1, _) => bD_ n a0 a1

def ah_.p6 : OD := ⟨[(2, .box [.k, .k, .k, .view .iJson, .view .str]), (3, .box [.k, .k, .k, .view .iJson, .view .str]), (5, .k)], [.pb 1 0, .pb 2 0, .i .i64], [.ext, .box (aa_.p .v), .box (aa_.p .v)]⟩
def ah_.p14 : OD := ⟨[(2, .box [.k, .k, .k, .view .iJson, .view .str]), (3, .box [.k, .k, .k, .view .iJson, .view .str]), (6, .k)], [.pb 1 0, .pb 2 0, .i .i64], [.ext, .box (aa_.p .v), .box (aa_.p .v)]⟩
def ah_.o0 : OD := ⟨[(2, .box [.k, .k, .k, .view .iJson, .view .str]), (3, .box [.k, .k, .k, .view .iJson, .view .str])], [.pb 1 0, .pb 2 0], [.ext, .box (aa_.p .v), .box (aa_.p .v)]⟩
def ah_.o2 : OD := ⟨[], [], [.ext]⟩
def ah_.d : FD Bool := ⟨194, 81, 1, [.ag (aa_.p .v), .ag (aa_.p .v)], [.b], fun (a0, _) => a0, fun r => (r, ()), [.ag [.v, .v, .v, .v, .v], .ag [.v, .v, .v, .v, .v]], [.v], [.k], [.tmp 4], [], [(6, ah_.p6), (14, ah_.p14)], [], [(0, ah_.o0), (2, ah_.o2)]⟩
def ah_.F (n : Nat) : Pat.Ts ah_.d.ps → Option Bool := fun (a0, a1, _) => ah_ n (aa_.of a0) (aa_.of a1)

def aX_.p4 : OD := ⟨[(1, .box [.k, .k, .k, .view .iJson, .view .str]), (2, .box [.k, .k, .k, .k, .k]), (3, .box [.k, .k, .k, .own .d .iJson, .own .d .str]), (4, .k)], [.pb 1 0, .pb 2 0, .pb 3 0, .i .i64], [.ext, .box (aa_.p .v), .box [.i .i64, .i .i64, .s, .nils, .nils], .box [.i .i64, .i .i64, .s, .rt 4, .rt 5], .arr .d .iJson 2, .arr .d .str 2]⟩
def aX_.o0 : OD := ⟨[(2, .box [.k, .k, .k, .k, .k]), (3, .box [.k, .k, .k, .own .d .iJson, .own .d .str])], [.pb 1 0, .pb 2 0], [.ext, .box [.i .i64, .i .i64, .s, .nils, .nils], .box [.i .i64, .i .i64, .s, .rt 3, .rt 4], .arr .d .iJson 2, .arr .d .str 2]⟩
def aX_.d : FD aa_ := ⟨125, 35, 1, [.ag (aa_.p .v)], [.ag (aa_.p .d)], fun (a0, _) => (aa_.of a0), fun r => (aa_.to r, ()), [.ag [.v, .v, .v, .v, .v]], [.ag [.v, .v, .v, .o, .o]], [.ag [.k, .k, .k, .own .d .iJson, .own .d .str]], [.cell 2 49], [], [(4, aX_.p4)], [], [(0, aX_.o0)]⟩
def aX_.F (n : Nat) : Pat.Ts aX_.d.ps → Option aa_ := fun (a0, _) => aX_ n (aa_.of a0)

def bM_.d : FD (List Int) := ⟨195, 22, 1, [.sl .v .int, .i .i64, .i .i64], [.sl .d .int], fun (a0, _) => a0, fun r => (r, ()), [.v, .v, .v], [.o], [.own .d .int], [.tmp 6], [], [], [], []⟩
def bM_.F (n : Nat) : Pat.Ts bM_.d.ps → Option (List Int) := fun (a0, a1, a2, _) => bM_ n a0 a1 a2

def as_.p5 : OD := ⟨[(0, .view .iJson), (1, .view .int), (2, .view .iJson), (3, .view .int), (9, .own .d .iOp), (10, .own .d .int), (11, .k)], [.sl .v .iJson, .sl .v .int, .sl .v .iJson, .sl .v .int, .rt 1, .rt 2, .i .i64], [.ext, .arr .d .iOp 2, .arr .d .int 2]⟩
def as_.p13 : OD := ⟨[(0, .view .iJson), (1, .view .int), (2, .view .iJson), (3, .view .int), (9, .own .d .iOp), (10, .own .d .int), (12, .k)], [.sl .v .iJson, .sl .v .int, .sl .v .iJson, .sl .v .int, .rt 1, .rt 2, .i .i64], [.ext, .arr .d .iOp 2, .arr .d .int 2]⟩
def as_.o0 : OD := ⟨[(0, .view .iJson), (1, .view .int), (2, .view .iJson), (3, .view .int), (9, .own .d .iOp), (10, .own .d .int)], [.sl .v .iJson, .sl .v .int, .sl .v .iJson, .sl .v .int, .rt 1, .rt 2], [.ext, .arr .d .iOp 2, .arr .d .int 2]⟩
def as_.o2 : OD := ⟨[(9, .own .d .iOp)], [.rt 1], [.ext, .arr .d .iOp 2]⟩
def as_.d : FD (List TOp) := ⟨127, 116, 1, [.sl .v .iJson, .sl .v .int, .sl .v .iJson, .sl .v .int], [.sl .d .iOp], fun (a0, _) => a0, fun r => (r, ()), [.v, .v, .v, .v], [.o], [.own .d .iOp], [.tmp 8], [], [(5, as_.p5), (13, as_.p13)], [], [(0, as_.o0), (2, as_.o2)]⟩
def as_.F (n : Nat) : Pat.Ts as_.d.ps → Option (List TOp) := fun (a0, a1, a2, a3, _) => as_ n a0 a1 a2 a3

def cH_.d : FD (List TOp) := ⟨55, 25, 1, [.sl .v .iJson, .sl .v .int, .sl .v .iJson, .sl .v .int], [.sl .d .iOp], fun (a0, _) => a0, fun r => (r, ()), [.v, .v, .v, .v], [.o], [.own .d .iOp], [.tmp 8], [], [], [], []⟩
def cH_.F (n : Nat) : Pat.Ts cH_.d.ps → Option (List TOp) := fun (a0, a1, a2, a3, _) => cH_ n a0 a1 a2 a3

def bn_.p4 : OD := ⟨[(0, .k), (1, .view .iOp), (5, .own .d .iOp), (6, .k)], [.s, .sl .v .iOp, .rt 1, .i .i64], [.ext, .arr .d .iOp 2]⟩
def bn_.o0 : OD := ⟨[(5, .own .d .iOp)], [.rt 1], [.ext, .arr .d .iOp 2]⟩
def bn_.d : FD (List TOp) := ⟨54, 38, 1, [.s, .sl .v .iOp], [.sl .d .iOp], fun (a0, _) => a0, fun r => (r, ()), [.v, .v], [.o], [.own .d .iOp], [.tmp 4], [], [(4, bn_.p4)], [], [(0, bn_.o0)]⟩
def bn_.F (n : Nat) : Pat.Ts bn_.d.ps → Option (List TOp) := fun (a0, a1, _) => bn_ n a0 a1

def bG_.d : FD (List TOp) := ⟨19, 52, 1, [.ag (bB_.p .v), .ag (bB_.p .v)], [.sl .d .iOp], fun (a0, _) => a0, fun r => (r, ()), [.ag [.v, .v, .v, .v, .v, .v, .v, .v, .v, .v, .v], .ag [.v, .v, .v, .v, .v, .v, .v, .v, .v, .v, .v]], [.o], [.own .d .iOp], [.tmp 4], [], [], [], []⟩
def bG_.F (n : Nat) : Pat.Ts bG_.d.ps → Option (List TOp) := fun (a0, a1, _) => bG_ n (bB_.of a0) (bB_.of a1)

def al_.p6 : OD := ⟨[(0, .view .iCond), (1, .view .iCond), (12, .k), (13, .k)], [.sl .v .iCond, .sl .v .iCond, .i .i64, .i .i64], [.ext]⟩
def al_.o0 : OD := ⟨[], [], [.ext]⟩
def al_.d : FD Bool := ⟨132, 26, 1, [.sl .v .iCond, .sl .v .iCond], [.b], fun (a0, _) => a0, fun r => (r, ()), [.v, .v], [.v], [.k], [.tmp 4], [], [(6, al_.p6)], [], [(0, al_.o0)]⟩
def al_.F (n : Nat) : Pat.Ts al_.d.ps → Option Bool := fun (a0, a1, _) => al_ n a0 a1

def av_.p6 : OD := ⟨[(0, .view .int), (1, .view .int), (12, .k), (13, .k)], [.sl .v .int, .sl .v .int, .i .i64, .i .i64], [.ext]⟩
def av_.o0 : OD := ⟨[], [], [.ext]⟩
def av_.d : FD Bool := ⟨133, 26, 1, [.sl .v .int, .sl .v .int], [.b], fun (a0, _) => a0, fun r => (r, ()), [.v, .v], [.v], [.k], [.tmp 4], [], [(6, av_.p6)], [], [(0, av_.o0)]⟩
def av_.F (n : Nat) : Pat.Ts av_.d.ps → Option Bool := fun (a0, a1, _) => av_ n a0 a1

def bJ_.d : FD Bool := ⟨59, 70, 1, [.ag (bi_.p .v), .ag (bi_.p .v)], [.b], fun (a0, _) => a0, fun r => (r, ()), [.ag [.v, .v, .v, .v, .v, .v, .v, .v, .v], .ag [.v, .v, .v, .v, .v, .v, .v, .v, .v]], [.v], [.k], [.tmp 4], [], [], [], []⟩
def bJ_.F (n : Nat) : Pat.Ts bJ_.d.ps → Option Bool := fun (a0, a1, _) => bJ_ n (bi_.of a0) (bi_.of a1)

def aM_.d : FD Bool := ⟨98, 15, 1, (aO_.p .v), [.b], fun (a0, _) => a0, fun r => (r, ()), [.v, .v, .v], [.v], [.k], [.tmp 6], [], [], [], []⟩
def aM_.F (n : Nat) : Pat.Ts aM_.d.ps → Option Bool := fun (a0, a1, a2, _) => aM_ n a0 a1 a2

def bh_.d : FD Bool := ⟨99, 5, 1, [.i .i64], [.b], fun (a0, _) => a0, fun r => (r, ()), [.v], [.v], [.k], [.tmp 2], [], [], [], []⟩
def bh_.F (n : Nat) : Pat.Ts bh_.d.ps → Option Bool := fun (a0, _) => bh_ n a0

def ap_.p3 : OD := ⟨[(0, .k), (5, .k), (6, .k)], [.s, .i .i64, .i .i64], [.ext]⟩
def ap_.o0 : OD := ⟨[(0, .k)], [.s], [.ext]⟩
def ap_.d : FD Bool := ⟨282, 19, 1, [.s], [.b], fun (a0, _) => a0, fun r => (r, ()), [.v], [.v], [.k], [.tmp 2], [], [(3, ap_.p3)], [], [(0, ap_.o0)]⟩
def ap_.F (n : Nat) : Pat.Ts ap_.d.ps → Option Bool := fun (a0, _) => ap_ n a0

def ag_.p3 : OD := ⟨[(0, .view .str), (5, .view .str), (6, .k), (7, .k)], [.sl .v .str, .sl .v .str, .i .i64, .i .i64], [.ext]⟩
def ag_.o0 : OD := ⟨[], [], [.ext]⟩
def ag_.d : FD Bool := ⟨284, 29, 1, [.sl .v .str], [.b], fun (a0, _) => a0, fun r => (r, ()), [.v], [.v], [.k], [.tmp 2], [], [(3, ag_.p3)], [], [(0, ag_.o0)]⟩
def ag_.F (n : Nat) : Pat.Ts ag_.d.ps → Option Bool := fun (a0, _) => ag_ n a0

def cz_.d : FD Bool := ⟨249, 90, 1, [.ag (aa_.p .v)], [.b], fun (a0, _) => a0, fun r => (r, ()), [.ag [.v, .v, .v, .v, .v]], [.v], [.k], [.tmp 2], [], [], [], []⟩
def cz_.F (n : Nat) : Pat.Ts cz_.d.ps → Option Bool := fun (a0, _) => cz_ n (aa_.of a0)

def aS_.p7 : OD := ⟨[(1, .k), (5, .k), (16, .view .iJson), (17, .k), (18, .k)], [.i .i64, .i .i64, .sl .v .iJson, .i .i64, .i .i64], [.ext]⟩
def aS_.o0 : OD := ⟨[(5, .k)], [.i .i64], [.ext]⟩
def aS_.d : FD Int := ⟨211, 32, 1, [.ag (aa_.p .v), .i .i64], [.i .i64], fun (a0, _) => a0, fun r => (r, ()), [.ag [.v, .v, .v, .v, .v], .v], [.v], [.k], [.tmp 4], [], [(7, aS_.p7)], [], [(0, aS_.o0)]⟩
def aS_.F (n : Nat) : Pat.Ts aS_.d.ps → Option Int := fun (a0, a1, _) => aS_ n (aa_.of a0) a1

def b1_.d : FD Bool := ⟨152, 6, 1, [.ag (aa_.p .v)], [.b], fun (a0, _) => a0, fun r => (r, ()), [.ag [.v, .v, .v, .v, .v]], [.v], [.k], [.tmp 2], [], [], [], []⟩
def b1_.F (n : Nat) : Pat.Ts b1_.d.ps → Option Bool := fun (a0, _) => b1_ n (aa_.of a0)

def bA_.d : FD aa_ := ⟨113, 8, 1, [.ag [.i .i64, .i .i64, .s, .nils, .nils]], [.ag (aa_.p .d)], fun (a0, _) => (aa_.of a0), fun r => (aa_.to r, ()), [.ag [.v, .v, .v, .v, .v]], [.ag [.v, .v, .v, .o, .o]], [.ag [.k, .k, .k, .own .d .iJson, .own .d .str]], [.cell 2 49], [], [], [], []⟩
def bA_.F (n : Nat) : Pat.Ts bA_.d.ps → Option aa_ := fun ((a0, a1, a2, _, _, _), _) => bA_ n a0 a1 a2

def cA_.d : FD aa_ := ⟨60, 6, 1, [.i .i64], [.ag (aa_.p .d)], fun (a0, _) => (aa_.of a0), fun r => (aa_.to r, ()), [.v], [.ag [.v, .v, .v, .o, .o]], [.ag [.k, .k, .k, .own .d .iJson, .own .d .str]], [.cell 2 49], [], [], [], []⟩
def cA_.F (n : Nat) : Pat.Ts cA_.d.ps → Option aa_ := fun (a0, _) => cA_ n a0

def bg_.p3 : OD := ⟨[(1, .k), (8, .view .iKid), (9, .k), (10, .k)], [.i .i64, .sl .v .iKid, .i .i64, .i .i64], [.ext]⟩
def bg_.o0 : OD := ⟨[], [], [.ext]⟩
def bg_.d : FD Int := ⟨11, 21, 1, [.ag (bB_.p .v), .i .i64], [.i .i64], fun (a0, _) => a0, fun r => (r, ()), [.ag [.v, .v, .v, .v, .v, .v, .v, .v, .v, .v, .v], .v], [.v], [.k], [.tmp 4], [], [(3, bg_.p3)], [], [(0, bg_.o0)]⟩
def bg_.F (n : Nat) : Pat.Ts bg_.d.ps → Option Int := fun (a0, a1, _) => bg_ n (bB_.of a0) a1

def az_.p4 : OD := ⟨[(1, .box [.k, .view .iCond, .k, .k, .k, .view .int, .k, .k, .k, .view .iRow, .view .iKid]), (3, .own .d .int), (8, .view .iRow), (9, .k), (10, .k)], [.pb 1 0, .rt 2, .sl .v .iRow, .i .i64, .i .i64], [.ext, .box (bB_.p .v), .arr .d .int 2]⟩
def az_.o0 : OD := ⟨[(3, .own .d .int)], [.rt 1], [.ext, .arr .d .int 2]⟩
def az_.d : FD (List Int) := ⟨45, 23, 1, [.ag (bB_.p .v)], [.sl .d .int], fun (a0, _) => a0, fun r => (r, ()), [.ag [.v, .v, .v, .v, .v, .v, .v, .v, .v, .v, .v]], [.o], [.own .d .int], [.tmp 2], [], [(4, az_.p4)], [], [(0, az_.o0)]⟩
def az_.F (n : Nat) : Pat.Ts az_.d.ps → Option (List Int) := fun (a0, _) => az_ n (bB_.of a0)

def bX_.d : FD Int := ⟨184, 14, 1, [.ag (bi_.p .v), .i .i64], [.i .i64], fun (a0, _) => a0, fun r => (r, ()), [.ag [.v, .v, .v, .v, .v, .v, .v, .v, .v], .v], [.v], [.k], [.tmp 4], [], [], [], []⟩
def bX_.F (n : Nat) : Pat.Ts bX_.d.ps → Option Int := fun (a0, a1, _) => bX_ n (bi_.of a0) a1

def au_.p3 : OD := ⟨[(0, .view .int), (1, .k), (7, .k), (8, .k)], [.sl .v .int, .i .i64, .i .i64, .i .i64], [.ext]⟩
def au_.o0 : OD := ⟨[], [], [.ext]⟩
def au_.d : FD Int := ⟨243, 19, 1, [.sl .v .int, .i .i64], [.i .i64], fun (a0, _) => a0, fun r => (r, ()), [.v, .v], [.v], [.k], [.tmp 4], [], [(3, au_.p3)], [], [(0, au_.o0)]⟩
def au_.F (n : Nat) : Pat.Ts au_.d.ps → Option Int := fun (a0, a1, _) => au_ n a0 a1

def a9_.d : FD Bool := ⟨198, 9, 1, [.sl .v .int, .i .i64], [.b], fun (a0, _) => a0, fun r => (r, ()), [.v, .v], [.v], [.k], [.tmp 4], [], [], [], []⟩
def a9_.F (n : Nat) : Pat.Ts a9_.d.ps → Option Bool := fun (a0, a1, _) => a9_ n a0 a1

def strconv_Itoa.d : FD Bs := ⟨201, 5, 1, [.i .i64], [.s], fun (a0, _) => a0, fun r => (r, ()), [.v], [], [], [.tmp 2], [], [], [], []⟩
def strconv_Itoa.F (n : Nat) : Pat.Ts strconv_Itoa.d.ps → Option Bs := fun (a0, _) => strconv_Itoa n a0

def cj_.d : FD Bs := ⟨170, 5, 1, [.i .i64], [.s], fun (a0, _) => a0, fun r => (r, ()), [.v], [.v], [.k], [.tmp 2], [], [], [], []⟩
def cj_.F (n : Nat) : Pat.Ts cj_.d.ps → Option Bs := fun (a0, _) => cj_ n a0

def cl_.d : FD Int := ⟨180, 17, 1, [.ag (TRow.p .v), .i .i64], [.i .i64], fun (a0, _) => a0, fun r => (r, ()), [.ag [.v, .v], .v], [.v], [.k], [.tmp 4], [], [], [], []⟩
def cl_.F (n : Nat) : Pat.Ts cl_.d.ps → Option Int := fun (a0, a1, _) => cl_ n (TRow.of a0) a1

def br_.d : FD Bool := ⟨320, 6, 1, [.s], [.b], fun (a0, _) => a0, fun r => (r, ()), [.v], [.v], [.k], [.tmp 2], [], [], [], []⟩
def br_.F (n : Nat) : Pat.Ts br_.d.ps → Option Bool := fun (a0, _) => br_ n a0

def bv_.d : FD Bool := ⟨300, 17, 1, [.s, .s], [.b], fun (a0, _) => a0, fun r => (r, ()), [.v, .v], [.v], [.k], [.tmp 4], [], [], [], []⟩
def bv_.F (n : Nat) : Pat.Ts bv_.d.ps → Option Bool := fun (a0, a1, _) => bv_ n a0 a1

def a8_.d : FD Bool := ⟨301, 6, 1, [.s], [.b], fun (a0, _) => a0, fun r => (r, ()), [.v], [.v], [.k], [.tmp 2], [], [], [], []⟩
def a8_.F (n : Nat) : Pat.Ts a8_.d.ps → Option Bool := fun (a0, _) => a8_ n a0

def ad_.p4 : OD := ⟨[(0, .view .str), (1, .k), (6, .k), (7, .k), (8, .k)], [.sl .v .str, .s, .i .i64, .i .i64, .i .i64], [.ext]⟩
def ad_.o0 : OD := ⟨[(0, .view .str), (1, .k), (6, .k), (7, .k)], [.sl .v .str, .s, .i .i64, .i .i64], [.ext]⟩
def ad_.d : FD (Int × Bool) := ⟨277, 54, 1, [.sl .v .str, .s], [.i .i64, .b], fun (a0, a1, _) => (a0, a1), fun (a0, a1) => (a0, a1, ()), [.v, .v], [.v, .v], [.k, .k], [.tmp 4, .tmp 5], [], [(4, ad_.p4)], [], [(0, ad_.o0)]⟩
def ad_.F (n : Nat) : Pat.Ts ad_.d.ps → Option (Int × Bool) := fun (a0, a1, _) => ad_ n a0 a1

def bq_.d : FD (List Bs) := ⟨278, 95, 1, [.sl .d .str, .i .i64, .sl .d .str], [.sl .d .str], fun (a0, _) => a0, fun r => (r, ()), [.o, .v, .o], [], [], [.tmp 6], [], [], [], []⟩
def bq_.F (n : Nat) : Pat.Ts bq_.d.ps → Option (List Bs) := fun (a0, a1, a2, _) => bq_ n a0 a1 a2

def bu_.d : FD (List aa_) := ⟨279, 95, 1, [.sl .d .iJson, .i .i64, .sl .d .iJson], [.sl .d .iJson], fun (a0, _) => a0, fun r => (r, ()), [.o, .v, .o], [], [], [.tmp 6], [], [], [], []⟩
def bu_.F (n : Nat) : Pat.Ts bu_.d.ps → Option (List aa_) := fun (a0, a1, a2, _) => bu_ n a0 a1 a2

def bk_.p4 : OD := ⟨[(1, .view .int), (4, .box [.k, .k, .k, .k, .k]), (5, .box [.k, .k, .k, .own .d .iJson, .own .d .str]), (11, .view .str), (12, .k), (13, .k)], [.sl .v .int, .pb 1 0, .pb 2 0, .sl .v .str, .i .i64, .i .i64], [.ext, .box [.i .i64, .i .i64, .s, .nils, .nils], .box [.i .i64, .i .i64, .s, .rt 3, .rt 4], .arr .d .iJson 2, .arr .d .str 2]⟩
def bk_.o0 : OD := ⟨[(4, .box [.k, .k, .k, .k, .k]), (5, .box [.k, .k, .k, .own .d .iJson, .own .d .str])], [.pb 1 0, .pb 2 0], [.ext, .box [.i .i64, .i .i64, .s, .nils, .nils], .box [.i .i64, .i .i64, .s, .rt 3, .rt 4], .arr .d .iJson 2, .arr .d .str 2]⟩
def bk_.d : FD aa_ := ⟨240, 45, 1, [.sl .v .str, .sl .v .int], [.ag (aa_.p .d)], fun (a0, _) => (aa_.of a0), fun r => (aa_.to r, ()), [.v, .v], [.ag [.v, .v, .v, .o, .o]], [.ag [.k, .k, .k, .own .d .iJson, .own .d .str]], [.cell 4 49], [], [(4, bk_.p4)], [], [(0, bk_.o0)]⟩
def bk_.F (n : Nat) : Pat.Ts bk_.d.ps → Option aa_ := fun (a0, a1, _) => bk_ n a0 a1

def b0_.d : FD aa_ := ⟨113, 8, 1, [.ag (aa_.p .v)], [.ag (aa_.p .v)], fun (a0, _) => (aa_.of a0), fun r => (aa_.to r, ()), [.ag [.v, .v, .v, .v, .v]], [.ag [.v, .v, .v, .v, .v]], [.ag [.k, .k, .k, .view .iJson, .view .str]], [.cell 2 49], [], [], [], []⟩
def b0_.F (n : Nat) : Pat.Ts b0_.d.ps → Option aa_ := fun (a0, _) => b0_ n (aa_.of a0)

def a4_.p4 : OD := ⟨[(2, .k), (3, .box [.k, .view .iCond, .k, .k, .k, .view .int, .k, .k, .k]), (4, .box [.k, .view .int]), (6, .box [.k, .k, .k, .k, .k]), (7, .own .d .str), (8, .own .d .int), (16, .view .int), (17, .k), (18, .k)], [.i .i64, .pb 1 0, .pb 2 0, .pb 3 0, .rt 4, .rt 5, .sl .v .int, .i .i64, .i .i64], [.ext, .box (bi_.p .v), .box (TRow.p .v), .box [.i .i64, .i .i64, .s, .nils, .nils], .arr .d .str 2, .arr .d .int 2]⟩
def a4_.o0 : OD := ⟨[(2, .k), (3, .box [.k, .view .iCond, .k, .k, .k, .view .int, .k, .k, .k]), (6, .box [.k, .k, .k, .k, .k]), (7, .own .d .str), (8, .own .d .int)], [.i .i64, .pb 1 0, .pb 2 0, .rt 3, .rt 4], [.ext, .box (bi_.p .v), .box [.i .i64, .i .i64, .s, .nils, .nils], .arr .d .str 2, .arr .d .int 2]⟩
def a4_.d : FD aa_ := ⟨185, 55, 1, [.ag (bi_.p .v), .ag (TRow.p .v), .i .i64], [.ag (aa_.p .v)], fun (a0, _) => (aa_.of a0), fun r => (aa_.to r, ()), [.ag [.v, .v, .v, .v, .v, .v, .v, .v, .v], .ag [.v, .v], .v], [.ag [.v, .v, .v, .v, .v]], [.ag [.k, .k, .k, .view .iJson, .view .str]], [.cell 6 49], [], [(4, a4_.p4)], [], [(0, a4_.o0)]⟩
def a4_.F (n : Nat) : Pat.Ts a4_.d.ps → Option aa_ := fun (a0, a1, a2, _) => a4_ n (bi_.of a0) (TRow.of a1) a2

def aV_.p4 : OD := ⟨[(2, .view .int), (3, .box [.k, .view .iCond, .k, .k, .k, .view .int, .k, .k, .k]), (7, .own .s .iJson), (17, .view .iRow), (18, .k), (19, .k)], [.sl .v .int, .pb 1 0, .rt 2, .sl .v .iRow, .i .i64, .i .i64], [.ext, .box (bi_.p .v), .arr .s .iJson 2]⟩
def aV_.o0 : OD := ⟨[(7, .own .s .iJson)], [.rt 1], [.ext, .arr .s .iJson 2]⟩
def aV_.d : FD (List aa_) := ⟨110, 41, 1, [.ag (bi_.p .v), .sl .v .iRow, .sl .v .int], [.sl .s .iJson], fun (a0, _) => a0, fun r => (r, ()), [.ag [.v, .v, .v, .v, .v, .v, .v, .v, .v], .v, .v], [.o], [.own .s .iJson], [.tmp 6], [], [(4, aV_.p4)], [], [(0, aV_.o0)]⟩
def aV_.F (n : Nat) : Pat.Ts aV_.d.ps → Option (List aa_) := fun (a0, a1, a2, _) => aV_ n (bi_.of a0) a1 a2

def bl_.p5 : OD := ⟨[(4, .own .s .iJson), (5, .own .d .int), (20, .view .iRow), (21, .k), (22, .k)], [.rt 1, .rt 2, .sl .v .iRow, .i .i64, .i .i64], [.ext, .arr .s .iJson 2, .arr .d .int 2]⟩
def bl_.o0 : OD := ⟨[(4, .own .s .iJson), (5, .own .d .int)], [.rt 1, .rt 2], [.ext, .arr .s .iJson 2, .arr .d .int 2]⟩
def bl_.d : FD ((List aa_) × (List Int)) := ⟨61, 34, 1, [.ag (bB_.p .v)], [.sl .s .iJson, .sl .d .int], fun (a0, a1, _) => (a0, a1), fun (a0, a1) => (a0, a1, ()), [.ag [.v, .v, .v, .v, .v, .v, .v, .v, .v, .v, .v]], [.o, .o], [.own .s .iJson, .own .d .int], [.tmp 2, .tmp 3], [], [(5, bl_.p5)], [], [(0, bl_.o0)]⟩
def bl_.F (n : Nat) : Pat.Ts bl_.d.ps → Option ((List aa_) × (List Int)) := fun (a0, _) => bl_ n (bB_.of a0)

def aW_.p7 : OD := ⟨[(1, .view .int), (6, .own .s .ikeyed), (15, .view .iJson), (16, .k), (17, .k)], [.sl .v .int, .rt 1, .sl .v .iJson, .i .i64, .i .i64], [.ext, .arr .s .ikeyed 2]⟩
def aW_.o0 : OD := ⟨[(6, .own .s .ikeyed)], [.rt 1], [.ext, .arr .s .ikeyed 2]⟩
def aW_.d : FD ((List am_) × Bool) := ⟨135, 46, 1, [.sl .v .iJson, .sl .v .int], [.sl .s .ikeyed, .b], fun (a0, a1, _) => (a0, a1), fun (a0, a1) => (a0, a1, ()), [.v, .v], [.o, .v], [.own .s .ikeyed, .k], [.tmp 4, .tmp 5], [], [(7, aW_.p7)], [], [(0, aW_.o0)]⟩
def aW_.F (n : Nat) : Pat.Ts aW_.d.ps → Option ((List am_) × Bool) := fun (a0, a1, _) => aW_ n a0 a1

def bR_.d : FD Bool := ⟨200, 8, 1, [.ag (am_.p .v), .pc [.i .i64] 0], [.b], fun (a0, _) => a0, fun r => (r, ()), [.ag [.v, .v, .v, .v, .v, .v], .v], [.v], [.k], [.tmp 3], [], [], [], []⟩
def bR_.F (n : Nat) : Pat.Ts bR_.d.ps → Option Bool := fun (a0, (a1, _), _) => bR_ n (am_.of a0) a1

def ab_.p3 : OD := ⟨[(0, .view .ikeyed), (1, .k), (7, .k), (8, .k)], [.sl .v .ikeyed, .clo 200 [.pc [.i .i64] 0], .i .i64, .i .i64], [.ext]⟩
def ab_.o0 : OD := ⟨[], [], [.ext]⟩
def ab_.d : FD Int := ⟨199, 19, 1, [.sl .v .ikeyed, .clo 200 [.pc [.i .i64] 0]], [.i .i64], fun (a0, _) => a0, fun r => (r, ()), [.v, .v], [.v], [.k], [.tmp 4], [], [(3, ab_.p3)], [], [(0, ab_.o0)]⟩
def ab_.F (n : Nat) : Pat.Ts ab_.d.ps → Option Int := fun (a0, ((a1, _), _), _) => ab_ n a0 a1

def cq_.d : FD Int := ⟨136, 8, 1, [.sl .v .ikeyed, .i .i64], [.i .i64], fun (a0, _) => a0, fun r => (r, ()), [.v, .v], [.v], [.k], [.tmp 4], [], [], [], []⟩
def cq_.F (n : Nat) : Pat.Ts cq_.d.ps → Option Int := fun (a0, a1, _) => cq_ n a0 a1

def b9_.d : FD (List Bs) := ⟨137, 6, 1, [.i .i64], [.sl .d .str], fun (a0, _) => a0, fun r => (r, ()), [.v], [.o], [.own .d .str], [.tmp 2], [], [], [], []⟩
def b9_.F (n : Nat) : Pat.Ts b9_.d.ps → Option (List Bs) := fun (a0, _) => b9_ n a0

def a6_.d : FD (List am_) := ⟨138, 33, 1, [.sl .s .ikeyed, .i .i64, .i .i64], [.sl .s .ikeyed], fun (a0, _) => a0, fun r => (r, ()), [.o, .v, .v], [], [], [.tmp 6], [], [], [], []⟩
def a6_.F (n : Nat) : Pat.Ts a6_.d.ps → Option (List am_) := fun (a0, a1, a2, _) => a6_ n a0 a1 a2

def af_.p6 : OD := ⟨[(0, .view .str), (1, .view .str), (12, .k), (13, .k)], [.sl .v .str, .sl .v .str, .i .i64, .i .i64], [.ext]⟩
def af_.o0 : OD := ⟨[], [], [.ext]⟩
def af_.d : FD Bool := ⟨202, 26, 1, [.sl .v .str, .sl .v .str], [.b], fun (a0, _) => a0, fun r => (r, ()), [.v, .v], [.v], [.k], [.tmp 4], [], [(6, af_.p6)], [], [(0, af_.o0)]⟩
def af_.F (n : Nat) : Pat.Ts af_.d.ps → Option Bool := fun (a0, a1, _) => af_ n a0 a1

def ac_.p6 : OD := ⟨[(1, .view .iJson), (2, .k), (15, .view .iJson), (16, .k), (17, .k)], [.sl .v .iJson, .clo 139 [], .sl .v .iJson, .i .i64, .i .i64], [.ext]⟩
def ac_.o0 : OD := ⟨[], [], [.ext]⟩
def ac_.d : FD Bool := ⟨203, 32, 1, [.sl .v .iJson, .sl .v .iJson, .clo 139 []], [.b], fun (a0, _) => a0, fun r => (r, ()), [.v, .v, .v], [.v], [.k], [.tmp 6], [], [(6, ac_.p6)], [], [(0, ac_.o0)]⟩
def ac_.F (n : Nat) : Pat.Ts ac_.d.ps → Option Bool := fun (a0, a1, _, _) => ac_ n a0 a1

def ca_.d : FD Bool := ⟨139, 38, 1, [.ag (aa_.p .v), .ag (aa_.p .v)], [.b], fun (a0, _) => a0, fun r => (r, ()), [.ag [.v, .v, .v, .v, .v], .ag [.v, .v, .v, .v, .v]], [.v], [.k], [.tmp 4], [], [], [], []⟩
def ca_.F (n : Nat) : Pat.Ts ca_.d.ps → Option Bool := fun (a0, a1, _) => ca_ n (aa_.of a0) (aa_.of a1)

def bx_.d : FD (List Bs) := ⟨197, 6, 1, [.sl .v .str], [.sl .d .str], fun (a0, _) => a0, fun r => (r, ()), [.v], [.o], [.own .d .str], [.tmp 2], [], [], [], []⟩
def bx_.F (n : Nat) : Pat.Ts bx_.d.ps → Option (List Bs) := fun (a0, _) => bx_ n a0

def aC_.p4 : OD := ⟨[(2, .box [.k, .k, .k, .k, .k]), (3, .box [.k, .k, .k, .own .d .iJson, .own .d .str]), (17, .view .iJson), (18, .k), (19, .k)], [.pb 1 0, .pb 2 0, .sl .v .iJson, .i .i64, .i .i64], [.ext, .box [.i .i64, .i .i64, .s, .nils, .nils], .box [.i .i64, .i .i64, .s, .rt 3, .rt 4], .arr .d .iJson 2, .arr .d .str 2]⟩
def aC_.o0 : OD := ⟨[(2, .box [.k, .k, .k, .k, .k]), (3, .box [.k, .k, .k, .own .d .iJson, .own .d .str])], [.pb 1 0, .pb 2 0], [.ext, .box [.i .i64, .i .i64, .s, .nils, .nils], .box [.i .i64, .i .i64, .s, .rt 3, .rt 4], .arr .d .iJson 2, .arr .d .str 2]⟩
def aC_.d : FD aa_ := ⟨140, 32, 1, [.ag (aa_.p .v)], [.ag (aa_.p .d)], fun (a0, _) => (aa_.of a0), fun r => (aa_.to r, ()), [.ag [.v, .v, .v, .v, .v]], [.ag [.v, .v, .v, .o, .o]], [.ag [.k, .k, .k, .own .d .iJson, .own .d .str]], [.cell 2 49], [], [(4, aC_.p4)], [], [(0, aC_.o0)]⟩
def aC_.F (n : Nat) : Pat.Ts aC_.d.ps → Option aa_ := fun (a0, _) => aC_ n (aa_.of a0)

def a5_.d : FD (List am_) := ⟨141, 95, 1, [.sl .s .ikeyed, .i .i64, .sl .s .ikeyed], [.sl .s .ikeyed], fun (a0, _) => a0, fun r => (r, ()), [.o, .v, .o], [], [], [.tmp 6], [], [], [], []⟩
def a5_.F (n : Nat) : Pat.Ts a5_.d.ps → Option (List am_) := fun (a0, a1, a2, _) => a5_ n a0 a1 a2

def aL_.p9 : OD := ⟨[(9, .own .s .ikeyed), (11, .own .s .ikeyed), (13, .own .d .iOp), (14, .k)], [.rt 1, .rt 2, .rt 3, .i .i64], [.ext, .arr .s .ikeyed 2, .arr .s .ikeyed 2, .arr .d .iOp 2]⟩
def aL_.p17 : OD := ⟨[(9, .own .s .ikeyed), (13, .own .d .iOp), (64, .own .s .ikeyed), (65, .k), (66, .k)], [.rt 1, .rt 2, .rt 3, .i .i64, .i .i64], [.ext, .arr .s .ikeyed 2, .arr .d .iOp 2, .arr .s .ikeyed 2]⟩
def aL_.o0 : OD := ⟨[(9, .own .s .ikeyed), (11, .own .s .ikeyed), (13, .own .d .iOp)], [.rt 1, .rt 2, .rt 3], [.ext, .arr .s .ikeyed 2, .arr .s .ikeyed 2, .arr .d .iOp 2]⟩
def aL_.o2 : OD := ⟨[(13, .own .d .iOp)], [.rt 1], [.ext, .arr .d .iOp 2]⟩
def aL_.d : FD (List TOp) := ⟨63, 126, 1, [.sl .v .iJson, .sl .v .int, .sl .v .iJson, .sl .v .int], [.sl .d .iOp], fun (a0, _) => a0, fun r => (r, ()), [.v, .v, .v, .v], [.o], [.own .d .iOp], [.tmp 8], [], [(9, aL_.p9), (17, aL_.p17)], [], [(0, aL_.o0), (2, aL_.o2)]⟩
def aL_.F (n : Nat) : Pat.Ts aL_.d.ps → Option (List TOp) := fun (a0, a1, a2, a3, _) => aL_ n a0 a1 a2 a3

def ck_.d : FD TOp := ⟨134, 12, 1, [.ag (TOp.p .v)], [.ag (TOp.p .d)], fun (a0, _) => (TOp.of a0), fun r => (TOp.to r, ()), [.ag [.v, .v, .v, .v, .v, .v, .v]], [.ag [.v, .o, .v, .v, .v, .o, .o]], [.ag [.k, .own .d .str, .k, .k, .k, .own .d .iJson, .own .d .str]], [.cell 2 99], [], [], [], []⟩
def ck_.F (n : Nat) : Pat.Ts ck_.d.ps → Option TOp := fun (a0, _) => ck_ n (TOp.of a0)

def bo_.p4 : OD := ⟨[(0, .k), (5, .own .d .iOp), (9, .view .iOp), (10, .k), (11, .k)], [.s, .rt 1, .sl .v .iOp, .i .i64, .i .i64], [.ext, .arr .d .iOp 2]⟩
def bo_.o0 : OD := ⟨[(5, .own .d .iOp)], [.rt 1], [.ext, .arr .d .iOp 2]⟩
def bo_.d : FD (List TOp) := ⟨62, 29, 1, [.s, .sl .v .iOp], [.sl .d .iOp], fun (a0, _) => a0, fun r => (r, ()), [.v, .v], [.o], [.own .d .iOp], [.tmp 4], [], [(4, bo_.p4)], [], [(0, bo_.o0)]⟩
def bo_.F (n : Nat) : Pat.Ts bo_.d.ps → Option (List TOp) := fun (a0, a1, _) => bo_ n a0 a1

def bE_.d : FD (List TOp) := ⟨21, 52, 1, [.ag (bB_.p .v), .ag (bB_.p .v)], [.sl .d .iOp], fun (a0, _) => a0, fun r => (r, ()), [.ag [.v, .v, .v, .v, .v, .v, .v, .v, .v, .v, .v], .ag [.v, .v, .v, .v, .v, .v, .v, .v, .v, .v, .v]], [.o], [.own .d .iOp], [.tmp 4], [], [], [], []⟩
def bE_.F (n : Nat) : Pat.Ts bE_.d.ps → Option (List TOp) := fun (a0, a1, _) => bE_ n (bB_.of a0) (bB_.of a1)

def aE_.p6 : OD := ⟨[(0, .view .str), (1, .view .str), (5, .k)], [.sl .v .str, .sl .v .str, .i .i64], [.ext]⟩
def aE_.o0 : OD := ⟨[], [], [.ext]⟩
def aE_.d : FD Bool := ⟨142, 26, 1, [.sl .v .str, .sl .v .str], [.b], fun (a0, _) => a0, fun r => (r, ()), [.v, .v], [.v], [.k], [.tmp 4], [], [(6, aE_.p6)], [], [(0, aE_.o0)]⟩
def aE_.F (n : Nat) : Pat.Ts aE_.d.ps → Option Bool := fun (a0, a1, _) => aE_ n a0 a1

def aU_.p6 : OD := ⟨[(0, .view .iJson), (1, .view .iJson), (5, .k)], [.sl .v .iJson, .sl .v .iJson, .i .i64], [.ext]⟩
def aU_.o0 : OD := ⟨[], [], [.ext]⟩
def aU_.d : FD Bool := ⟨171, 27, 1, [.sl .v .iJson, .sl .v .iJson], [.b], fun (a0, _) => a0, fun r => (r, ()), [.v, .v], [.v], [.k], [.tmp 4], [], [(6, aU_.p6)], [], [(0, aU_.o0)]⟩
def aU_.F (n : Nat) : Pat.Ts aU_.d.ps → Option Bool := fun (a0, a1, _) => aU_ n a0 a1

def bK_.d : FD Bool := ⟨88, 32, 1, [.ag (aa_.p .v), .ag (aa_.p .v)], [.b], fun (a0, _) => a0, fun r => (r, ()), [.ag [.v, .v, .v, .v, .v], .ag [.v, .v, .v, .v, .v]], [.v], [.k], [.tmp 4], [], [], [], []⟩
def bK_.F (n : Nat) : Pat.Ts bK_.d.ps → Option Bool := fun (a0, a1, _) => bK_ n (aa_.of a0) (aa_.of a1)

def cJ_.d : FD Bool := ⟨64, 22, 1, [.ag (TOp.p .v), .ag (TOp.p .v)], [.b], fun (a0, _) => a0, fun r => (r, ()), [.ag [.v, .v, .v, .v, .v, .v, .v], .ag [.v, .v, .v, .v, .v, .v, .v]], [.v], [.k], [.tmp 4], [], [], [], []⟩
def cJ_.F (n : Nat) : Pat.Ts cJ_.d.ps → Option Bool := fun (a0, a1, _) => cJ_ n (TOp.of a0) (TOp.of a1)

def bm_.p6 : OD := ⟨[(0, .view .iOp), (1, .view .iOp), (5, .k)], [.sl .v .iOp, .sl .v .iOp, .i .i64], [.ext]⟩
def bm_.o0 : OD := ⟨[], [], [.ext]⟩
def bm_.d : FD Bool := ⟨22, 27, 1, [.sl .v .iOp, .sl .v .iOp], [.b], fun (a0, _) => a0, fun r => (r, ()), [.v, .v], [.v], [.k], [.tmp 4], [], [(6, bm_.p6)], [], [(0, bm_.o0)]⟩
def bm_.F (n : Nat) : Pat.Ts bm_.d.ps → Option Bool := fun (a0, a1, _) => bm_ n a0 a1

def ci_.d : FD Bool := ⟨206, 20, 1, [.ag (aO_.p .v), .ag (aO_.p .v)], [.b], fun (a0, _) => a0, fun r => (r, ()), [.ag [.v, .v, .v], .ag [.v, .v, .v]], [.v], [.k], [.tmp 4], [], [], [], []⟩
def ci_.F (n : Nat) : Pat.Ts ci_.d.ps → Option Bool := fun (a0, a1, _) => ci_ n (aO_.of a0) (aO_.of a1)

def aZ_.p6 : OD := ⟨[(0, .view .iCond), (1, .view .iCond), (5, .k)], [.sl .v .iCond, .sl .v .iCond, .i .i64], [.ext]⟩
def aZ_.o0 : OD := ⟨[], [], [.ext]⟩
def aZ_.d : FD Bool := ⟨143, 27, 1, [.sl .v .iCond, .sl .v .iCond], [.b], fun (a0, _) => a0, fun r => (r, ()), [.v, .v], [.v], [.k], [.tmp 4], [], [(6, aZ_.p6)], [], [(0, aZ_.o0)]⟩
def aZ_.F (n : Nat) : Pat.Ts aZ_.d.ps → Option Bool := fun (a0, a1, _) => aZ_ n a0 a1

def ba_.p6 : OD := ⟨[(0, .view .int), (1, .view .int), (5, .k)], [.sl .v .int, .sl .v .int, .i .i64], [.ext]⟩
def ba_.o0 : OD := ⟨[], [], [.ext]⟩
def ba_.d : FD Bool := ⟨144, 26, 1, [.sl .v .int, .sl .v .int], [.b], fun (a0, _) => a0, fun r => (r, ()), [.v, .v], [.v], [.k], [.tmp 4], [], [(6, ba_.p6)], [], [(0, ba_.o0)]⟩
def ba_.F (n : Nat) : Pat.Ts ba_.d.ps → Option Bool := fun (a0, a1, _) => ba_ n a0 a1

def bW_.d : FD Bool := ⟨65, 52, 1, [.ag (bi_.p .v), .ag (bi_.p .v)], [.b], fun (a0, _) => a0, fun r => (r, ()), [.ag [.v, .v, .v, .v, .v, .v, .v, .v, .v], .ag [.v, .v, .v, .v, .v, .v, .v, .v, .v]], [.v], [.k], [.tmp 4], [], [], [], []⟩
def bW_.F (n : Nat) : Pat.Ts bW_.d.ps → Option Bool := fun (a0, a1, _) => bW_ n (bi_.of a0) (bi_.of a1)

def cx_.d : FD Bool := ⟨145, 16, 1, [.ag (TRow.p .v), .ag (TRow.p .v)], [.b], fun (a0, _) => a0, fun r => (r, ()), [.ag [.v, .v], .ag [.v, .v]], [.v], [.k], [.tmp 4], [], [], [], []⟩
def cx_.F (n : Nat) : Pat.Ts cx_.d.ps → Option Bool := fun (a0, a1, _) => cx_ n (TRow.of a0) (TRow.of a1)

def be_.p6 : OD := ⟨[(0, .view .iRow), (1, .view .iRow), (5, .k)], [.sl .v .iRow, .sl .v .iRow, .i .i64], [.ext]⟩
def be_.o0 : OD := ⟨[], [], [.ext]⟩
def be_.d : FD Bool := ⟨66, 27, 1, [.sl .v .iRow, .sl .v .iRow], [.b], fun (a0, _) => a0, fun r => (r, ()), [.v, .v], [.v], [.k], [.tmp 4], [], [(6, be_.p6)], [], [(0, be_.o0)]⟩
def be_.F (n : Nat) : Pat.Ts be_.d.ps → Option Bool := fun (a0, a1, _) => be_ n a0 a1

def cy_.d : FD Bool := ⟨146, 15, 1, [.ag (TKid.p .v), .ag (TKid.p .v)], [.b], fun (a0, _) => a0, fun r => (r, ()), [.ag [.v, .v], .ag [.v, .v]], [.v], [.k], [.tmp 4], [], [], [], []⟩
def cy_.F (n : Nat) : Pat.Ts cy_.d.ps → Option Bool := fun (a0, a1, _) => cy_ n (TKid.of a0) (TKid.of a1)

def bf_.p6 : OD := ⟨[(0, .view .iKid), (1, .view .iKid), (5, .k)], [.sl .v .iKid, .sl .v .iKid, .i .i64], [.ext]⟩
def bf_.o0 : OD := ⟨[], [], [.ext]⟩
def bf_.d : FD Bool := ⟨67, 27, 1, [.sl .v .iKid, .sl .v .iKid], [.b], fun (a0, _) => a0, fun r => (r, ()), [.v, .v], [.v], [.k], [.tmp 4], [], [(6, bf_.p6)], [], [(0, bf_.o0)]⟩
def bf_.F (n : Nat) : Pat.Ts bf_.d.ps → Option Bool := fun (a0, a1, _) => bf_ n a0 a1

def b7_.d : FD Bool := ⟨23, 23, 1, [.ag (bB_.p .v), .ag (bB_.p .v)], [.b], fun (a0, _) => a0, fun r => (r, ()), [.ag [.v, .v, .v, .v, .v, .v, .v, .v, .v, .v, .v], .ag [.v, .v, .v, .v, .v, .v, .v, .v, .v, .v, .v]], [.v], [.k], [.tmp 4], [], [], [], []⟩
def b7_.F (n : Nat) : Pat.Ts b7_.d.ps → Option Bool := fun (a0, a1, _) => b7_ n (bB_.of a0) (bB_.of a1)

def aD_.p3 : OD := ⟨[(0, .own .d .iCond), (1, .k), (5, .k)], [.rt 1, .i .i64, .i .i64], [.ext, .arr .d .iCond 2]⟩
def aD_.o0 : OD := ⟨[(1, .k)], [.i .i64], [.ext, .arr .d .iCond 2]⟩
def aD_.d : FD (Int × (List aO_)) := ⟨147, 34, 2, [.sl .d .iCond, .i .i64], [.i .i64, .sl .d .iCond], fun (a0, a1, _) => (a0, a1), fun (a0, a1) => (a0, a1, ()), [.mu, .v], [.v, .o], [.k, .own .d .iCond], [.tmp 4], [.rt 1], [(3, aD_.p3)], [], [(0, aD_.o0)]⟩
def aD_.F (n : Nat) : Pat.Ts aD_.d.ps → Option (Int × (List aO_)) := fun (a0, a1, _) => aD_ n a0 a1

def aG_.p3 : OD := ⟨[(0, .own .d .int), (1, .k), (5, .k)], [.rt 1, .i .i64, .i .i64], [.ext, .arr .d .int 2]⟩
def aG_.o0 : OD := ⟨[(1, .k)], [.i .i64], [.ext, .arr .d .int 2]⟩
def aG_.d : FD (Int × (List Int)) := ⟨148, 19, 2, [.sl .d .int, .i .i64], (TRow.p .d), fun (a0, a1, _) => (a0, a1), fun (a0, a1) => (a0, a1, ()), [.mu, .v], [.v, .o], [.k, .own .d .int], [.tmp 4], [.rt 1], [(3, aG_.p3)], [], [(0, aG_.o0)]⟩
def aG_.F (n : Nat) : Pat.Ts aG_.d.ps → Option (Int × (List Int)) := fun (a0, a1, _) => aG_ n a0 a1

def bI_.d : FD (Int × (List aO_) × (List Int)) := ⟨68, 14, 3, [.ag (bi_.p .d), .i .i64], [.i .i64, .sl .d .iCond, .sl .d .int], fun (a0, a1, a2, _) => (a0, a1, a2), fun (a0, a1, a2) => (a0, a1, a2, ()), [.ag [.v, .mu, .v, .v, .v, .mu, .v, .v, .v], .v], [.v, .o, .o], [.k, .own .d .iCond, .own .d .int], [.tmp 4], [.rt 1, .rt 2], [], [], []⟩
def bI_.F (n : Nat) : Pat.Ts bI_.d.ps → Option (Int × (List aO_) × (List Int)) := fun (a0, a1, _) => bI_ n (bi_.of a0) a1

def aH_.p3 : OD := ⟨[(0, .own .d .iRow), (1, .k), (5, .k)], [.rt 1, .i .i64, .i .i64], [.ext, .arr .d .iRow 2]⟩
def aH_.o0 : OD := ⟨[(1, .k)], [.i .i64], [.ext, .arr .d .iRow 2]⟩
def aH_.d : FD (Int × (List TRow)) := ⟨69, 27, 2, [.sl .d .iRow, .i .i64], [.i .i64, .sl .d .iRow], fun (a0, a1, _) => (a0, a1), fun (a0, a1) => (a0, a1, ()), [.mu, .v], [.v, .o], [.k, .own .d .iRow], [.tmp 4], [.rt 1], [(3, aH_.p3)], [], [(0, aH_.o0)]⟩
def aH_.F (n : Nat) : Pat.Ts aH_.d.ps → Option (Int × (List TRow)) := fun (a0, a1, _) => aH_ n a0 a1

def aI_.p3 : OD := ⟨[(0, .own .d .iKid), (1, .k), (5, .k)], [.rt 1, .i .i64, .i .i64], [.ext, .arr .d .iKid 2]⟩
def aI_.o0 : OD := ⟨[(1, .k)], [.i .i64], [.ext, .arr .d .iKid 2]⟩
def aI_.d : FD (Int × (List TKid)) := ⟨70, 27, 2, [.sl .d .iKid, .i .i64], [.i .i64, .sl .d .iKid], fun (a0, a1, _) => (a0, a1), fun (a0, a1) => (a0, a1, ()), [.mu, .v], [.v, .o], [.k, .own .d .iKid], [.tmp 4], [.rt 1], [(3, aI_.p3)], [], [(0, aI_.o0)]⟩
def aI_.F (n : Nat) : Pat.Ts aI_.d.ps → Option (Int × (List TKid)) := fun (a0, a1, _) => aI_ n a0 a1

def bO_.d : FD (Int × (List aO_) × (List Int) × (List TRow) × (List TKid)) := ⟨24, 18, 5, [.ag (bB_.p .d), .i .i64], [.i .i64, .sl .d .iCond, .sl .d .int, .sl .d .iRow, .sl .d .iKid], fun (a0, a1, a2, a3, a4, _) => (a0, a1, a2, a3, a4), fun (a0, a1, a2, a3, a4) => (a0, a1, a2, a3, a4, ()), [.ag [.v, .mu, .v, .v, .v, .mu, .v, .v, .v, .mu, .mu], .v], [.v, .o, .o, .o, .o], [.k, .own .d .iCond, .own .d .int, .own .d .iRow, .own .d .iKid], [.tmp 4], [.rt 1, .rt 2, .rt 3, .rt 4], [], [], []⟩
def bO_.F (n : Nat) : Pat.Ts bO_.d.ps → Option (Int × (List aO_) × (List Int) × (List TRow) × (List TKid)) := fun (a0, a1, _) => bO_ n (bB_.of a0) a1

def aB_.p6 : OD := ⟨[(0, .k), (3, .k)], [.i .i64, .s], [.ext]⟩
def aB_.o0 : OD := ⟨[(3, .k)], [.s], [.ext]⟩
def aB_.d : FD Bs := ⟨72, 20, 1, [.i .i64], [.s], fun (a0, _) => a0, fun r => (r, ()), [.v], [.v], [.k], [.tmp 2], [], [(6, aB_.p6)], [], [(0, aB_.o0)]⟩
def aB_.F (n : Nat) : Pat.Ts aB_.d.ps → Option Bs := fun (a0, _) => aB_ n a0

def an_.p3 : OD := ⟨[(0, .own .d .str), (1, .k), (5, .k)], [.rt 1, .i .i64, .i .i64], [.ext, .arr .d .str 2]⟩
def an_.o0 : OD := ⟨[(1, .k)], [.i .i64], [.ext, .arr .d .str 2]⟩
def an_.d : FD (Int × (List Bs)) := ⟨71, 20, 2, [.sl .d .str, .i .i64], [.i .i64, .sl .d .str], fun (a0, a1, _) => (a0, a1), fun (a0, a1) => (a0, a1, ()), [.mu, .v], [.v, .o], [.k, .own .d .str], [.tmp 4], [.rt 1], [(3, an_.p3)], [], [(0, an_.o0)]⟩
def an_.F (n : Nat) : Pat.Ts an_.d.ps → Option (Int × (List Bs)) := fun (a0, a1, _) => an_ n a0 a1

def aq_.p3 : OD := ⟨[(0, .own .d .iJson), (1, .k), (5, .k)], [.rt 1, .i .i64, .i .i64], [.ext, .arr .d .iJson 2]⟩
def aq_.o0 : OD := ⟨[(1, .k)], [.i .i64], [.ext, .arr .d .iJson 2]⟩
def aq_.d : FD (Int × (List aa_)) := ⟨73, 49, 2, [.sl .d .iJson, .i .i64], [.i .i64, .sl .d .iJson], fun (a0, a1, _) => (a0, a1), fun (a0, a1) => (a0, a1, ()), [.mu, .v], [.v, .o], [.k, .own .d .iJson], [.tmp 4], [.rt 1], [(3, aq_.p3)], [], [(0, aq_.o0)]⟩
def aq_.F (n : Nat) : Pat.Ts aq_.d.ps → Option (Int × (List aa_)) := fun (a0, a1, _) => aq_ n a0 a1

def aT_.p3 : OD := ⟨[(0, .own .d .iOp), (1, .k), (5, .k)], [.rt 1, .i .i64, .i .i64], [.ext, .arr .d .iOp 2]⟩
def aT_.o0 : OD := ⟨[(1, .k)], [.i .i64], [.ext, .arr .d .iOp 2]⟩
def aT_.d : FD (Int × (List TOp)) := ⟨25, 68, 2, [.sl .d .iOp, .i .i64], [.i .i64, .sl .d .iOp], fun (a0, a1, _) => (a0, a1), fun (a0, a1) => (a0, a1, ()), [.mu, .v], [.v, .o], [.k, .own .d .iOp], [.tmp 4], [.rt 1], [(3, aT_.p3)], [], [(0, aT_.o0)]⟩
def aT_.F (n : Nat) : Pat.Ts aT_.d.ps → Option (Int × (List TOp)) := fun (a0, a1, _) => aT_ n a0 a1

def ao_.p3 : OD := ⟨[(0, .view .str), (1, .k), (5, .k)], [.sl .v .str, .i .i64, .i .i64], [.ext]⟩
def ao_.o0 : OD := ⟨[(1, .k)], [.i .i64], [.ext]⟩
def ao_.d : FD Int := ⟨74, 22, 1, [.sl .v .str, .i .i64], [.i .i64], fun (a0, _) => a0, fun r => (r, ()), [.v, .v], [.v], [.k], [.tmp 4], [], [(3, ao_.p3)], [], [(0, ao_.o0)]⟩
def ao_.F (n : Nat) : Pat.Ts ao_.d.ps → Option Int := fun (a0, a1, _) => ao_ n a0 a1

def ar_.p3 : OD := ⟨[(0, .view .iJson), (1, .k), (5, .k)], [.sl .v .iJson, .i .i64, .i .i64], [.ext]⟩
def ar_.o0 : OD := ⟨[(1, .k)], [.i .i64], [.ext]⟩
def ar_.d : FD Int := ⟨75, 59, 1, [.sl .v .iJson, .i .i64], [.i .i64], fun (a0, _) => a0, fun r => (r, ()), [.v, .v], [.v], [.k], [.tmp 4], [], [(3, ar_.p3)], [], [(0, ar_.o0)]⟩
def ar_.F (n : Nat) : Pat.Ts ar_.d.ps → Option Int := fun (a0, a1, _) => ar_ n a0 a1

def aQ_.p3 : OD := ⟨[(0, .view .iOp), (1, .k), (5, .k)], [.sl .v .iOp, .i .i64, .i .i64], [.ext]⟩
def aQ_.o0 : OD := ⟨[(1, .k)], [.i .i64], [.ext]⟩
def aQ_.d : FD Int := ⟨26, 82, 1, [.sl .v .iOp, .i .i64], [.i .i64], fun (a0, _) => a0, fun r => (r, ()), [.v, .v], [.v], [.k], [.tmp 4], [], [(3, aQ_.p3)], [], [(0, aQ_.o0)]⟩
def aQ_.F (n : Nat) : Pat.Ts aQ_.d.ps → Option Int := fun (a0, a1, _) => aQ_ n a0 a1

def laws_FnExactViewPatch.d : FD Bool := ⟨4, 92, 1, [.ag (bB_.q1 .v), .ag (bB_.q1 .v)], [.b], fun (a0, _) => a0, fun r => (r, ()), [.ag [.v, .v, .v, .v, .v, .v, .v, .v, .v, .v, .v], .ag [.v, .v, .v, .v, .v, .v, .v, .v, .v, .v, .v]], [.v], [.k], [.tmp 4], [], [], [], []⟩
def laws_FnExactViewPatch.F (n : Nat) : Pat.Ts laws_FnExactViewPatch.d.ps → Option Bool := fun (a0, a1, _) => laws_FnExactViewPatch n (bB_.of a0) (bB_.of a1)

def KL (n : Nat) : List (Nat × Hd) := [
  (4, ⟨fun _ => laws_FnExactViewPatch.d.K (laws_FnExactViewPatch.F n)⟩),
  (11, ⟨fun _ => bg_.d.K (bg_.F n)⟩),
  (12, ⟨fun _ => bd_.d.K (bd_.F n)⟩),
  (18, ⟨fun _ => cg_.d.K (cg_.F n)⟩),
  (19, ⟨fun _ => bG_.d.K (bG_.F n)⟩),
  (20, ⟨fun _ => bN_.d.K (bN_.F n)⟩),
  (21, ⟨fun _ => bE_.d.K (bE_.F n)⟩),
  (22, ⟨fun _ => bm_.d.K (bm_.F n)⟩),
  (23, ⟨fun _ => b7_.d.K (b7_.F n)⟩),
  (24, ⟨fun _ => bO_.d.K (bO_.F n)⟩),
  (25, ⟨fun _ => aT_.d.K (aT_.F n)⟩),
  (26, ⟨fun _ => aQ_.d.K (aQ_.F n)⟩),
  (45, ⟨fun _ => az_.d.K (az_.F n)⟩),
  (48, ⟨fun _ => b2_.d.K (b2_.F n)⟩),
  (49, ⟨fun _ => a1_.d.K (a1_.F n)⟩),
  (50, ⟨fun _ => cm_.d.K (cm_.F n)⟩),
  (51, ⟨fun _ => bH_.d.K (bH_.F n)⟩),
  (52, ⟨fun _ => cu_.d.K (cu_.F n)⟩),
  (53, ⟨fun _ => aN_.d.K (aN_.F n)⟩),
  (54, ⟨fun _ => bn_.d.K (bn_.F n)⟩),
  (55, ⟨fun _ => cH_.d.K (cH_.F n)⟩),
  (56, ⟨fun _ => bV_.d.K (bV_.F n)⟩),
  (57, ⟨fun _ => a2_.d.K (a2_.F n)⟩),
  (58, ⟨fun _ => a3_.d.K (a3_.F n)⟩),
  (59, ⟨fun _ => bJ_.d.K (bJ_.F n)⟩),
  (60, ⟨fun _ => cA_.d.K (cA_.F n)⟩),
  (61, ⟨fun _ => bl_.d.K (bl_.F n)⟩),
  (62, ⟨fun _ => bo_.d.K (bo_.F n)⟩),
  (63, ⟨fun _ => aL_.d.K (aL_.F n)⟩),
  (64, ⟨fun _ => cJ_.d.K (cJ_.F n)⟩),
  (65, ⟨fun _ => bW_.d.K (bW_.F n)⟩),
  (66, ⟨fun _ => be_.d.K (be_.F n)⟩),
  (67, ⟨fun _ => bf_.d.K (bf_.F n)⟩),
  (68, ⟨fun _ => bI_.d.K (bI_.F n)⟩),
  (69, ⟨fun _ => aH_.d.K (aH_.F n)⟩),
  (70, ⟨fun _ => aI_.d.K (aI_.F n)⟩),
  (71, ⟨fun _ => an_.d.K (an_.F n)⟩),
  (72, ⟨fun _ => aB_.d.K (aB_.F n)⟩),
  (73, ⟨fun _ => aq_.d.K (aq_.F n)⟩),
  (74, ⟨fun _ => ao_.d.K (ao_.F n)⟩),
  (75, ⟨fun _ => ar_.d.K (ar_.F n)⟩),
  (88, ⟨fun _ => bK_.d.K (bK_.F n)⟩),
  (98, ⟨fun _ => aM_.d.K (aM_.F n)⟩),
  (99, ⟨fun _ => bh_.d.K (bh_.F n)⟩),
  (110, ⟨fun _ => aV_.d.K (aV_.F n)⟩),
  (113, ⟨fun _ avs κ => cond (selNil avs) (bA_.d.K (bA_.F n) avs κ) (cond (true) (b0_.d.K (b0_.F n) avs κ) (none))⟩),
  (114, ⟨fun _ => bQ_.d.K (bQ_.F n)⟩),
  (115, ⟨fun _ => bc_.d.K (bc_.F n)⟩),
  (116, ⟨fun _ => bP_.d.K (bP_.F n)⟩),
  (117, ⟨fun _ => bT_.d.K (bT_.F n)⟩),
  (118, ⟨fun _ => b3_.d.K (b3_.F n)⟩),
  (119, ⟨fun _ => ch_.d.K (ch_.F n)⟩),
  (120, ⟨fun _ => cE_.d.K (cE_.F n)⟩),
  (121, ⟨fun _ => aY_.d.K (aY_.F n)⟩),
  (122, ⟨fun _ => bb_.d.K (bb_.F n)⟩),
  (123, ⟨fun _ => bZ_.d.K (bZ_.F n)⟩),
  (124, ⟨fun _ => ce_.d.K (ce_.F n)⟩),
  (125, ⟨fun _ => aX_.d.K (aX_.F n)⟩),
  (126, ⟨fun _ => aw_.d.K (aw_.F n)⟩),
  (127, ⟨fun _ => as_.d.K (as_.F n)⟩),
  (128, ⟨fun _ => aP_.d.K (aP_.F n)⟩),
  (129, ⟨fun _ => a0_.d.K (a0_.F n)⟩),
  (130, ⟨fun _ => cv_.d.K (cv_.F n)⟩),
  (131, ⟨fun _ => cw_.d.K (cw_.F n)⟩),
  (132, ⟨fun _ => al_.d.K (al_.F n)⟩),
  (133, ⟨fun _ => av_.d.K (av_.F n)⟩),
  (134, ⟨fun _ => ck_.d.K (ck_.F n)⟩),
  (135, ⟨fun _ => aW_.d.K (aW_.F n)⟩),
  (136, ⟨fun _ => cq_.d.K (cq_.F n)⟩),
  (137, ⟨fun _ => b9_.d.K (b9_.F n)⟩),
  (138, ⟨fun _ => a6_.d.K (a6_.F n)⟩),
  (139, ⟨fun _ => ca_.d.K (ca_.F n)⟩),
  (140, ⟨fun _ => aC_.d.K (aC_.F n)⟩),
  (141, ⟨fun _ => a5_.d.K (a5_.F n)⟩),
  (142, ⟨fun _ => aE_.d.K (aE_.F n)⟩),
  (143, ⟨fun _ => aZ_.d.K (aZ_.F n)⟩),
  (144, ⟨fun _ => ba_.d.K (ba_.F n)⟩),
  (145, ⟨fun _ => cx_.d.K (cx_.F n)⟩),
  (146, ⟨fun _ => cy_.d.K (cy_.F n)⟩),
  (147, ⟨fun _ => aD_.d.K (aD_.F n)⟩),
  (148, ⟨fun _ => aG_.d.K (aG_.F n)⟩),
  (152, ⟨fun _ => b1_.d.K (b1_.F n)⟩),
  (155, ⟨fun _ => aF_.d.K (aF_.F n)⟩),
  (170, ⟨fun _ => cj_.d.K (cj_.F n)⟩),
  (171, ⟨fun _ => aU_.d.K (aU_.F n)⟩),
  (180, ⟨fun _ => cl_.d.K (cl_.F n)⟩),
  (184, ⟨fun _ => bX_.d.K (bX_.F n)⟩),
  (185, ⟨fun _ => a4_.d.K (a4_.F n)⟩),
  (187, ⟨fun _ => ct_.d.K (ct_.F n)⟩),
  (188, ⟨fun _ => cs_.d.K (cs_.F n)⟩),
  (189, ⟨fun _ => bj_.d.K (bj_.F n)⟩),
  (190, ⟨fun _ => cd_.d.K (cd_.F n)⟩),
  (191, ⟨fun _ => aA_.d.K (aA_.F n)⟩),
  (192, ⟨fun _ => bs_.d.K (bs_.F n)⟩),
  (193, ⟨fun _ => bD_.d.K (bD_.F n)⟩),
  (194, ⟨fun _ => ah_.d.K (ah_.F n)⟩),
  (195, ⟨fun _ => bM_.d.K (bM_.F n)⟩),
  (196, ⟨fun _ => cf_.d.K (cf_.F n)⟩),
  (197, ⟨fun _ => bx_.d.K (bx_.F n)⟩),
  (198, ⟨fun _ => a9_.d.K (a9_.F n)⟩),
  (199, ⟨fun _ => ab_.d.K (ab_.F n)⟩),
  (200, ⟨fun _ => bR_.d.K (bR_.F n)⟩),
  (201, ⟨fun _ => strconv_Itoa.d.K (strconv_Itoa.F n)⟩),
  (202, ⟨fun _ => af_.d.K (af_.F n)⟩),
  (203, ⟨fun _ => ac_.d.K (ac_.F n)⟩),
  (206, ⟨fun _ => ci_.d.K (ci_.F n)⟩),
  (211, ⟨fun _ => aS_.d.K (aS_.F n)⟩),
  (219, ⟨fun _ => cC_.d.K (cC_.F n)⟩),
  (240, ⟨fun _ => bk_.d.K (bk_.F n)⟩),
  (241, ⟨fun _ => a7_.d.K (a7_.F n)⟩),
  (242, ⟨fun _ => ae_.d.K (ae_.F n)⟩),
  (243, ⟨fun _ => au_.d.K (au_.F n)⟩),
  (249, ⟨fun _ => cz_.d.K (cz_.F n)⟩),
  (277, ⟨fun _ => ad_.d.K (ad_.F n)⟩),
  (278, ⟨fun _ => bq_.d.K (bq_.F n)⟩),
  (279, ⟨fun _ => bu_.d.K (bu_.F n)⟩),
  (282, ⟨fun _ => ap_.d.K (ap_.F n)⟩),
  (284, ⟨fun _ => ag_.d.K (ag_.F n)⟩),
  (300, ⟨fun _ => bv_.d.K (bv_.F n)⟩),
  (301, ⟨fun _ => a8_.d.K (a8_.F n)⟩),
  (320, ⟨fun _ => br_.d.K (br_.F n)⟩)]
def sigL : List (Nat × List PS) := [
  (4, laws_FnExactViewPatch.d.sig),
  (11, bg_.d.sig),
  (12, bd_.d.sig),
  (18, cg_.d.sig),
  (19, bG_.d.sig),
  (20, bN_.d.sig),
  (21, bE_.d.sig),
  (22, bm_.d.sig),
  (23, b7_.d.sig),
  (24, bO_.d.sig),
  (25, aT_.d.sig),
  (26, aQ_.d.sig),
  (45, az_.d.sig),
  (48, b2_.d.sig),
  (49, a1_.d.sig),
  (50, cm_.d.sig),
  (51, bH_.d.sig),
  (52, cu_.d.sig),
  (53, aN_.d.sig),
  (54, bn_.d.sig),
  (55, cH_.d.sig),
  (56, bV_.d.sig),
  (57, a2_.d.sig),
  (58, a3_.d.sig),
  (59, bJ_.d.sig),
  (60, cA_.d.sig),
  (61, bl_.d.sig),
  (62, bo_.d.sig),
  (63, aL_.d.sig),
  (64, cJ_.d.sig),
  (65, bW_.d.sig),
  (66, be_.d.sig),
  (67, bf_.d.sig),
  (68, bI_.d.sig),
  (69, aH_.d.sig),
  (70, aI_.d.sig),
  (71, an_.d.sig),
  (72, aB_.d.sig),
  (73, aq_.d.sig),
  (74, ao_.d.sig),
  (75, ar_.d.sig),
  (88, bK_.d.sig),
  (98, aM_.d.sig),
  (99, bh_.d.sig),
  (110, aV_.d.sig),
  (113, bA_.d.sig),
  (114, bQ_.d.sig),
  (115, bc_.d.sig),
  (116, bP_.d.sig),
  (117, bT_.d.sig),
  (118, b3_.d.sig),
  (119, ch_.d.sig),
  (120, cE_.d.sig),
  (121, aY_.d.sig),
  (122, bb_.d.sig),
  (123, bZ_.d.sig),
  (124, ce_.d.sig),
  (125, aX_.d.sig),
  (126, aw_.d.sig),
  (127, as_.d.sig),
  (128, aP_.d.sig),
  (129, a0_.d.sig),
  (130, cv_.d.sig),
  (131, cw_.d.sig),
  (132, al_.d.sig),
  (133, av_.d.sig),
  (134, ck_.d.sig),
  (135, aW_.d.sig),
  (136, cq_.d.sig),
  (137, b9_.d.sig),
  (138, a6_.d.sig),
  (139, ca_.d.sig),
  (140, aC_.d.sig),
  (141, a5_.d.sig),
  (142, aE_.d.sig),
  (143, aZ_.d.sig),
  (144, ba_.d.sig),
  (145, cx_.d.sig),
  (146, cy_.d.sig),
  (147, aD_.d.sig),
  (148, aG_.d.sig),
  (152, b1_.d.sig),
  (155, aF_.d.sig),
  (170, cj_.d.sig),
  (171, aU_.d.sig),
  (180, cl_.d.sig),
  (184, bX_.d.sig),
  (185, a4_.d.sig),
  (187, ct_.d.sig),
  (188, cs_.d.sig),
  (189, bj_.d.sig),
  (190, cd_.d.sig),
  (191, aA_.d.sig),
  (192, bs_.d.sig),
  (193, bD_.d.sig),
  (194, ah_.d.sig),
  (195, bM_.d.sig),
  (196, cf_.d.sig),
  (197, bx_.d.sig),
  (198, a9_.d.sig),
  (199, ab_.d.sig),
  (200, bR_.d.sig),
  (201, strconv_Itoa.d.sig),
  (202, af_.d.sig),
  (203, ac_.d.sig),
  (206, ci_.d.sig),
  (211, aS_.d.sig),
  (219, cC_.d.sig),
  (240, bk_.d.sig),
  (241, a7_.d.sig),
  (242, ae_.d.sig),
  (243, au_.d.sig),
  (249, cz_.d.sig),
  (277, ad_.d.sig),
  (278, bq_.d.sig),
  (279, bu_.d.sig),
  (282, ap_.d.sig),
  (284, ag_.d.sig),
  (300, bv_.d.sig),
  (301, a8_.d.sig),
  (320, br_.d.sig)]
def fzL : List Nat := [53, 61, 110, 113, 115, 116, 124, 135, 138, 141, 185, 189]
def cx (n nt : Nat) : Cx := ⟨nt, tt, fun f => fl_ sigL f, KH (KL n), fun f => fzL.any (Nat.beq f)⟩
end Go.Pi
end
section
set_option linter.unusedVariables false
set_option maxRecDepth 100000
namespace Go.Pi
open Go.Proofs
noncomputable def b3_.fs (n : Nat) : b3_.d.Fs := ()
theorem b3_.ok (n : Nat) : CxOk E (cx n b3_.d.nt) → KPar (cx n b3_.d.nt) → b3_.d.Ok E (b3_.F (n + 1)) :=
  FD.ok (fs := b3_.fs n) aR_ Tryz.func118 (by kernel_rfl) (by kernel_rfl) (by kernel_rfl) (by kernel_rfl) (fun _ => by kernel_rfl) (by kernel_rfl) (fun x => by kernel_rfl) (.nil)
noncomputable def ch_.fs (n : Nat) : ch_.d.Fs := ()
theorem ch_.ok (n : Nat) : CxOk E (cx n ch_.d.nt) → KPar (cx n ch_.d.nt) → ch_.d.Ok E (ch_.F (n + 1)) :=
  FD.ok (fs := ch_.fs n) aR_ Tryz.func119 (by kernel_rfl) (by kernel_rfl) (by kernel_rfl) (by kernel_rfl) (fun _ => by kernel_rfl) (by kernel_rfl) (fun x => by kernel_rfl) (.nil)
noncomputable def b2_.fs (n : Nat) : b2_.d.Fs := ()
theorem b2_.ok (n : Nat) : CxOk E (cx n b2_.d.nt) → KPar (cx n b2_.d.nt) → b2_.d.Ok E (b2_.F (n + 1)) :=
  FD.ok (fs := b2_.fs n) aR_ Tryz.func48 (by kernel_rfl) (by kernel_rfl) (by kernel_rfl) (by kernel_rfl) (fun _ => by kernel_rfl) (by kernel_rfl) (fun x => by kernel_rfl) (.nil)
noncomputable def cE_.fs (n : Nat) : cE_.d.Fs := ()
theorem cE_.ok (n : Nat) : CxOk E (cx n cE_.d.nt) → KPar (cx n cE_.d.nt) → cE_.d.Ok E (cE_.F (n + 1)) :=
  FD.ok (fs := cE_.fs n) aR_ Tryz.func120 (by kernel_rfl) (by kernel_rfl) (by kernel_rfl) (by kernel_rfl) (fun _ => by kernel_rfl) (by kernel_rfl) (fun x => by kernel_rfl) (.nil)
noncomputable def a1_.fs (n : Nat) : a1_.d.Fs := (fun _ κe => a1_.loop7 n (a1_.o0.k (κe 0)) n, ())
theorem a1_.r7 (n : Nat) : a1_.d.Round (a1_.fs n) (cx n a1_.d.nt) (bY_ Tryz.f49) 7 a1_.p7 (fun κe => a1_.step7 n (a1_.o0.k (κe 0))) := fun κ κe x y => by kernel_rfl
theorem a1_.ok (n : Nat) : CxOk E (cx n a1_.d.nt) → KPar (cx n a1_.d.nt) → a1_.d.Ok E (a1_.F (n + 1)) :=
  FD.ok (fs := a1_.fs n) aR_ Tryz.func49 (by kernel_rfl) (by kernel_rfl) (by kernel_rfl) (by kernel_rfl) (fun _ => by kernel_rfl) (by kernel_rfl) (fun x => by kernel_rfl) (.cons (FD.lp n (a1_.r7 n) (by kernel_rfl) fun _ _ => by kernel_rfl) (.nil))
noncomputable def cm_.fs (n : Nat) : cm_.d.Fs := ()
theorem cm_.ok (n : Nat) : CxOk E (cx n cm_.d.nt) → KPar (cx n cm_.d.nt) → cm_.d.Ok E (cm_.F (n + 1)) :=
  FD.ok (fs := cm_.fs n) aR_ Tryz.func50 (by kernel_rfl) (by kernel_rfl) (by kernel_rfl) (by kernel_rfl) (fun _ => by kernel_rfl) (by kernel_rfl) (fun x => by kernel_rfl) (.nil)
noncomputable def cg_.fs (n : Nat) : cg_.d.Fs := ()
theorem cg_.ok (n : Nat) : CxOk E (cx n cg_.d.nt) → KPar (cx n cg_.d.nt) → cg_.d.Ok E (cg_.F (n + 1)) :=
  FD.ok (fs := cg_.fs n) aR_ Tryz.func18 (by kernel_rfl) (by kernel_rfl) (by kernel_rfl) (by kernel_rfl) (fun _ => by kernel_rfl) (by kernel_rfl) (fun x => by kernel_rfl) (.nil)
noncomputable def cf_.fs (n : Nat) : cf_.d.Fs := ()
theorem cf_.ok (n : Nat) : CxOk E (cx n cf_.d.nt) → KPar (cx n cf_.d.nt) → cf_.d.Ok E (cf_.F (n + 1)) :=
  FD.ok (fs := cf_.fs n) aR_ Tryz.func196 (by kernel_rfl) (by kernel_rfl) (by kernel_rfl) (by kernel_rfl) (fun _ => by kernel_rfl) (by kernel_rfl) (fun x => by kernel_rfl) (.nil)
noncomputable def aP_.fs (n : Nat) : aP_.d.Fs := (fun _ κe => aP_.loop4 n (aP_.o0.k (κe 0)) n, ())
theorem aP_.r4 (n : Nat) : aP_.d.Round (aP_.fs n) (cx n aP_.d.nt) (bY_ Tryz.f128) 4 aP_.p4 (fun κe => aP_.step4 n (aP_.o0.k (κe 0))) := fun κ κe x y => by kernel_rfl
theorem aP_.ok (n : Nat) : CxOk E (cx n aP_.d.nt) → KPar (cx n aP_.d.nt) → aP_.d.Ok E (aP_.F (n + 1)) :=
  FD.ok (fs := aP_.fs n) aR_ Tryz.func128 (by kernel_rfl) (by kernel_rfl) (by kernel_rfl) (by kernel_rfl) (fun _ => by kernel_rfl) (by kernel_rfl) (fun x => by kernel_rfl) (.cons (FD.lp n (aP_.r4 n) (by kernel_rfl) fun _ _ => by kernel_rfl) (.nil))
noncomputable def a0_.fs (n : Nat) : a0_.d.Fs := (fun _ κe => a0_.loop4 n (a0_.o0.k (κe 0)) n, ())
theorem a0_.r4 (n : Nat) : a0_.d.Round (a0_.fs n) (cx n a0_.d.nt) (bY_ Tryz.f129) 4 a0_.p4 (fun κe => a0_.step4 n (a0_.o0.k (κe 0))) := fun κ κe x y => by kernel_rfl
theorem a0_.ok (n : Nat) : CxOk E (cx n a0_.d.nt) → KPar (cx n a0_.d.nt) → a0_.d.Ok E (a0_.F (n + 1)) :=
  FD.ok (fs := a0_.fs n) aR_ Tryz.func129 (by kernel_rfl) (by kernel_rfl) (by kernel_rfl) (by kernel_rfl) (fun _ => by kernel_rfl) (by kernel_rfl) (fun x => by kernel_rfl) (.cons (FD.lp n (a0_.r4 n) (by kernel_rfl) fun _ _ => by kernel_rfl) (.nil))
noncomputable def bV_.fs (n : Nat) : bV_.d.Fs := ()
theorem bV_.ok (n : Nat) : CxOk E (cx n bV_.d.nt) → KPar (cx n bV_.d.nt) → bV_.d.Ok E (bV_.F (n + 1)) :=
  FD.ok (fs := bV_.fs n) aR_ Tryz.func56 (by kernel_rfl) (by kernel_rfl) (by kernel_rfl) (by kernel_rfl) (fun _ => by kernel_rfl) (by kernel_rfl) (fun x => by kernel_rfl) (.nil)
noncomputable def cv_.fs (n : Nat) : cv_.d.Fs := ()
theorem cv_.ok (n : Nat) : CxOk E (cx n cv_.d.nt) → KPar (cx n cv_.d.nt) → cv_.d.Ok E (cv_.F (n + 1)) :=
  FD.ok (fs := cv_.fs n) aR_ Tryz.func130 (by kernel_rfl) (by kernel_rfl) (by kernel_rfl) (by kernel_rfl) (fun _ => by kernel_rfl) (by kernel_rfl) (fun x => by kernel_rfl) (.nil)
noncomputable def a2_.fs (n : Nat) : a2_.d.Fs := (fun _ κe => a2_.loop4 n (a2_.o0.k (κe 0)) n, ())
theorem a2_.r4 (n : Nat) : a2_.d.Round (a2_.fs n) (cx n a2_.d.nt) (bY_ Tryz.f57) 4 a2_.p4 (fun κe => a2_.step4 n (a2_.o0.k (κe 0))) := fun κ κe x y => by kernel_rfl
theorem a2_.ok (n : Nat) : CxOk E (cx n a2_.d.nt) → KPar (cx n a2_.d.nt) → a2_.d.Ok E (a2_.F (n + 1)) :=
  FD.ok (fs := a2_.fs n) aR_ Tryz.func57 (by kernel_rfl) (by kernel_rfl) (by kernel_rfl) (by kernel_rfl) (fun _ => by kernel_rfl) (by kernel_rfl) (fun x => by kernel_rfl) (.cons (FD.lp n (a2_.r4 n) (by kernel_rfl) fun _ _ => by kernel_rfl) (.nil))
noncomputable def cw_.fs (n : Nat) : cw_.d.Fs := ()
theorem cw_.ok (n : Nat) : CxOk E (cx n cw_.d.nt) → KPar (cx n cw_.d.nt) → cw_.d.Ok E (cw_.F (n + 1)) :=
  FD.ok (fs := cw_.fs n) aR_ Tryz.func131 (by kernel_rfl) (by kernel_rfl) (by kernel_rfl) (by kernel_rfl) (fun _ => by kernel_rfl) (by kernel_rfl) (fun x => by kernel_rfl) (.nil)
noncomputable def a3_.fs (n : Nat) : a3_.d.Fs := (fun _ κe => a3_.loop4 n (a3_.o0.k (κe 0)) n, ())
theorem a3_.r4 (n : Nat) : a3_.d.Round (a3_.fs n) (cx n a3_.d.nt) (bY_ Tryz.f58) 4 a3_.p4 (fun κe => a3_.step4 n (a3_.o0.k (κe 0))) := fun κ κe x y => by kernel_rfl
theorem a3_.ok (n : Nat) : CxOk E (cx n a3_.d.nt) → KPar (cx n a3_.d.nt) → a3_.d.Ok E (a3_.F (n + 1)) :=
  FD.ok (fs := a3_.fs n) aR_ Tryz.func58 (by kernel_rfl) (by kernel_rfl) (by kernel_rfl) (by kernel_rfl) (fun _ => by kernel_rfl) (by kernel_rfl) (fun x => by kernel_rfl) (.cons (FD.lp n (a3_.r4 n) (by kernel_rfl) fun _ _ => by kernel_rfl) (.nil))
noncomputable def bN_.fs (n : Nat) : bN_.d.Fs := ()
theorem bN_.ok (n : Nat) : CxOk E (cx n bN_.d.nt) → KPar (cx n bN_.d.nt) → bN_.d.Ok E (bN_.F (n + 1)) :=
  FD.ok (fs := bN_.fs n) aR_ Tryz.func20 (by kernel_rfl) (by kernel_rfl) (by kernel_rfl) (by kernel_rfl) (fun _ => by kernel_rfl) (by kernel_rfl) (fun x => by kernel_rfl) (.nil)
noncomputable def aY_.fs (n : Nat) : aY_.d.Fs := (fun _ κe => aY_.loop3 n (aY_.o0.k (κe 0)) n, ())
theorem aY_.r3 (n : Nat) : aY_.d.Round (aY_.fs n) (cx n aY_.d.nt) (bY_ Tryz.f121) 3 aY_.p3 (fun κe => aY_.step3 n (aY_.o0.k (κe 0))) := fun κ κe x y => by kernel_rfl
theorem aY_.ok (n : Nat) : CxOk E (cx n aY_.d.nt) → KPar (cx n aY_.d.nt) → aY_.d.Ok E (aY_.F (n + 1)) :=
  FD.ok (fs := aY_.fs n) aR_ Tryz.func121 (by kernel_rfl) (by kernel_rfl) (by kernel_rfl) (by kernel_rfl) (fun _ => by kernel_rfl) (by kernel_rfl) (fun x => by kernel_rfl) (.cons (FD.lp n (aY_.r3 n) (by kernel_rfl) fun _ _ => by kernel_rfl) (.nil))
noncomputable def bb_.fs (n : Nat) : bb_.d.Fs := (fun _ κe => bb_.loop3 n (bb_.o0.k (κe 0)) n, ())
theorem bb_.r3 (n : Nat) : bb_.d.Round (bb_.fs n) (cx n bb_.d.nt) (bY_ Tryz.f122) 3 bb_.p3 (fun κe => bb_.step3 n (bb_.o0.k (κe 0))) := fun κ κe x y => by kernel_rfl
theorem bb_.ok (n : Nat) : CxOk E (cx n bb_.d.nt) → KPar (cx n bb_.d.nt) → bb_.d.Ok E (bb_.F (n + 1)) :=
  FD.ok (fs := bb_.fs n) aR_ Tryz.func122 (by kernel_rfl) (by kernel_rfl) (by kernel_rfl) (by kernel_rfl) (fun _ => by kernel_rfl) (by kernel_rfl) (fun x => by kernel_rfl) (.cons (FD.lp n (bb_.r3 n) (by kernel_rfl) fun _ _ => by kernel_rfl) (.nil))
noncomputable def bH_.fs (n : Nat) : bH_.d.Fs := ()
theorem bH_.ok (n : Nat) : CxOk E (cx n bH_.d.nt) → KPar (cx n bH_.d.nt) → bH_.d.Ok E (bH_.F (n + 1)) :=
  FD.ok (fs := bH_.fs n) aR_ Tryz.func51 (by kernel_rfl) (by kernel_rfl) (by kernel_rfl) (by kernel_rfl) (fun _ => by kernel_rfl) (by kernel_rfl) (fun x => by kernel_rfl) (.nil)
noncomputable def a7_.fs (n : Nat) : a7_.d.Fs := (fun _ κe => a7_.loop3 n (a7_.o0.k (κe 0)) n, ())
theorem a7_.r3 (n : Nat) : a7_.d.Round (a7_.fs n) (cx n a7_.d.nt) (bY_ Tryz.f241) 3 a7_.p3 (fun κe => a7_.step3 n (a7_.o0.k (κe 0))) := fun κ κe x y => by kernel_rfl
theorem a7_.ok (n : Nat) : CxOk E (cx n a7_.d.nt) → KPar (cx n a7_.d.nt) → a7_.d.Ok E (a7_.F (n + 1)) :=
  FD.ok (fs := a7_.fs n) aR_ Tryz.func241 (by kernel_rfl) (by kernel_rfl) (by kernel_rfl) (by kernel_rfl) (fun _ => by kernel_rfl) (by kernel_rfl) (fun x => by kernel_rfl) (.cons (FD.lp n (a7_.r3 n) (by kernel_rfl) fun _ _ => by kernel_rfl) (.nil))
noncomputable def ae_.fs (n : Nat) : ae_.d.Fs := (fun _ κe => ae_.loop6 n (ae_.o0.k (κe 0)) n, ())
theorem ae_.r6 (n : Nat) : ae_.d.Round (ae_.fs n) (cx n ae_.d.nt) (bY_ Tryz.f242) 6 ae_.p6 (fun κe => ae_.step6 n (ae_.o0.k (κe 0))) := fun κ κe x y => by kernel_rfl
theorem ae_.ok (n : Nat) : CxOk E (cx n ae_.d.nt) → KPar (cx n ae_.d.nt) → ae_.d.Ok E (ae_.F (n + 1)) :=
  FD.ok (fs := ae_.fs n) aR_ Tryz.func242 (by kernel_rfl) (by kernel_rfl) (by kernel_rfl) (by kernel_rfl) (fun _ => by kernel_rfl) (by kernel_rfl) (fun x => by kernel_rfl) (.cons (FD.lp n (ae_.r6 n) (by kernel_rfl) fun _ _ => by kernel_rfl) (.nil))
noncomputable def cC_.fs (n : Nat) : cC_.d.Fs := ()
theorem cC_.ok (n : Nat) : CxOk E (cx n cC_.d.nt) → KPar (cx n cC_.d.nt) → cC_.d.Ok E (cC_.F (n + 1)) :=
  FD.ok (fs := cC_.fs n) aR_ Tryz.func219 (by kernel_rfl) (by kernel_rfl) (by kernel_rfl) (by kernel_rfl) (fun _ => by kernel_rfl) (by kernel_rfl) (fun x => by kernel_rfl) (.nil)
noncomputable def aA_.fs (n : Nat) : aA_.d.Fs := (fun _ κe => aA_.loop23 n (aA_ n) (aA_.o1.k (κe 1)) n, ())
theorem aA_.r23 (n : Nat) : aA_.d.Round (aA_.fs n) (cx n aA_.d.nt) (bY_ Tryz.f191) 23 aA_.p23 (fun κe => aA_.step23 n (aA_ n) (aA_.o1.k (κe 1))) := fun κ κe x y => by kernel_rfl
theorem aA_.ok (n : Nat) : CxOk E (cx n aA_.d.nt) → KPar (cx n aA_.d.nt) → aA_.d.Ok E (aA_.F (n + 1)) :=
  FD.ok (fs := aA_.fs n) aR_ Tryz.func191 (by kernel_rfl) (by kernel_rfl) (by kernel_rfl) (by kernel_rfl) (fun _ => by kernel_rfl) (by kernel_rfl) (fun x => by kernel_rfl) (.cons (FD.lp n (aA_.r23 n) (by kernel_rfl) fun _ _ => by kernel_rfl) (.nil))
noncomputable def bZ_.fs (n : Nat) : bZ_.d.Fs := ()
theorem bZ_.ok (n : Nat) : CxOk E (cx n bZ_.d.nt) → KPar (cx n bZ_.d.nt) → bZ_.d.Ok E (bZ_.F (n + 1)) :=
  FD.ok (fs := bZ_.fs n) aR_ Tryz.func123 (by kernel_rfl) (by kernel_rfl) (by kernel_rfl) (by kernel_rfl) (fun _ => by kernel_rfl) (by kernel_rfl) (fun x => by kernel_rfl) (.nil)
noncomputable def cu_.fs (n : Nat) : cu_.d.Fs := ()
theorem cu_.ok (n : Nat) : CxOk E (cx n cu_.d.nt) → KPar (cx n cu_.d.nt) → cu_.d.Ok E (cu_.F (n + 1)) :=
  FD.ok (fs := cu_.fs n) aR_ Tryz.func52 (by kernel_rfl) (by kernel_rfl) (by kernel_rfl) (by kernel_rfl) (fun _ => by kernel_rfl) (by kernel_rfl) (fun x => by kernel_rfl) (.nil)
noncomputable def cs_.fs (n : Nat) : cs_.d.Fs := ()
theorem cs_.ok (n : Nat) : CxOk E (cx n cs_.d.nt) → KPar (cx n cs_.d.nt) → cs_.d.Ok E (cs_.F (n + 1)) :=
  FD.ok (fs := cs_.fs n) aR_ Tryz.func188 (by kernel_rfl) (by kernel_rfl) (by kernel_rfl) (by kernel_rfl) (fun _ => by kernel_rfl) (by kernel_rfl) (fun x => by kernel_rfl) (.nil)
noncomputable def ct_.fs (n : Nat) : ct_.d.Fs := ()
theorem ct_.ok (n : Nat) : CxOk E (cx n ct_.d.nt) → KPar (cx n ct_.d.nt) → ct_.d.Ok E (ct_.F (n + 1)) :=
  FD.ok (fs := ct_.fs n) aR_ Tryz.func187 (by kernel_rfl) (by kernel_rfl) (by kernel_rfl) (by kernel_rfl) (fun _ => by kernel_rfl) (by kernel_rfl) (fun x => by kernel_rfl) (.nil)
noncomputable def bQ_.fs (n : Nat) : bQ_.d.Fs := ()
theorem bQ_.ok (n : Nat) : CxOk E (cx n bQ_.d.nt) → KPar (cx n bQ_.d.nt) → bQ_.d.Ok E (bQ_.F (n + 1)) :=
  FD.ok (fs := bQ_.fs n) aR_ Tryz.func114 (by kernel_rfl) (by kernel_rfl) (by kernel_rfl) (by kernel_rfl) (fun _ => by kernel_rfl) (by kernel_rfl) (fun x => by kernel_rfl) (.nil)
noncomputable def bd_.fs (n : Nat) : bd_.d.Fs := (fun _ κe => bd_.loop3 n (bd_.o0.k (κe 0)) n, ())
theorem bd_.r3 (n : Nat) : bd_.d.Round (bd_.fs n) (cx n bd_.d.nt) (bY_ Tryz.f12) 3 bd_.p3 (fun κe => bd_.step3 n (bd_.o0.k (κe 0))) := fun κ κe x y => by kernel_rfl
theorem bd_.ok (n : Nat) : CxOk E (cx n bd_.d.nt) → KPar (cx n bd_.d.nt) → bd_.d.Ok E (bd_.F (n + 1)) :=
  FD.ok (fs := bd_.fs n) aR_ Tryz.func12 (by kernel_rfl) (by kernel_rfl) (by kernel_rfl) (by kernel_rfl) (fun _ => by kernel_rfl) (by kernel_rfl) (fun x => by kernel_rfl) (.cons (FD.lp n (bd_.r3 n) (by kernel_rfl) fun _ _ => by kernel_rfl) (.nil))
noncomputable def aF_.fs (n : Nat) : aF_.d.Fs := (fun _ κe => aF_.loop7 n (aF_.o0.k (κe 0)) n, ())
theorem aF_.r7 (n : Nat) : aF_.d.Round (aF_.fs n) (cx n aF_.d.nt) (bY_ Tryz.f155) 7 aF_.p7 (fun κe => aF_.step7 n (aF_.o0.k (κe 0))) := fun κ κe x y => by kernel_rfl
theorem aF_.ok (n : Nat) : CxOk E (cx n aF_.d.nt) → KPar (cx n aF_.d.nt) → aF_.d.Ok E (aF_.F (n + 1)) :=
  FD.ok (fs := aF_.fs n) aR_ Tryz.func155 (by kernel_rfl) (by kernel_rfl) (by kernel_rfl) (by kernel_rfl) (fun _ => by kernel_rfl) (by kernel_rfl) (fun x => by kernel_rfl) (.cons (FD.lp n (aF_.r7 n) (by kernel_rfl) fun _ _ => by kernel_rfl) (.nil))
noncomputable def cd_.fs (n : Nat) : cd_.d.Fs := ()
theorem cd_.ok (n : Nat) : CxOk E (cx n cd_.d.nt) → KPar (cx n cd_.d.nt) → cd_.d.Ok E (cd_.F (n + 1)) :=
  FD.ok (fs := cd_.fs n) aR_ Tryz.func190 (by kernel_rfl) (by kernel_rfl) (by kernel_rfl) (by kernel_rfl) (fun _ => by kernel_rfl) (by kernel_rfl) (fun x => by kernel_rfl) (.nil)
noncomputable def bT_.fs (n : Nat) : bT_.d.Fs := ()
theorem bT_.ok (n : Nat) : CxOk E (cx n bT_.d.nt) → KPar (cx n bT_.d.nt) → bT_.d.Ok E (bT_.F (n + 1)) :=
  FD.ok (fs := bT_.fs n) aR_ Tryz.func117 (by kernel_rfl) (by kernel_rfl) (by kernel_rfl) (by kernel_rfl) (fun _ => by kernel_rfl) (by kernel_rfl) (fun x => by kernel_rfl) (.nil)
noncomputable def bj_.fs (n : Nat) : bj_.d.Fs := (fun _ κe => bj_.loop5 n (bj_.o0.k (κe 0)) n, ())
theorem bj_.r5 (n : Nat) : bj_.d.Round (bj_.fs n) (cx n bj_.d.nt) (bY_ Tryz.f189) 5 bj_.p5 (fun κe => bj_.step5 n (bj_.o0.k (κe 0))) := fun κ κe x y => by kernel_rfl
theorem bj_.ok (n : Nat) : CxOk E (cx n bj_.d.nt) → KPar (cx n bj_.d.nt) → bj_.d.Ok E (bj_.F (n + 1)) :=
  FD.ok (fs := bj_.fs n) aR_ Tryz.func189 (by kernel_rfl) (by kernel_rfl) (by kernel_rfl) (by kernel_rfl) (fun _ => by kernel_rfl) (by kernel_rfl) (fun x => by kernel_rfl) (.cons (FD.lp n (bj_.r5 n) (by kernel_rfl) fun _ _ => by kernel_rfl) (.nil))
noncomputable def bc_.fs (n : Nat) : bc_.d.Fs := (fun _ κe => bc_.loop4 n (bc_.o0.k (κe 0)) n, ())
theorem bc_.r4 (n : Nat) : bc_.d.Round (bc_.fs n) (cx n bc_.d.nt) (bY_ Tryz.f115) 4 bc_.p4 (fun κe => bc_.step4 n (bc_.o0.k (κe 0))) := fun κ κe x y => by kernel_rfl
theorem bc_.ok (n : Nat) : CxOk E (cx n bc_.d.nt) → KPar (cx n bc_.d.nt) → bc_.d.Ok E (bc_.F (n + 1)) :=
  FD.ok (fs := bc_.fs n) aR_ Tryz.func115 (by kernel_rfl) (by kernel_rfl) (by kernel_rfl) (by kernel_rfl) (fun _ => by kernel_rfl) (by kernel_rfl) (fun x => by kernel_rfl) (.cons (FD.lp n (bc_.r4 n) (by kernel_rfl) fun _ _ => by kernel_rfl) (.nil))
noncomputable def bP_.fs (n : Nat) : bP_.d.Fs := ()
theorem bP_.ok (n : Nat) : CxOk E (cx n bP_.d.nt) → KPar (cx n bP_.d.nt) → bP_.d.Ok E (bP_.F (n + 1)) :=
  FD.ok (fs := bP_.fs n) aR_ Tryz.func116 (by kernel_rfl) (by kernel_rfl) (by kernel_rfl) (by kernel_rfl) (fun _ => by kernel_rfl) (by kernel_rfl) (fun x => by kernel_rfl) (.nil)
noncomputable def ce_.fs (n : Nat) : ce_.d.Fs := ()
theorem ce_.ok (n : Nat) : CxOk E (cx n ce_.d.nt) → KPar (cx n ce_.d.nt) → ce_.d.Ok E (ce_.F (n + 1)) :=
  FD.ok (fs := ce_.fs n) aR_ Tryz.func124 (by kernel_rfl) (by kernel_rfl) (by kernel_rfl) (by kernel_rfl) (fun _ => by kernel_rfl) (by kernel_rfl) (fun x => by kernel_rfl) (.nil)
noncomputable def aN_.fs (n : Nat) : aN_.d.Fs := (fun _ κe => aN_.loop5 n (aN_.o0.k (κe 0)) n, ())
theorem aN_.r5 (n : Nat) : aN_.d.Round (aN_.fs n) (cx n aN_.d.nt) (bY_ Tryz.f53) 5 aN_.p5 (fun κe => aN_.step5 n (aN_.o0.k (κe 0))) := fun κ κe x y => by kernel_rfl
theorem aN_.ok (n : Nat) : CxOk E (cx n aN_.d.nt) → KPar (cx n aN_.d.nt) → aN_.d.Ok E (aN_.F (n + 1)) :=
  FD.ok (fs := aN_.fs n) aR_ Tryz.func53 (by kernel_rfl) (by kernel_rfl) (by kernel_rfl) (by kernel_rfl) (fun _ => by kernel_rfl) (by kernel_rfl) (fun x => by kernel_rfl) (.cons (FD.lp n (aN_.r5 n) (by kernel_rfl) fun _ _ => by kernel_rfl) (.nil))
noncomputable def bs_.fs (n : Nat) : bs_.d.Fs := (fun _ κe => bs_.loop3 n (bs_.o0.k (κe 0)) n, ())
theorem bs_.r3 (n : Nat) : bs_.d.Round (bs_.fs n) (cx n bs_.d.nt) (bY_ Tryz.f192) 3 bs_.p3 (fun κe => bs_.step3 n (bs_.o0.k (κe 0))) := fun κ κe x y => by kernel_rfl
theorem bs_.ok (n : Nat) : CxOk E (cx n bs_.d.nt) → KPar (cx n bs_.d.nt) → bs_.d.Ok E (bs_.F (n + 1)) :=
  FD.ok (fs := bs_.fs n) aR_ Tryz.func192 (by kernel_rfl) (by kernel_rfl) (by kernel_rfl) (by kernel_rfl) (fun _ => by kernel_rfl) (by kernel_rfl) (fun x => by kernel_rfl) (.cons (FD.lp n (bs_.r3 n) (by kernel_rfl) fun _ _ => by kernel_rfl) (.nil))
noncomputable def aw_.fs (n : Nat) : aw_.d.Fs := (fun _ κe => aw_.loop3 n (aw_.o0.k (κe 0)) n, fun _ κe => aw_.loop11 n (aw_.o2.k (κe 2)) n, ())
theorem aw_.r11 (n : Nat) : aw_.d.Round (aw_.fs n) (cx n aw_.d.nt) (bY_ Tryz.f126) 11 aw_.p11 (fun κe => aw_.step11 n (aw_.o2.k (κe 2))) := fun κ κe x y => by kernel_rfl
theorem aw_.r3 (n : Nat) : aw_.d.Round (aw_.fs n) (cx n aw_.d.nt) (bY_ Tryz.f126) 3 aw_.p3 (fun κe => aw_.step3 n (aw_.o0.k (κe 0))) := fun κ κe x y => by kernel_rfl
theorem aw_.ok (n : Nat) : CxOk E (cx n aw_.d.nt) → KPar (cx n aw_.d.nt) → aw_.d.Ok E (aw_.F (n + 1)) :=
  FD.ok (fs := aw_.fs n) aR_ Tryz.func126 (by kernel_rfl) (by kernel_rfl) (by kernel_rfl) (by kernel_rfl) (fun _ => by kernel_rfl) (by kernel_rfl) (fun x => by kernel_rfl) (.cons (FD.lp n (aw_.r3 n) (by kernel_rfl) fun _ _ => by kernel_rfl) (.cons (FD.lp n (aw_.r11 n) (by kernel_rfl) fun _ _ => by kernel_rfl) (.nil)))
noncomputable def bD_.fs (n : Nat) : bD_.d.Fs := ()
theorem bD_.ok (n : Nat) : CxOk E (cx n bD_.d.nt) → KPar (cx n bD_.d.nt) → bD_.d.Ok E (bD_.F (n + 1)) :=
  FD.ok (fs := bD_.fs n) aR_ Tryz.func193 (by kernel_rfl) (by kernel_rfl) (by kernel_rfl) (by kernel_rfl) (fun _ => by kernel_rfl) (by kernel_rfl) (fun x => by kernel_rfl) (.nil)
noncomputable def ah_.fs (n : Nat) : ah_.d.Fs := (fun _ κe => ah_.loop6 n (ah_ n) (ah_.o0.k (κe 0)) n, fun _ κe => ah_.loop14 n (ah_ n) (ah_.o2.k (κe 2)) n, ())
theorem ah_.r14 (n : Nat) : ah_.d.Round (ah_.fs n) (cx n ah_.d.nt) (bY_ Tryz.f194) 14 ah_.p14 (fun κe => ah_.step14 n (ah_ n) (ah_.o2.k (κe 2))) := fun κ κe x y => by kernel_rfl
theorem ah_.r6 (n : Nat) : ah_.d.Round (ah_.fs n) (cx n ah_.d.nt) (bY_ Tryz.f194) 6 ah_.p6 (fun κe => ah_.step6 n (ah_ n) (ah_.o0.k (κe 0))) := fun κ κe x y => by kernel_rfl
theorem ah_.ok (n : Nat) : CxOk E (cx n ah_.d.nt) → KPar (cx n ah_.d.nt) → ah_.d.Ok E (ah_.F (n + 1)) :=
  FD.ok (fs := ah_.fs n) aR_ Tryz.func194 (by kernel_rfl) (by kernel_rfl) (by kernel_rfl) (by kernel_rfl) (fun _ => by kernel_rfl) (by kernel_rfl) (fun x => by kernel_rfl) (.cons (FD.lp n (ah_.r6 n) (by kernel_rfl) fun _ _ => by kernel_rfl) (.cons (FD.lp n (ah_.r14 n) (by kernel_rfl) fun _ _ => by kernel_rfl) (.nil)))
noncomputable def aX_.fs (n : Nat) : aX_.d.Fs := (fun _ κe => aX_.loop4 n (aX_ n) (aX_.o0.k (κe 0)) n, ())
theorem aX_.r4 (n : Nat) : aX_.d.Round (aX_.fs n) (cx n aX_.d.nt) (bY_ Tryz.f125) 4 aX_.p4 (fun κe => aX_.step4 n (aX_ n) (aX_.o0.k (κe 0))) := fun κ κe x y => by kernel_rfl
theorem aX_.ok (n : Nat) : CxOk E (cx n aX_.d.nt) → KPar (cx n aX_.d.nt) → aX_.d.Ok E (aX_.F (n + 1)) :=
  FD.ok (fs := aX_.fs n) aR_ Tryz.func125 (by kernel_rfl) (by kernel_rfl) (by kernel_rfl) (by kernel_rfl) (fun _ => by kernel_rfl) (by kernel_rfl) (fun x => by kernel_rfl) (.cons (FD.lp n (aX_.r4 n) (by kernel_rfl) fun _ _ => by kernel_rfl) (.nil))
noncomputable def bM_.fs (n : Nat) : bM_.d.Fs := ()
theorem bM_.ok (n : Nat) : CxOk E (cx n bM_.d.nt) → KPar (cx n bM_.d.nt) → bM_.d.Ok E (bM_.F (n + 1)) :=
  FD.ok (fs := bM_.fs n) aR_ Tryz.func195 (by kernel_rfl) (by kernel_rfl) (by kernel_rfl) (by kernel_rfl) (fun _ => by kernel_rfl) (by kernel_rfl) (fun x => by kernel_rfl) (.nil)
noncomputable def as_.fs (n : Nat) : as_.d.Fs := (fun _ κe => as_.loop5 n (as_.o0.k (κe 0)) n, fun _ κe => as_.loop13 n (as_.o2.k (κe 2)) n, ())
theorem as_.r13 (n : Nat) : as_.d.Round (as_.fs n) (cx n as_.d.nt) (bY_ Tryz.f127) 13 as_.p13 (fun κe => as_.step13 n (as_.o2.k (κe 2))) := fun κ κe x y => by kernel_rfl
theorem as_.r5 (n : Nat) : as_.d.Round (as_.fs n) (cx n as_.d.nt) (bY_ Tryz.f127) 5 as_.p5 (fun κe => as_.step5 n (as_.o0.k (κe 0))) := fun κ κe x y => by kernel_rfl
theorem as_.ok (n : Nat) : CxOk E (cx n as_.d.nt) → KPar (cx n as_.d.nt) → as_.d.Ok E (as_.F (n + 1)) :=
  FD.ok (fs := as_.fs n) aR_ Tryz.func127 (by kernel_rfl) (by kernel_rfl) (by kernel_rfl) (by kernel_rfl) (fun _ => by kernel_rfl) (by kernel_rfl) (fun x => by kernel_rfl) (.cons (FD.lp n (as_.r5 n) (by kernel_rfl) fun _ _ => by kernel_rfl) (.cons (FD.lp n (as_.r13 n) (by kernel_rfl) fun _ _ => by kernel_rfl) (.nil)))
noncomputable def cH_.fs (n : Nat) : cH_.d.Fs := ()
theorem cH_.ok (n : Nat) : CxOk E (cx n cH_.d.nt) → KPar (cx n cH_.d.nt) → cH_.d.Ok E (cH_.F (n + 1)) :=
  FD.ok (fs := cH_.fs n) aR_ Tryz.func55 (by kernel_rfl) (by kernel_rfl) (by kernel_rfl) (by kernel_rfl) (fun _ => by kernel_rfl) (by kernel_rfl) (fun x => by kernel_rfl) (.nil)
noncomputable def bn_.fs (n : Nat) : bn_.d.Fs := (fun _ κe => bn_.loop4 n (bn_.o0.k (κe 0)) n, ())
theorem bn_.r4 (n : Nat) : bn_.d.Round (bn_.fs n) (cx n bn_.d.nt) (bY_ Tryz.f54) 4 bn_.p4 (fun κe => bn_.step4 n (bn_.o0.k (κe 0))) := fun κ κe x y => by kernel_rfl
theorem bn_.ok (n : Nat) : CxOk E (cx n bn_.d.nt) → KPar (cx n bn_.d.nt) → bn_.d.Ok E (bn_.F (n + 1)) :=
  FD.ok (fs := bn_.fs n) aR_ Tryz.func54 (by kernel_rfl) (by kernel_rfl) (by kernel_rfl) (by kernel_rfl) (fun _ => by kernel_rfl) (by kernel_rfl) (fun x => by kernel_rfl) (.cons (FD.lp n (bn_.r4 n) (by kernel_rfl) fun _ _ => by kernel_rfl) (.nil))
noncomputable def bG_.fs (n : Nat) : bG_.d.Fs := ()
theorem bG_.ok (n : Nat) : CxOk E (cx n bG_.d.nt) → KPar (cx n bG_.d.nt) → bG_.d.Ok E (bG_.F (n + 1)) :=
  FD.ok (fs := bG_.fs n) aR_ Tryz.func19 (by kernel_rfl) (by kernel_rfl) (by kernel_rfl) (by kernel_rfl) (fun _ => by kernel_rfl) (by kernel_rfl) (fun x => by kernel_rfl) (.nil)
noncomputable def al_.fs (n : Nat) : al_.d.Fs := (fun _ κe => al_.loop6 n (al_.o0.k (κe 0)) n, ())
theorem al_.r6 (n : Nat) : al_.d.Round (al_.fs n) (cx n al_.d.nt) (bY_ Tryz.f132) 6 al_.p6 (fun κe => al_.step6 n (al_.o0.k (κe 0))) := fun κ κe x y => by kernel_rfl
theorem al_.ok (n : Nat) : CxOk E (cx n al_.d.nt) → KPar (cx n al_.d.nt) → al_.d.Ok E (al_.F (n + 1)) :=
  FD.ok (fs := al_.fs n) aR_ Tryz.func132 (by kernel_rfl) (by kernel_rfl) (by kernel_rfl) (by kernel_rfl) (fun _ => by kernel_rfl) (by kernel_rfl) (fun x => by kernel_rfl) (.cons (FD.lp n (al_.r6 n) (by kernel_rfl) fun _ _ => by kernel_rfl) (.nil))
noncomputable def av_.fs (n : Nat) : av_.d.Fs := (fun _ κe => av_.loop6 n (av_.o0.k (κe 0)) n, ())
theorem av_.r6 (n : Nat) : av_.d.Round (av_.fs n) (cx n av_.d.nt) (bY_ Tryz.f133) 6 av_.p6 (fun κe => av_.step6 n (av_.o0.k (κe 0))) := fun κ κe x y => by kernel_rfl
theorem av_.ok (n : Nat) : CxOk E (cx n av_.d.nt) → KPar (cx n av_.d.nt) → av_.d.Ok E (av_.F (n + 1)) :=
  FD.ok (fs := av_.fs n) aR_ Tryz.func133 (by kernel_rfl) (by kernel_rfl) (by kernel_rfl) (by kernel_rfl) (fun _ => by kernel_rfl) (by kernel_rfl) (fun x => by kernel_rfl) (.cons (FD.lp n (av_.r6 n) (by kernel_rfl) fun _ _ => by kernel_rfl) (.nil))
noncomputable def bJ_.fs (n : Nat) : bJ_.d.Fs := ()
theorem bJ_.ok (n : Nat) : CxOk E (cx n bJ_.d.nt) → KPar (cx n bJ_.d.nt) → bJ_.d.Ok E (bJ_.F (n + 1)) :=
  FD.ok (fs := bJ_.fs n) aR_ Tryz.func59 (by kernel_rfl) (by kernel_rfl) (by kernel_rfl) (by kernel_rfl) (fun _ => by kernel_rfl) (by kernel_rfl) (fun x => by kernel_rfl) (.nil)
noncomputable def aM_.fs (n : Nat) : aM_.d.Fs := ()
theorem aM_.ok (n : Nat) : CxOk E (cx n aM_.d.nt) → KPar (cx n aM_.d.nt) → aM_.d.Ok E (aM_.F (n + 1)) :=
  FD.ok (fs := aM_.fs n) aR_ Tryz.func98 (by kernel_rfl) (by kernel_rfl) (by kernel_rfl) (by kernel_rfl) (fun _ => by kernel_rfl) (by kernel_rfl) (fun x => by kernel_rfl) (.nil)
noncomputable def bh_.fs (n : Nat) : bh_.d.Fs := ()
theorem bh_.ok (n : Nat) : CxOk E (cx n bh_.d.nt) → KPar (cx n bh_.d.nt) → bh_.d.Ok E (bh_.F (n + 1)) :=
  FD.ok (fs := bh_.fs n) aR_ Tryz.func99 (by kernel_rfl) (by kernel_rfl) (by kernel_rfl) (by kernel_rfl) (fun _ => by kernel_rfl) (by kernel_rfl) (fun x => by kernel_rfl) (.nil)
noncomputable def ap_.fs (n : Nat) : ap_.d.Fs := (fun _ κe => ap_.loop3 n (ap_.o0.k (κe 0)) n, ())
theorem ap_.r3 (n : Nat) : ap_.d.Round (ap_.fs n) (cx n ap_.d.nt) (bY_ Tryz.f282) 3 ap_.p3 (fun κe => ap_.step3 n (ap_.o0.k (κe 0))) := fun κ κe x y => by kernel_rfl
theorem ap_.ok (n : Nat) : CxOk E (cx n ap_.d.nt) → KPar (cx n ap_.d.nt) → ap_.d.Ok E (ap_.F (n + 1)) :=
  FD.ok (fs := ap_.fs n) aR_ Tryz.func282 (by kernel_rfl) (by kernel_rfl) (by kernel_rfl) (by kernel_rfl) (fun _ => by kernel_rfl) (by kernel_rfl) (fun x => by kernel_rfl) (.cons (FD.lp n (ap_.r3 n) (by kernel_rfl) fun _ _ => by kernel_rfl) (.nil))
noncomputable def ag_.fs (n : Nat) : ag_.d.Fs := (fun _ κe => ag_.loop3 n (ag_.o0.k (κe 0)) n, ())
theorem ag_.r3 (n : Nat) : ag_.d.Round (ag_.fs n) (cx n ag_.d.nt) (bY_ Tryz.f284) 3 ag_.p3 (fun κe => ag_.step3 n (ag_.o0.k (κe 0))) := fun κ κe x y => by kernel_rfl
theorem ag_.ok (n : Nat) : CxOk E (cx n ag_.d.nt) → KPar (cx n ag_.d.nt) → ag_.d.Ok E (ag_.F (n + 1)) :=
  FD.ok (fs := ag_.fs n) aR_ Tryz.func284 (by kernel_rfl) (by kernel_rfl) (by kernel_rfl) (by kernel_rfl) (fun _ => by kernel_rfl) (by kernel_rfl) (fun x => by kernel_rfl) (.cons (FD.lp n (ag_.r3 n) (by kernel_rfl) fun _ _ => by kernel_rfl) (.nil))
noncomputable def cz_.fs (n : Nat) : cz_.d.Fs := ()
theorem cz_.ok (n : Nat) : CxOk E (cx n cz_.d.nt) → KPar (cx n cz_.d.nt) → cz_.d.Ok E (cz_.F (n + 1)) :=
  FD.ok (fs := cz_.fs n) aR_ Tryz.func249 (by kernel_rfl) (by kernel_rfl) (by kernel_rfl) (by kernel_rfl) (fun _ => by kernel_rfl) (by kernel_rfl) (fun x => by kernel_rfl) (.nil)
noncomputable def aS_.fs (n : Nat) : aS_.d.Fs := (fun _ κe => aS_.loop7 n (aS_ n) (aS_.o0.k (κe 0)) n, ())
theorem aS_.r7 (n : Nat) : aS_.d.Round (aS_.fs n) (cx n aS_.d.nt) (bY_ Tryz.f211) 7 aS_.p7 (fun κe => aS_.step7 n (aS_ n) (aS_.o0.k (κe 0))) := fun κ κe x y => by kernel_rfl
theorem aS_.ok (n : Nat) : CxOk E (cx n aS_.d.nt) → KPar (cx n aS_.d.nt) → aS_.d.Ok E (aS_.F (n + 1)) :=
  FD.ok (fs := aS_.fs n) aR_ Tryz.func211 (by kernel_rfl) (by kernel_rfl) (by kernel_rfl) (by kernel_rfl) (fun _ => by kernel_rfl) (by kernel_rfl) (fun x => by kernel_rfl) (.cons (FD.lp n (aS_.r7 n) (by kernel_rfl) fun _ _ => by kernel_rfl) (.nil))
noncomputable def b1_.fs (n : Nat) : b1_.d.Fs := ()
theorem b1_.ok (n : Nat) : CxOk E (cx n b1_.d.nt) → KPar (cx n b1_.d.nt) → b1_.d.Ok E (b1_.F (n + 1)) :=
  FD.ok (fs := b1_.fs n) aR_ Tryz.func152 (by kernel_rfl) (by kernel_rfl) (by kernel_rfl) (by kernel_rfl) (fun _ => by kernel_rfl) (by kernel_rfl) (fun x => by kernel_rfl) (.nil)
noncomputable def bA_.fs (n : Nat) : bA_.d.Fs := ()
theorem bA_.ok (n : Nat) : CxOk E (cx n bA_.d.nt) → KPar (cx n bA_.d.nt) → bA_.d.Ok E (bA_.F (n + 1)) :=
  FD.ok (fs := bA_.fs n) aR_ Tryz.func113 (by kernel_rfl) (by kernel_rfl) (by kernel_rfl) (by kernel_rfl) (fun _ => by kernel_rfl) (by kernel_rfl) (fun x => by kernel_rfl) (.nil)
noncomputable def cA_.fs (n : Nat) : cA_.d.Fs := ()
theorem cA_.ok (n : Nat) : CxOk E (cx n cA_.d.nt) → KPar (cx n cA_.d.nt) → cA_.d.Ok E (cA_.F (n + 1)) :=
  FD.ok (fs := cA_.fs n) aR_ Tryz.func60 (by kernel_rfl) (by kernel_rfl) (by kernel_rfl) (by kernel_rfl) (fun _ => by kernel_rfl) (by kernel_rfl) (fun x => by kernel_rfl) (.nil)
noncomputable def bg_.fs (n : Nat) : bg_.d.Fs := (fun _ κe => bg_.loop3 n (bg_.o0.k (κe 0)) n, ())
theorem bg_.r3 (n : Nat) : bg_.d.Round (bg_.fs n) (cx n bg_.d.nt) (bY_ Tryz.f11) 3 bg_.p3 (fun κe => bg_.step3 n (bg_.o0.k (κe 0))) := fun κ κe x y => by kernel_rfl
theorem bg_.ok (n : Nat) : CxOk E (cx n bg_.d.nt) → KPar (cx n bg_.d.nt) → bg_.d.Ok E (bg_.F (n + 1)) :=
  FD.ok (fs := bg_.fs n) aR_ Tryz.func11 (by kernel_rfl) (by kernel_rfl) (by kernel_rfl) (by kernel_rfl) (fun _ => by kernel_rfl) (by kernel_rfl) (fun x => by kernel_rfl) (.cons (FD.lp n (bg_.r3 n) (by kernel_rfl) fun _ _ => by kernel_rfl) (.nil))
noncomputable def az_.fs (n : Nat) : az_.d.Fs := (fun _ κe => az_.loop4 n (az_.o0.k (κe 0)) n, ())
theorem az_.r4 (n : Nat) : az_.d.Round (az_.fs n) (cx n az_.d.nt) (bY_ Tryz.f45) 4 az_.p4 (fun κe => az_.step4 n (az_.o0.k (κe 0))) := fun κ κe x y => by kernel_rfl
theorem az_.ok (n : Nat) : CxOk E (cx n az_.d.nt) → KPar (cx n az_.d.nt) → az_.d.Ok E (az_.F (n + 1)) :=
  FD.ok (fs := az_.fs n) aR_ Tryz.func45 (by kernel_rfl) (by kernel_rfl) (by kernel_rfl) (by kernel_rfl) (fun _ => by kernel_rfl) (by kernel_rfl) (fun x => by kernel_rfl) (.cons (FD.lp n (az_.r4 n) (by kernel_rfl) fun _ _ => by kernel_rfl) (.nil))
noncomputable def bX_.fs (n : Nat) : bX_.d.Fs := ()
theorem bX_.ok (n : Nat) : CxOk E (cx n bX_.d.nt) → KPar (cx n bX_.d.nt) → bX_.d.Ok E (bX_.F (n + 1)) :=
  FD.ok (fs := bX_.fs n) aR_ Tryz.func184 (by kernel_rfl) (by kernel_rfl) (by kernel_rfl) (by kernel_rfl) (fun _ => by kernel_rfl) (by kernel_rfl) (fun x => by kernel_rfl) (.nil)
noncomputable def au_.fs (n : Nat) : au_.d.Fs := (fun _ κe => au_.loop3 n (au_.o0.k (κe 0)) n, ())
theorem au_.r3 (n : Nat) : au_.d.Round (au_.fs n) (cx n au_.d.nt) (bY_ Tryz.f243) 3 au_.p3 (fun κe => au_.step3 n (au_.o0.k (κe 0))) := fun κ κe x y => by kernel_rfl
theorem au_.ok (n : Nat) : CxOk E (cx n au_.d.nt) → KPar (cx n au_.d.nt) → au_.d.Ok E (au_.F (n + 1)) :=
  FD.ok (fs := au_.fs n) aR_ Tryz.func243 (by kernel_rfl) (by kernel_rfl) (by kernel_rfl) (by kernel_rfl) (fun _ => by kernel_rfl) (by kernel_rfl) (fun x => by kernel_rfl) (.cons (FD.lp n (au_.r3 n) (by kernel_rfl) fun _ _ => by kernel_rfl) (.nil))
noncomputable def a9_.fs (n : Nat) : a9_.d.Fs := ()
theorem a9_.ok (n : Nat) : CxOk E (cx n a9_.d.nt) → KPar (cx n a9_.d.nt) → a9_.d.Ok E (a9_.F (n + 1)) :=
  FD.ok (fs := a9_.fs n) aR_ Tryz.func198 (by kernel_rfl) (by kernel_rfl) (by kernel_rfl) (by kernel_rfl) (fun _ => by kernel_rfl) (by kernel_rfl) (fun x => by kernel_rfl) (.nil)
noncomputable def cj_.fs (n : Nat) : cj_.d.Fs := ()
theorem cj_.ok (n : Nat) : CxOk E (cx n cj_.d.nt) → KPar (cx n cj_.d.nt) → cj_.d.Ok E (cj_.F (n + 1)) :=
  FD.ok (fs := cj_.fs n) aR_ Tryz.func170 (by kernel_rfl) (by kernel_rfl) (by kernel_rfl) (by kernel_rfl) (fun _ => by kernel_rfl) (by kernel_rfl) (fun x => by kernel_rfl) (.nil)
noncomputable def cl_.fs (n : Nat) : cl_.d.Fs := ()
theorem cl_.ok (n : Nat) : CxOk E (cx n cl_.d.nt) → KPar (cx n cl_.d.nt) → cl_.d.Ok E (cl_.F (n + 1)) :=
  FD.ok (fs := cl_.fs n) aR_ Tryz.func180 (by kernel_rfl) (by kernel_rfl) (by kernel_rfl) (by kernel_rfl) (fun _ => by kernel_rfl) (by kernel_rfl) (fun x => by kernel_rfl) (.nil)
noncomputable def br_.fs (n : Nat) : br_.d.Fs := ()
theorem br_.ok (n : Nat) : CxOk E (cx n br_.d.nt) → KPar (cx n br_.d.nt) → br_.d.Ok E (br_.F (n + 1)) :=
  FD.ok (fs := br_.fs n) aR_ Tryz.func320 (by kernel_rfl) (by kernel_rfl) (by kernel_rfl) (by kernel_rfl) (fun _ => by kernel_rfl) (by kernel_rfl) (fun x => by kernel_rfl) (.nil)
noncomputable def bv_.fs (n : Nat) : bv_.d.Fs := ()
theorem bv_.ok (n : Nat) : CxOk E (cx n bv_.d.nt) → KPar (cx n bv_.d.nt) → bv_.d.Ok E (bv_.F (n + 1)) :=
  FD.ok (fs := bv_.fs n) aR_ Tryz.func300 (by kernel_rfl) (by kernel_rfl) (by kernel_rfl) (by kernel_rfl) (fun _ => by kernel_rfl) (by kernel_rfl) (fun x => by kernel_rfl) (.nil)
noncomputable def a8_.fs (n : Nat) : a8_.d.Fs := ()
theorem a8_.ok (n : Nat) : CxOk E (cx n a8_.d.nt) → KPar (cx n a8_.d.nt) → a8_.d.Ok E (a8_.F (n + 1)) :=
  FD.ok (fs := a8_.fs n) aR_ Tryz.func301 (by kernel_rfl) (by kernel_rfl) (by kernel_rfl) (by kernel_rfl) (fun _ => by kernel_rfl) (by kernel_rfl) (fun x => by kernel_rfl) (.nil)
noncomputable def ad_.fs (n : Nat) : ad_.d.Fs := (fun _ κe => ad_.loop4 n (ad_.o0.k (κe 0)) n, ())
theorem ad_.r4 (n : Nat) : ad_.d.Round (ad_.fs n) (cx n ad_.d.nt) (bY_ Tryz.f277) 4 ad_.p4 (fun κe => ad_.step4 n (ad_.o0.k (κe 0))) := fun κ κe x y => by kernel_rfl
theorem ad_.ok (n : Nat) : CxOk E (cx n ad_.d.nt) → KPar (cx n ad_.d.nt) → ad_.d.Ok E (ad_.F (n + 1)) :=
  FD.ok (fs := ad_.fs n) aR_ Tryz.func277 (by kernel_rfl) (by kernel_rfl) (by kernel_rfl) (by kernel_rfl) (fun _ => by kernel_rfl) (by kernel_rfl) (fun x => by kernel_rfl) (.cons (FD.lp n (ad_.r4 n) (by kernel_rfl) fun _ _ => by kernel_rfl) (.nil))
noncomputable def bk_.fs (n : Nat) : bk_.d.Fs := (fun _ κe => bk_.loop4 n (bk_.o0.k (κe 0)) n, ())
theorem bk_.r4 (n : Nat) : bk_.d.Round (bk_.fs n) (cx n bk_.d.nt) (bY_ Tryz.f240) 4 bk_.p4 (fun κe => bk_.step4 n (bk_.o0.k (κe 0))) := fun κ κe x y => by kernel_rfl
theorem bk_.ok (n : Nat) : CxOk E (cx n bk_.d.nt) → KPar (cx n bk_.d.nt) → bk_.d.Ok E (bk_.F (n + 1)) :=
  FD.ok (fs := bk_.fs n) aR_ Tryz.func240 (by kernel_rfl) (by kernel_rfl) (by kernel_rfl) (by kernel_rfl) (fun _ => by kernel_rfl) (by kernel_rfl) (fun x => by kernel_rfl) (.cons (FD.lp n (bk_.r4 n) (by kernel_rfl) fun _ _ => by kernel_rfl) (.nil))
noncomputable def b0_.fs (n : Nat) : b0_.d.Fs := ()
theorem b0_.ok (n : Nat) : CxOk E (cx n b0_.d.nt) → KPar (cx n b0_.d.nt) → b0_.d.Ok E (b0_.F (n + 1)) :=
  FD.ok (fs := b0_.fs n) aR_ Tryz.func113 (by kernel_rfl) (by kernel_rfl) (by kernel_rfl) (by kernel_rfl) (fun _ => by kernel_rfl) (by kernel_rfl) (fun x => by kernel_rfl) (.nil)
noncomputable def a4_.fs (n : Nat) : a4_.d.Fs := (fun _ κe => a4_.loop4 n (a4_.o0.k (κe 0)) n, ())
theorem a4_.r4 (n : Nat) : a4_.d.Round (a4_.fs n) (cx n a4_.d.nt) (bY_ Tryz.f185) 4 a4_.p4 (fun κe => a4_.step4 n (a4_.o0.k (κe 0))) := fun κ κe x y => by kernel_rfl
theorem a4_.ok (n : Nat) : CxOk E (cx n a4_.d.nt) → KPar (cx n a4_.d.nt) → a4_.d.Ok E (a4_.F (n + 1)) :=
  FD.ok (fs := a4_.fs n) aR_ Tryz.func185 (by kernel_rfl) (by kernel_rfl) (by kernel_rfl) (by kernel_rfl) (fun _ => by kernel_rfl) (by kernel_rfl) (fun x => by kernel_rfl) (.cons (FD.lp n (a4_.r4 n) (by kernel_rfl) fun _ _ => by kernel_rfl) (.nil))
noncomputable def aV_.fs (n : Nat) : aV_.d.Fs := (fun _ κe => aV_.loop4 n (aV_.o0.k (κe 0)) n, ())
theorem aV_.r4 (n : Nat) : aV_.d.Round (aV_.fs n) (cx n aV_.d.nt) (bY_ Tryz.f110) 4 aV_.p4 (fun κe => aV_.step4 n (aV_.o0.k (κe 0))) := fun κ κe x y => by kernel_rfl
theorem aV_.ok (n : Nat) : CxOk E (cx n aV_.d.nt) → KPar (cx n aV_.d.nt) → aV_.d.Ok E (aV_.F (n + 1)) :=
  FD.ok (fs := aV_.fs n) aR_ Tryz.func110 (by kernel_rfl) (by kernel_rfl) (by kernel_rfl) (by kernel_rfl) (fun _ => by kernel_rfl) (by kernel_rfl) (fun x => by kernel_rfl) (.cons (FD.lp n (aV_.r4 n) (by kernel_rfl) fun _ _ => by kernel_rfl) (.nil))
noncomputable def bl_.fs (n : Nat) : bl_.d.Fs := (fun _ κe => bl_.loop5 n (bl_.o0.k (κe 0)) n, ())
theorem bl_.r5 (n : Nat) : bl_.d.Round (bl_.fs n) (cx n bl_.d.nt) (bY_ Tryz.f61) 5 bl_.p5 (fun κe => bl_.step5 n (bl_.o0.k (κe 0))) := fun κ κe x y => by kernel_rfl
theorem bl_.ok (n : Nat) : CxOk E (cx n bl_.d.nt) → KPar (cx n bl_.d.nt) → bl_.d.Ok E (bl_.F (n + 1)) :=
  FD.ok (fs := bl_.fs n) aR_ Tryz.func61 (by kernel_rfl) (by kernel_rfl) (by kernel_rfl) (by kernel_rfl) (fun _ => by kernel_rfl) (by kernel_rfl) (fun x => by kernel_rfl) (.cons (FD.lp n (bl_.r5 n) (by kernel_rfl) fun _ _ => by kernel_rfl) (.nil))
noncomputable def aW_.fs (n : Nat) : aW_.d.Fs := (fun _ κe => aW_.loop7 n (aW_.o0.k (κe 0)) n, ())
theorem aW_.r7 (n : Nat) : aW_.d.Round (aW_.fs n) (cx n aW_.d.nt) (bY_ Tryz.f135) 7 aW_.p7 (fun κe => aW_.step7 n (aW_.o0.k (κe 0))) := fun κ κe x y => by kernel_rfl
theorem aW_.ok (n : Nat) : CxOk E (cx n aW_.d.nt) → KPar (cx n aW_.d.nt) → aW_.d.Ok E (aW_.F (n + 1)) :=
  FD.ok (fs := aW_.fs n) aR_ Tryz.func135 (by kernel_rfl) (by kernel_rfl) (by kernel_rfl) (by kernel_rfl) (fun _ => by kernel_rfl) (by kernel_rfl) (fun x => by kernel_rfl) (.cons (FD.lp n (aW_.r7 n) (by kernel_rfl) fun _ _ => by kernel_rfl) (.nil))
noncomputable def bR_.fs (n : Nat) : bR_.d.Fs := ()
theorem bR_.ok (n : Nat) : CxOk E (cx n bR_.d.nt) → KPar (cx n bR_.d.nt) → bR_.d.Ok E (bR_.F (n + 1)) :=
  FD.ok (fs := bR_.fs n) aR_ Tryz.func200 (by kernel_rfl) (by kernel_rfl) (by kernel_rfl) (by kernel_rfl) (fun _ => by kernel_rfl) (by kernel_rfl) (fun x => by kernel_rfl) (.nil)
noncomputable def ab_.fs (n : Nat) : ab_.d.Fs := (fun _ κe => ab_.loop3 n (ab_.o0.k (κe 0)) n, ())
theorem ab_.r3 (n : Nat) : ab_.d.Round (ab_.fs n) (cx n ab_.d.nt) (bY_ Tryz.f199) 3 ab_.p3 (fun κe => ab_.step3 n (ab_.o0.k (κe 0))) := fun κ κe x y => by kernel_rfl
theorem ab_.ok (n : Nat) : CxOk E (cx n ab_.d.nt) → KPar (cx n ab_.d.nt) → ab_.d.Ok E (ab_.F (n + 1)) :=
  FD.ok (fs := ab_.fs n) aR_ Tryz.func199 (by kernel_rfl) (by kernel_rfl) (by kernel_rfl) (by kernel_rfl) (fun _ => by kernel_rfl) (by kernel_rfl) (fun x => by kernel_rfl) (.cons (FD.lp n (ab_.r3 n) (by kernel_rfl) fun _ _ => by kernel_rfl) (.nil))
noncomputable def cq_.fs (n : Nat) : cq_.d.Fs := ()
theorem cq_.ok (n : Nat) : CxOk E (cx n cq_.d.nt) → KPar (cx n cq_.d.nt) → cq_.d.Ok E (cq_.F (n + 1)) :=
  FD.ok (fs := cq_.fs n) aR_ Tryz.func136 (by kernel_rfl) (by kernel_rfl) (by kernel_rfl) (by kernel_rfl) (fun _ => by kernel_rfl) (by kernel_rfl) (fun x => by kernel_rfl) (.nil)
noncomputable def b9_.fs (n : Nat) : b9_.d.Fs := ()
theorem b9_.ok (n : Nat) : CxOk E (cx n b9_.d.nt) → KPar (cx n b9_.d.nt) → b9_.d.Ok E (b9_.F (n + 1)) :=
  FD.ok (fs := b9_.fs n) aR_ Tryz.func137 (by kernel_rfl) (by kernel_rfl) (by kernel_rfl) (by kernel_rfl) (fun _ => by kernel_rfl) (by kernel_rfl) (fun x => by kernel_rfl) (.nil)
noncomputable def af_.fs (n : Nat) : af_.d.Fs := (fun _ κe => af_.loop6 n (af_.o0.k (κe 0)) n, ())
theorem af_.r6 (n : Nat) : af_.d.Round (af_.fs n) (cx n af_.d.nt) (bY_ Tryz.f202) 6 af_.p6 (fun κe => af_.step6 n (af_.o0.k (κe 0))) := fun κ κe x y => by kernel_rfl
theorem af_.ok (n : Nat) : CxOk E (cx n af_.d.nt) → KPar (cx n af_.d.nt) → af_.d.Ok E (af_.F (n + 1)) :=
  FD.ok (fs := af_.fs n) aR_ Tryz.func202 (by kernel_rfl) (by kernel_rfl) (by kernel_rfl) (by kernel_rfl) (fun _ => by kernel_rfl) (by kernel_rfl) (fun x => by kernel_rfl) (.cons (FD.lp n (af_.r6 n) (by kernel_rfl) fun _ _ => by kernel_rfl) (.nil))
noncomputable def ac_.fs (n : Nat) : ac_.d.Fs := (fun _ κe => ac_.loop6 n (ca_ n) (ac_.o0.k (κe 0)) n, ())
theorem ac_.r6 (n : Nat) : ac_.d.Round (ac_.fs n) (cx n ac_.d.nt) (bY_ Tryz.f203) 6 ac_.p6 (fun κe => ac_.step6 n (ca_ n) (ac_.o0.k (κe 0))) := fun κ κe x y => by kernel_rfl
theorem ac_.ok (n : Nat) : CxOk E (cx n ac_.d.nt) → KPar (cx n ac_.d.nt) → ac_.d.Ok E (ac_.F (n + 1)) :=
  FD.ok (fs := ac_.fs n) aR_ Tryz.func203 (by kernel_rfl) (by kernel_rfl) (by kernel_rfl) (by kernel_rfl) (fun _ => by kernel_rfl) (by kernel_rfl) (fun x => by kernel_rfl) (.cons (FD.lp n (ac_.r6 n) (by kernel_rfl) fun _ _ => by kernel_rfl) (.nil))
noncomputable def ca_.fs (n : Nat) : ca_.d.Fs := ()
theorem ca_.ok (n : Nat) : CxOk E (cx n ca_.d.nt) → KPar (cx n ca_.d.nt) → ca_.d.Ok E (ca_.F (n + 1)) :=
  FD.ok (fs := ca_.fs n) aR_ Tryz.func139 (by kernel_rfl) (by kernel_rfl) (by kernel_rfl) (by kernel_rfl) (fun _ => by kernel_rfl) (by kernel_rfl) (fun x => by kernel_rfl) (.nil)
noncomputable def bx_.fs (n : Nat) : bx_.d.Fs := ()
theorem bx_.ok (n : Nat) : CxOk E (cx n bx_.d.nt) → KPar (cx n bx_.d.nt) → bx_.d.Ok E (bx_.F (n + 1)) :=
  FD.ok (fs := bx_.fs n) aR_ Tryz.func197 (by kernel_rfl) (by kernel_rfl) (by kernel_rfl) (by kernel_rfl) (fun _ => by kernel_rfl) (by kernel_rfl) (fun x => by kernel_rfl) (.nil)
noncomputable def aC_.fs (n : Nat) : aC_.d.Fs := (fun _ κe => aC_.loop4 n (aC_ n) (aC_.o0.k (κe 0)) n, ())
theorem aC_.r4 (n : Nat) : aC_.d.Round (aC_.fs n) (cx n aC_.d.nt) (bY_ Tryz.f140) 4 aC_.p4 (fun κe => aC_.step4 n (aC_ n) (aC_.o0.k (κe 0))) := fun κ κe x y => by kernel_rfl
theorem aC_.ok (n : Nat) : CxOk E (cx n aC_.d.nt) → KPar (cx n aC_.d.nt) → aC_.d.Ok E (aC_.F (n + 1)) :=
  FD.ok (fs := aC_.fs n) aR_ Tryz.func140 (by kernel_rfl) (by kernel_rfl) (by kernel_rfl) (by kernel_rfl) (fun _ => by kernel_rfl) (by kernel_rfl) (fun x => by kernel_rfl) (.cons (FD.lp n (aC_.r4 n) (by kernel_rfl) fun _ _ => by kernel_rfl) (.nil))
noncomputable def aL_.fs (n : Nat) : aL_.d.Fs := (fun _ κe => aL_.loop9 n (aL_.o0.k (κe 0)) n, fun _ κe => aL_.loop17 n (aL_.o2.k (κe 2)) n, ())
theorem aL_.r17 (n : Nat) : aL_.d.Round (aL_.fs n) (cx n aL_.d.nt) (bY_ Tryz.f63) 17 aL_.p17 (fun κe => aL_.step17 n (aL_.o2.k (κe 2))) := fun κ κe x y => by kernel_rfl
theorem aL_.r9 (n : Nat) : aL_.d.Round (aL_.fs n) (cx n aL_.d.nt) (bY_ Tryz.f63) 9 aL_.p9 (fun κe => aL_.step9 n (aL_.o0.k (κe 0))) := fun κ κe x y => by kernel_rfl
theorem aL_.ok (n : Nat) : CxOk E (cx n aL_.d.nt) → KPar (cx n aL_.d.nt) → aL_.d.Ok E (aL_.F (n + 1)) :=
  FD.ok (fs := aL_.fs n) aR_ Tryz.func63 (by kernel_rfl) (by kernel_rfl) (by kernel_rfl) (by kernel_rfl) (fun _ => by kernel_rfl) (by kernel_rfl) (fun x => by kernel_rfl) (.cons (FD.lp n (aL_.r9 n) (by kernel_rfl) fun _ _ => by kernel_rfl) (.cons (FD.lp n (aL_.r17 n) (by kernel_rfl) fun _ _ => by kernel_rfl) (.nil)))
noncomputable def ck_.fs (n : Nat) : ck_.d.Fs := ()
theorem ck_.ok (n : Nat) : CxOk E (cx n ck_.d.nt) → KPar (cx n ck_.d.nt) → ck_.d.Ok E (ck_.F (n + 1)) :=
  FD.ok (fs := ck_.fs n) aR_ Tryz.func134 (by kernel_rfl) (by kernel_rfl) (by kernel_rfl) (by kernel_rfl) (fun _ => by kernel_rfl) (by kernel_rfl) (fun x => by kernel_rfl) (.nil)
noncomputable def bo_.fs (n : Nat) : bo_.d.Fs := (fun _ κe => bo_.loop4 n (bo_.o0.k (κe 0)) n, ())
theorem bo_.r4 (n : Nat) : bo_.d.Round (bo_.fs n) (cx n bo_.d.nt) (bY_ Tryz.f62) 4 bo_.p4 (fun κe => bo_.step4 n (bo_.o0.k (κe 0))) := fun κ κe x y => by kernel_rfl
theorem bo_.ok (n : Nat) : CxOk E (cx n bo_.d.nt) → KPar (cx n bo_.d.nt) → bo_.d.Ok E (bo_.F (n + 1)) :=
  FD.ok (fs := bo_.fs n) aR_ Tryz.func62 (by kernel_rfl) (by kernel_rfl) (by kernel_rfl) (by kernel_rfl) (fun _ => by kernel_rfl) (by kernel_rfl) (fun x => by kernel_rfl) (.cons (FD.lp n (bo_.r4 n) (by kernel_rfl) fun _ _ => by kernel_rfl) (.nil))
noncomputable def bE_.fs (n : Nat) : bE_.d.Fs := ()
theorem bE_.ok (n : Nat) : CxOk E (cx n bE_.d.nt) → KPar (cx n bE_.d.nt) → bE_.d.Ok E (bE_.F (n + 1)) :=
  FD.ok (fs := bE_.fs n) aR_ Tryz.func21 (by kernel_rfl) (by kernel_rfl) (by kernel_rfl) (by kernel_rfl) (fun _ => by kernel_rfl) (by kernel_rfl) (fun x => by kernel_rfl) (.nil)
noncomputable def aE_.fs (n : Nat) : aE_.d.Fs := (fun _ κe => aE_.loop6 n (aE_.o0.k (κe 0)) n, ())
theorem aE_.r6 (n : Nat) : aE_.d.Round (aE_.fs n) (cx n aE_.d.nt) (bY_ Tryz.f142) 6 aE_.p6 (fun κe => aE_.step6 n (aE_.o0.k (κe 0))) := fun κ κe x y => by kernel_rfl
theorem aE_.ok (n : Nat) : CxOk E (cx n aE_.d.nt) → KPar (cx n aE_.d.nt) → aE_.d.Ok E (aE_.F (n + 1)) :=
  FD.ok (fs := aE_.fs n) aR_ Tryz.func142 (by kernel_rfl) (by kernel_rfl) (by kernel_rfl) (by kernel_rfl) (fun _ => by kernel_rfl) (by kernel_rfl) (fun x => by kernel_rfl) (.cons (FD.lp n (aE_.r6 n) (by kernel_rfl) fun _ _ => by kernel_rfl) (.nil))
noncomputable def aU_.fs (n : Nat) : aU_.d.Fs := (fun _ κe => aU_.loop6 n (bK_ n) (aU_.o0.k (κe 0)) n, ())
theorem aU_.r6 (n : Nat) : aU_.d.Round (aU_.fs n) (cx n aU_.d.nt) (bY_ Tryz.f171) 6 aU_.p6 (fun κe => aU_.step6 n (bK_ n) (aU_.o0.k (κe 0))) := fun κ κe x y => by kernel_rfl
theorem aU_.ok (n : Nat) : CxOk E (cx n aU_.d.nt) → KPar (cx n aU_.d.nt) → aU_.d.Ok E (aU_.F (n + 1)) :=
  FD.ok (fs := aU_.fs n) aR_ Tryz.func171 (by kernel_rfl) (by kernel_rfl) (by kernel_rfl) (by kernel_rfl) (fun _ => by kernel_rfl) (by kernel_rfl) (fun x => by kernel_rfl) (.cons (FD.lp n (aU_.r6 n) (by kernel_rfl) fun _ _ => by kernel_rfl) (.nil))
noncomputable def bK_.fs (n : Nat) : bK_.d.Fs := ()
theorem bK_.ok (n : Nat) : CxOk E (cx n bK_.d.nt) → KPar (cx n bK_.d.nt) → bK_.d.Ok E (bK_.F (n + 1)) :=
  FD.ok (fs := bK_.fs n) aR_ Tryz.func88 (by kernel_rfl) (by kernel_rfl) (by kernel_rfl) (by kernel_rfl) (fun _ => by kernel_rfl) (by kernel_rfl) (fun x => by kernel_rfl) (.nil)
noncomputable def cJ_.fs (n : Nat) : cJ_.d.Fs := ()
theorem cJ_.ok (n : Nat) : CxOk E (cx n cJ_.d.nt) → KPar (cx n cJ_.d.nt) → cJ_.d.Ok E (cJ_.F (n + 1)) :=
  FD.ok (fs := cJ_.fs n) aR_ Tryz.func64 (by kernel_rfl) (by kernel_rfl) (by kernel_rfl) (by kernel_rfl) (fun _ => by kernel_rfl) (by kernel_rfl) (fun x => by kernel_rfl) (.nil)
noncomputable def bm_.fs (n : Nat) : bm_.d.Fs := (fun _ κe => bm_.loop6 n (bm_.o0.k (κe 0)) n, ())
theorem bm_.r6 (n : Nat) : bm_.d.Round (bm_.fs n) (cx n bm_.d.nt) (bY_ Tryz.f22) 6 bm_.p6 (fun κe => bm_.step6 n (bm_.o0.k (κe 0))) := fun κ κe x y => by kernel_rfl
theorem bm_.ok (n : Nat) : CxOk E (cx n bm_.d.nt) → KPar (cx n bm_.d.nt) → bm_.d.Ok E (bm_.F (n + 1)) :=
  FD.ok (fs := bm_.fs n) aR_ Tryz.func22 (by kernel_rfl) (by kernel_rfl) (by kernel_rfl) (by kernel_rfl) (fun _ => by kernel_rfl) (by kernel_rfl) (fun x => by kernel_rfl) (.cons (FD.lp n (bm_.r6 n) (by kernel_rfl) fun _ _ => by kernel_rfl) (.nil))
noncomputable def ci_.fs (n : Nat) : ci_.d.Fs := ()
theorem ci_.ok (n : Nat) : CxOk E (cx n ci_.d.nt) → KPar (cx n ci_.d.nt) → ci_.d.Ok E (ci_.F (n + 1)) :=
  FD.ok (fs := ci_.fs n) aR_ Tryz.func206 (by kernel_rfl) (by kernel_rfl) (by kernel_rfl) (by kernel_rfl) (fun _ => by kernel_rfl) (by kernel_rfl) (fun x => by kernel_rfl) (.nil)
noncomputable def aZ_.fs (n : Nat) : aZ_.d.Fs := (fun _ κe => aZ_.loop6 n (aZ_.o0.k (κe 0)) n, ())
theorem aZ_.r6 (n : Nat) : aZ_.d.Round (aZ_.fs n) (cx n aZ_.d.nt) (bY_ Tryz.f143) 6 aZ_.p6 (fun κe => aZ_.step6 n (aZ_.o0.k (κe 0))) := fun κ κe x y => by kernel_rfl
theorem aZ_.ok (n : Nat) : CxOk E (cx n aZ_.d.nt) → KPar (cx n aZ_.d.nt) → aZ_.d.Ok E (aZ_.F (n + 1)) :=
  FD.ok (fs := aZ_.fs n) aR_ Tryz.func143 (by kernel_rfl) (by kernel_rfl) (by kernel_rfl) (by kernel_rfl) (fun _ => by kernel_rfl) (by kernel_rfl) (fun x => by kernel_rfl) (.cons (FD.lp n (aZ_.r6 n) (by kernel_rfl) fun _ _ => by kernel_rfl) (.nil))
noncomputable def ba_.fs (n : Nat) : ba_.d.Fs := (fun _ κe => ba_.loop6 n (ba_.o0.k (κe 0)) n, ())
theorem ba_.r6 (n : Nat) : ba_.d.Round (ba_.fs n) (cx n ba_.d.nt) (bY_ Tryz.f144) 6 ba_.p6 (fun κe => ba_.step6 n (ba_.o0.k (κe 0))) := fun κ κe x y => by kernel_rfl
theorem ba_.ok (n : Nat) : CxOk E (cx n ba_.d.nt) → KPar (cx n ba_.d.nt) → ba_.d.Ok E (ba_.F (n + 1)) :=
  FD.ok (fs := ba_.fs n) aR_ Tryz.func144 (by kernel_rfl) (by kernel_rfl) (by kernel_rfl) (by kernel_rfl) (fun _ => by kernel_rfl) (by kernel_rfl) (fun x => by kernel_rfl) (.cons (FD.lp n (ba_.r6 n) (by kernel_rfl) fun _ _ => by kernel_rfl) (.nil))
end Go.Pi
end
section
set_option linter.unusedVariables false
set_option maxRecDepth 100000
namespace Go.Pi
open Go.Proofs
noncomputable def bW_.fs (n : Nat) : bW_.d.Fs := ()
theorem bW_.ok (n : Nat) : CxOk E (cx n bW_.d.nt) → KPar (cx n bW_.d.nt) → bW_.d.Ok E (bW_.F (n + 1)) :=
  FD.ok (fs := bW_.fs n) aR_ Tryz.func65 (by kernel_rfl) (by kernel_rfl) (by kernel_rfl) (by kernel_rfl) (fun _ => by kernel_rfl) (by kernel_rfl) (fun x => by kernel_rfl) (.nil)
noncomputable def cx_.fs (n : Nat) : cx_.d.Fs := ()
theorem cx_.ok (n : Nat) : CxOk E (cx n cx_.d.nt) → KPar (cx n cx_.d.nt) → cx_.d.Ok E (cx_.F (n + 1)) :=
  FD.ok (fs := cx_.fs n) aR_ Tryz.func145 (by kernel_rfl) (by kernel_rfl) (by kernel_rfl) (by kernel_rfl) (fun _ => by kernel_rfl) (by kernel_rfl) (fun x => by kernel_rfl) (.nil)
noncomputable def be_.fs (n : Nat) : be_.d.Fs := (fun _ κe => be_.loop6 n (be_.o0.k (κe 0)) n, ())
theorem be_.r6 (n : Nat) : be_.d.Round (be_.fs n) (cx n be_.d.nt) (bY_ Tryz.f66) 6 be_.p6 (fun κe => be_.step6 n (be_.o0.k (κe 0))) := fun κ κe x y => by kernel_rfl
theorem be_.ok (n : Nat) : CxOk E (cx n be_.d.nt) → KPar (cx n be_.d.nt) → be_.d.Ok E (be_.F (n + 1)) :=
  FD.ok (fs := be_.fs n) aR_ Tryz.func66 (by kernel_rfl) (by kernel_rfl) (by kernel_rfl) (by kernel_rfl) (fun _ => by kernel_rfl) (by kernel_rfl) (fun x => by kernel_rfl) (.cons (FD.lp n (be_.r6 n) (by kernel_rfl) fun _ _ => by kernel_rfl) (.nil))
noncomputable def cy_.fs (n : Nat) : cy_.d.Fs := ()
theorem cy_.ok (n : Nat) : CxOk E (cx n cy_.d.nt) → KPar (cx n cy_.d.nt) → cy_.d.Ok E (cy_.F (n + 1)) :=
  FD.ok (fs := cy_.fs n) aR_ Tryz.func146 (by kernel_rfl) (by kernel_rfl) (by kernel_rfl) (by kernel_rfl) (fun _ => by kernel_rfl) (by kernel_rfl) (fun x => by kernel_rfl) (.nil)
noncomputable def bf_.fs (n : Nat) : bf_.d.Fs := (fun _ κe => bf_.loop6 n (bf_.o0.k (κe 0)) n, ())
theorem bf_.r6 (n : Nat) : bf_.d.Round (bf_.fs n) (cx n bf_.d.nt) (bY_ Tryz.f67) 6 bf_.p6 (fun κe => bf_.step6 n (bf_.o0.k (κe 0))) := fun κ κe x y => by kernel_rfl
theorem bf_.ok (n : Nat) : CxOk E (cx n bf_.d.nt) → KPar (cx n bf_.d.nt) → bf_.d.Ok E (bf_.F (n + 1)) :=
  FD.ok (fs := bf_.fs n) aR_ Tryz.func67 (by kernel_rfl) (by kernel_rfl) (by kernel_rfl) (by kernel_rfl) (fun _ => by kernel_rfl) (by kernel_rfl) (fun x => by kernel_rfl) (.cons (FD.lp n (bf_.r6 n) (by kernel_rfl) fun _ _ => by kernel_rfl) (.nil))
noncomputable def b7_.fs (n : Nat) : b7_.d.Fs := ()
theorem b7_.ok (n : Nat) : CxOk E (cx n b7_.d.nt) → KPar (cx n b7_.d.nt) → b7_.d.Ok E (b7_.F (n + 1)) :=
  FD.ok (fs := b7_.fs n) aR_ Tryz.func23 (by kernel_rfl) (by kernel_rfl) (by kernel_rfl) (by kernel_rfl) (fun _ => by kernel_rfl) (by kernel_rfl) (fun x => by kernel_rfl) (.nil)
noncomputable def aD_.fs (n : Nat) : aD_.d.Fs := (fun _ κe => aD_.loop3 n (aD_.o0.k (κe 0)) n, ())
theorem aD_.r3 (n : Nat) : aD_.d.Round (aD_.fs n) (cx n aD_.d.nt) (bY_ Tryz.f147) 3 aD_.p3 (fun κe => aD_.step3 n (aD_.o0.k (κe 0))) := fun κ κe x y => by kernel_rfl
theorem aD_.ok (n : Nat) : CxOk E (cx n aD_.d.nt) → KPar (cx n aD_.d.nt) → aD_.d.Ok E (aD_.F (n + 1)) :=
  FD.ok (fs := aD_.fs n) aR_ Tryz.func147 (by kernel_rfl) (by kernel_rfl) (by kernel_rfl) (by kernel_rfl) (fun _ => by kernel_rfl) (by kernel_rfl) (fun x => by kernel_rfl) (.cons (FD.lp n (aD_.r3 n) (by kernel_rfl) fun _ _ => by kernel_rfl) (.nil))
noncomputable def aG_.fs (n : Nat) : aG_.d.Fs := (fun _ κe => aG_.loop3 n (aG_.o0.k (κe 0)) n, ())
theorem aG_.r3 (n : Nat) : aG_.d.Round (aG_.fs n) (cx n aG_.d.nt) (bY_ Tryz.f148) 3 aG_.p3 (fun κe => aG_.step3 n (aG_.o0.k (κe 0))) := fun κ κe x y => by kernel_rfl
theorem aG_.ok (n : Nat) : CxOk E (cx n aG_.d.nt) → KPar (cx n aG_.d.nt) → aG_.d.Ok E (aG_.F (n + 1)) :=
  FD.ok (fs := aG_.fs n) aR_ Tryz.func148 (by kernel_rfl) (by kernel_rfl) (by kernel_rfl) (by kernel_rfl) (fun _ => by kernel_rfl) (by kernel_rfl) (fun x => by kernel_rfl) (.cons (FD.lp n (aG_.r3 n) (by kernel_rfl) fun _ _ => by kernel_rfl) (.nil))
noncomputable def bI_.fs (n : Nat) : bI_.d.Fs := ()
theorem bI_.ok (n : Nat) : CxOk E (cx n bI_.d.nt) → KPar (cx n bI_.d.nt) → bI_.d.Ok E (bI_.F (n + 1)) :=
  FD.ok (fs := bI_.fs n) aR_ Tryz.func68 (by kernel_rfl) (by kernel_rfl) (by kernel_rfl) (by kernel_rfl) (fun _ => by kernel_rfl) (by kernel_rfl) (fun x => by kernel_rfl) (.nil)
noncomputable def aH_.fs (n : Nat) : aH_.d.Fs := (fun _ κe => aH_.loop3 n (aH_.o0.k (κe 0)) n, ())
theorem aH_.r3 (n : Nat) : aH_.d.Round (aH_.fs n) (cx n aH_.d.nt) (bY_ Tryz.f69) 3 aH_.p3 (fun κe => aH_.step3 n (aH_.o0.k (κe 0))) := fun κ κe x y => by kernel_rfl
theorem aH_.ok (n : Nat) : CxOk E (cx n aH_.d.nt) → KPar (cx n aH_.d.nt) → aH_.d.Ok E (aH_.F (n + 1)) :=
  FD.ok (fs := aH_.fs n) aR_ Tryz.func69 (by kernel_rfl) (by kernel_rfl) (by kernel_rfl) (by kernel_rfl) (fun _ => by kernel_rfl) (by kernel_rfl) (fun x => by kernel_rfl) (.cons (FD.lp n (aH_.r3 n) (by kernel_rfl) fun _ _ => by kernel_rfl) (.nil))
noncomputable def aI_.fs (n : Nat) : aI_.d.Fs := (fun _ κe => aI_.loop3 n (aI_.o0.k (κe 0)) n, ())
theorem aI_.r3 (n : Nat) : aI_.d.Round (aI_.fs n) (cx n aI_.d.nt) (bY_ Tryz.f70) 3 aI_.p3 (fun κe => aI_.step3 n (aI_.o0.k (κe 0))) := fun κ κe x y => by kernel_rfl
theorem aI_.ok (n : Nat) : CxOk E (cx n aI_.d.nt) → KPar (cx n aI_.d.nt) → aI_.d.Ok E (aI_.F (n + 1)) :=
  FD.ok (fs := aI_.fs n) aR_ Tryz.func70 (by kernel_rfl) (by kernel_rfl) (by kernel_rfl) (by kernel_rfl) (fun _ => by kernel_rfl) (by kernel_rfl) (fun x => by kernel_rfl) (.cons (FD.lp n (aI_.r3 n) (by kernel_rfl) fun _ _ => by kernel_rfl) (.nil))
noncomputable def bO_.fs (n : Nat) : bO_.d.Fs := ()
theorem bO_.ok (n : Nat) : CxOk E (cx n bO_.d.nt) → KPar (cx n bO_.d.nt) → bO_.d.Ok E (bO_.F (n + 1)) :=
  FD.ok (fs := bO_.fs n) aR_ Tryz.func24 (by kernel_rfl) (by kernel_rfl) (by kernel_rfl) (by kernel_rfl) (fun _ => by kernel_rfl) (by kernel_rfl) (fun x => by kernel_rfl) (.nil)
noncomputable def aB_.fs (n : Nat) : aB_.d.Fs := (fun _ κe => aB_.loop6 n (aB_.o0.k (κe 0)) n, ())
theorem aB_.r6 (n : Nat) : aB_.d.Round (aB_.fs n) (cx n aB_.d.nt) (bY_ Tryz.f72) 6 aB_.p6 (fun κe => aB_.step6 n (aB_.o0.k (κe 0))) := fun κ κe x y => by kernel_rfl
theorem aB_.ok (n : Nat) : CxOk E (cx n aB_.d.nt) → KPar (cx n aB_.d.nt) → aB_.d.Ok E (aB_.F (n + 1)) :=
  FD.ok (fs := aB_.fs n) aR_ Tryz.func72 (by kernel_rfl) (by kernel_rfl) (by kernel_rfl) (by kernel_rfl) (fun _ => by kernel_rfl) (by kernel_rfl) (fun x => by kernel_rfl) (.cons (FD.lp n (aB_.r6 n) (by kernel_rfl) fun _ _ => by kernel_rfl) (.nil))
noncomputable def an_.fs (n : Nat) : an_.d.Fs := (fun _ κe => an_.loop3 n (an_.o0.k (κe 0)) n, ())
theorem an_.r3 (n : Nat) : an_.d.Round (an_.fs n) (cx n an_.d.nt) (bY_ Tryz.f71) 3 an_.p3 (fun κe => an_.step3 n (an_.o0.k (κe 0))) := fun κ κe x y => by kernel_rfl
theorem an_.ok (n : Nat) : CxOk E (cx n an_.d.nt) → KPar (cx n an_.d.nt) → an_.d.Ok E (an_.F (n + 1)) :=
  FD.ok (fs := an_.fs n) aR_ Tryz.func71 (by kernel_rfl) (by kernel_rfl) (by kernel_rfl) (by kernel_rfl) (fun _ => by kernel_rfl) (by kernel_rfl) (fun x => by kernel_rfl) (.cons (FD.lp n (an_.r3 n) (by kernel_rfl) fun _ _ => by kernel_rfl) (.nil))
noncomputable def aq_.fs (n : Nat) : aq_.d.Fs := (fun _ κe => aq_.loop3 n (aq_ n) (aq_.o0.k (κe 0)) n, ())
theorem aq_.r3 (n : Nat) : aq_.d.Round (aq_.fs n) (cx n aq_.d.nt) (bY_ Tryz.f73) 3 aq_.p3 (fun κe => aq_.step3 n (aq_ n) (aq_.o0.k (κe 0))) := fun κ κe x y => by kernel_rfl
theorem aq_.ok (n : Nat) : CxOk E (cx n aq_.d.nt) → KPar (cx n aq_.d.nt) → aq_.d.Ok E (aq_.F (n + 1)) :=
  FD.ok (fs := aq_.fs n) aR_ Tryz.func73 (by kernel_rfl) (by kernel_rfl) (by kernel_rfl) (by kernel_rfl) (fun _ => by kernel_rfl) (by kernel_rfl) (fun x => by kernel_rfl) (.cons (FD.lp n (aq_.r3 n) (by kernel_rfl) fun _ _ => by kernel_rfl) (.nil))
noncomputable def aT_.fs (n : Nat) : aT_.d.Fs := (fun _ κe => aT_.loop3 n (aT_.o0.k (κe 0)) n, ())
theorem aT_.r3 (n : Nat) : aT_.d.Round (aT_.fs n) (cx n aT_.d.nt) (bY_ Tryz.f25) 3 aT_.p3 (fun κe => aT_.step3 n (aT_.o0.k (κe 0))) := fun κ κe x y => by kernel_rfl
theorem aT_.ok (n : Nat) : CxOk E (cx n aT_.d.nt) → KPar (cx n aT_.d.nt) → aT_.d.Ok E (aT_.F (n + 1)) :=
  FD.ok (fs := aT_.fs n) aR_ Tryz.func25 (by kernel_rfl) (by kernel_rfl) (by kernel_rfl) (by kernel_rfl) (fun _ => by kernel_rfl) (by kernel_rfl) (fun x => by kernel_rfl) (.cons (FD.lp n (aT_.r3 n) (by kernel_rfl) fun _ _ => by kernel_rfl) (.nil))
noncomputable def ao_.fs (n : Nat) : ao_.d.Fs := (fun _ κe => ao_.loop3 n (ao_.o0.k (κe 0)) n, ())
theorem ao_.r3 (n : Nat) : ao_.d.Round (ao_.fs n) (cx n ao_.d.nt) (bY_ Tryz.f74) 3 ao_.p3 (fun κe => ao_.step3 n (ao_.o0.k (κe 0))) := fun κ κe x y => by kernel_rfl
theorem ao_.ok (n : Nat) : CxOk E (cx n ao_.d.nt) → KPar (cx n ao_.d.nt) → ao_.d.Ok E (ao_.F (n + 1)) :=
  FD.ok (fs := ao_.fs n) aR_ Tryz.func74 (by kernel_rfl) (by kernel_rfl) (by kernel_rfl) (by kernel_rfl) (fun _ => by kernel_rfl) (by kernel_rfl) (fun x => by kernel_rfl) (.cons (FD.lp n (ao_.r3 n) (by kernel_rfl) fun _ _ => by kernel_rfl) (.nil))
noncomputable def ar_.fs (n : Nat) : ar_.d.Fs := (fun _ κe => ar_.loop3 n (ar_ n) (ar_.o0.k (κe 0)) n, ())
theorem ar_.r3 (n : Nat) : ar_.d.Round (ar_.fs n) (cx n ar_.d.nt) (bY_ Tryz.f75) 3 ar_.p3 (fun κe => ar_.step3 n (ar_ n) (ar_.o0.k (κe 0))) := fun κ κe x y => by kernel_rfl
theorem ar_.ok (n : Nat) : CxOk E (cx n ar_.d.nt) → KPar (cx n ar_.d.nt) → ar_.d.Ok E (ar_.F (n + 1)) :=
  FD.ok (fs := ar_.fs n) aR_ Tryz.func75 (by kernel_rfl) (by kernel_rfl) (by kernel_rfl) (by kernel_rfl) (fun _ => by kernel_rfl) (by kernel_rfl) (fun x => by kernel_rfl) (.cons (FD.lp n (ar_.r3 n) (by kernel_rfl) fun _ _ => by kernel_rfl) (.nil))
noncomputable def aQ_.fs (n : Nat) : aQ_.d.Fs := (fun _ κe => aQ_.loop3 n (aQ_.o0.k (κe 0)) n, ())
theorem aQ_.r3 (n : Nat) : aQ_.d.Round (aQ_.fs n) (cx n aQ_.d.nt) (bY_ Tryz.f26) 3 aQ_.p3 (fun κe => aQ_.step3 n (aQ_.o0.k (κe 0))) := fun κ κe x y => by kernel_rfl
theorem aQ_.ok (n : Nat) : CxOk E (cx n aQ_.d.nt) → KPar (cx n aQ_.d.nt) → aQ_.d.Ok E (aQ_.F (n + 1)) :=
  FD.ok (fs := aQ_.fs n) aR_ Tryz.func26 (by kernel_rfl) (by kernel_rfl) (by kernel_rfl) (by kernel_rfl) (fun _ => by kernel_rfl) (by kernel_rfl) (fun x => by kernel_rfl) (.cons (FD.lp n (aQ_.r3 n) (by kernel_rfl) fun _ _ => by kernel_rfl) (.nil))
noncomputable def laws_FnExactViewPatch.fs (n : Nat) : laws_FnExactViewPatch.d.Fs := ()
theorem laws_FnExactViewPatch.ok (n : Nat) : CxOk E (cx n laws_FnExactViewPatch.d.nt) → KPar (cx n laws_FnExactViewPatch.d.nt) → laws_FnExactViewPatch.d.Ok E (laws_FnExactViewPatch.F (n + 1)) :=
  FD.ok (fs := laws_FnExactViewPatch.fs n) aR_ Tryz.func4 (by kernel_rfl) (by kernel_rfl) (by kernel_rfl) (by kernel_rfl) (fun _ => by kernel_rfl) (by kernel_rfl) (fun x => by kernel_rfl) (.nil)
end Go.Pi
end
section
set_option linter.unusedVariables false
namespace Go.Pi
def InsM (P : Program) (f : FuncId) (e : TypeId) (K B : Nat) : Prop :=
  ∀ (w : World) (S : Value) (n : Nat) (vals : List Value) (U : Value) (m : Nat) (us : List Value) (i : Nat), w.ownsRow 0 e K S n vals → w.ownsRow 0 e K U m us → (∀ b, cr_ S b ≠ 0 → cr_ U b = 0) → i ≤ n →
    (∀ v ∈ vals, v.oneCell' = true) → (∀ v ∈ us, v.oneCell' = true) → (n + m) * B ≤ 140737488355328 →
    Calls P f (List.toArray [S, .int .i64 i, U]) w fun e' w' => ∃ R, e' = .returned R ∧ w'.ownsRow 0 e K R (n + m) (vals.take (i * K) ++ us ++ vals.drop (i * K)) ∧ fD_ w w' (fun b => cr_ S b ≠ 0) ∧
      ∀ b, cr_ R b ≠ 0 → (w.heap.size ≤ b ∨ cr_ S b ≠ 0) ∧ b < w'.heap.size
def DelM (P : Program) (f : FuncId) (e : TypeId) (K : Nat) : Prop :=
  ∀ (w : World) (S : Value) (n : Nat) (vals : List Value) (i j : Nat), w.ownsRow 0 e K S n vals → i ≤ j → j ≤ n → (∀ v ∈ vals, v.oneCell' = true) →
    Calls P f (List.toArray [S, .int .i64 i, .int .i64 j]) w fun e' w' => ∃ R, e' = .returned R ∧ w'.ownsRow 0 e K R (n - (j - i)) (vals.take (i * K) ++ vals.drop (j * K)) ∧ fD_ w w' (fun b => cr_ S b ≠ 0) ∧
      ∀ b, cr_ R b ≠ 0 → (w.heap.size ≤ b ∨ cr_ S b ≠ 0) ∧ b < w'.heap.size
def M.both : M → M → M
  | .d, .d => .d
  | _, _ => .s
variable [ai_]
open ai_
variable {E : Env} {w w' : World} {F F' : Nat → Prop}
theorem RL.own_inv {m t xs v l vs φ} (hm : m ≠ .v) (h : RL E w F (.sl m t xs :: l) (v :: vs) φ) : ∃ vals φ₁ φ₂, w.ownsRow 0 (E.eid t) t.width v xs.length vals ∧ RL E w F (bp_ m.sub t xs) vals φ₁ ∧ (∀ b, cr_ v b ≠ 0 → F b) ∧ RL E w F l vs φ₂ ∧ ∀ b, φ b = cr_ v b + φ₁ b + φ₂ b := by
  cases h with
  | scal _ _ _ _ _ h => exact h.elim
  | view => exact absurd rfl hm
  | own m t xs v vals φ₁ l vs φ₂ φ h1 h2 h3 h4 h5 h6 => exact ⟨vals, φ₁, φ₂, h2, h3, h4, h5, h6⟩
theorem RL.len_inv {a l Vs φ} (h : RL E w F (a :: l) Vs φ) : ∃ v vs, Vs = v :: vs := by
  obtain ⟨v, vs, _, _, h, _⟩ := RL.uncons h
  exact ⟨v, vs, h⟩
theorem lm_ [ak_] {φ : Nat → Nat} (h1 : ∀ b, φ b ≤ 1) (low : ∀ b, φ b ≠ 0 → F b ∧ b < w.heap.size) {S : Value} (hSF : ∀ b, cr_ S b ≠ 0 → F b) {t : TC} {zs : List (El t)} {vals : List Value} {ψ : Nat → Nat}
    (hz : RL E w F (bp_ .d t zs) vals ψ) (eφ : ∀ b, cr_ S b + ψ b ≤ φ b) {R : Value} (hR : w'.ownsRow 0 (E.eid t) t.width R zs.length vals) (hg : fD_ w w' (fun b => cr_ S b ≠ 0))
    (hRb : ∀ b, cr_ R b ≠ 0 → (w.heap.size ≤ b ∨ cr_ S b ≠ 0) ∧ b < w'.heap.size) :
    ∃ φ', RL E w' (fun b => (F b ∧ φ b = 0) ∨ φ' b ≠ 0) [.sl .d t zs] [R] φ' ∧ (∀ b, φ' b ≤ 1) ∧ (∀ b, φ' b ≠ 0 → φ b ≠ 0 ∨ w.heap.size ≤ b) ∧
      w'.os = w.os ∧ w'.tape = w.tape ∧ w'.output = w.output ∧ w.heap.size ≤ w'.heap.size ∧ ∀ b, b < w.heap.size → φ b = 0 → w'.heap[b]? = w.heap[b]? := by
  have key : ∀ b, cr_ R b ≠ 0 → cr_ S b ≠ 0 ∨ w.heap.size ≤ b := fun b hb => (hRb b hb).1.symm
  have elt : ∀ b, ψ b ≠ 0 → cr_ R b = 0 ∧ cr_ S b = 0 := fun b hb => by
    have q1 := eφ b; have q2 := h1 b
    have s0 : cr_ S b = 0 := by omega
    refine ⟨Classical.byContradiction fun hr => ?_, s0⟩
    rcases key b hr with hs | hs
    · exact hs s0
    · have := (low b (by omega)).2; omega
  refine ⟨fun b => cr_ R b + ψ b, ?_, fun b => ?_, fun b hb => ?_, hg.os, hg.tape, hg.output, hg.size, fun b hb h0 => hg.heap b hb fun hc => hc (by have := eφ b; omega)⟩
  · refine .own .d t zs R vals ψ [] _ (fun _ => 0) _ (by decide) hR ?_ (fun b hb => .inr (by show cr_ R b + _ ≠ 0; omega)) (.nil _ fun _ => rfl) (fun b => rfl)
    refine hz.frame hg.size (fun b hb => ⟨hg.heap b (hz.low b hb).2 fun hc => hc (elt b hb).2, .inr (by show cr_ R b + ψ b ≠ 0; omega)⟩) fun b hb hn => ⟨hg.heap b hb fun hc => hn (hSF b hc), fun hc => ?_⟩
    rcases hc with ⟨hf, -⟩ | hc
    · exact hn hf
    · have hc : cr_ R b + ψ b ≠ 0 := hc
      by_cases hr0 : cr_ R b = 0
      · exact hn (hz.low b (by omega)).1
      · rcases key b hr0 with hs | hs
        · exact hn (hSF b hs)
        · omega
  · show cr_ R b + ψ b ≤ 1
    have q1 := eφ b; have q2 := h1 b; have := iF_ R b
    by_cases h0 : ψ b = 0
    · omega
    · have := elt b h0; omega
  · have hb : cr_ R b + ψ b ≠ 0 := hb
    by_cases h0 : ψ b = 0
    · rcases key b (by omega) with hs | hs
      · exact .inl (by have := eφ b; omega)
      · exact .inr hs
    · exact .inl (by have := eφ b; omega)
theorem hV_ [ak_] {φ : Nat → Nat} (h1 : ∀ b, φ b ≤ 1) (low : ∀ b, φ b ≠ 0 → F b ∧ b < w.heap.size) {S : Value} (hSF : ∀ b, cr_ S b ≠ 0 → F b) {t : TC} {zs : List (El t)} {L : List AV} {vals : List Value} {ψ : Nat → Nat}
    (hz : RL E w F L vals ψ) (hL : L.map AV.asView = bp_ .v t zs) (eφ : ∀ b, cr_ S b + ψ b ≤ φ b) {R : Value} (hR : w'.ownsRow 0 (E.eid t) t.width R zs.length vals) (hg : fD_ w w' (fun b => cr_ S b ≠ 0))
    (hRb : ∀ b, cr_ R b ≠ 0 → (w.heap.size ≤ b ∨ cr_ S b ≠ 0) ∧ b < w'.heap.size) :
    ∃ φ', RL E w' (fun b => (F b ∧ φ b = 0) ∨ φ' b ≠ 0) [.sl .s t zs] [R] φ' ∧ (∀ b, φ' b ≤ 1) ∧ (∀ b, φ' b ≠ 0 → φ b ≠ 0 ∨ w.heap.size ≤ b) ∧
      w'.os = w.os ∧ w'.tape = w.tape ∧ w'.output = w.output ∧ w.heap.size ≤ w'.heap.size ∧ ∀ b, b < w.heap.size → φ b = 0 → w'.heap[b]? = w.heap[b]? := by
  have key : ∀ b, cr_ R b ≠ 0 → cr_ S b ≠ 0 ∨ w.heap.size ≤ b := fun b hb => (hRb b hb).1.symm
  have hv := hz.seen (F' := fun b => F b ∧ ψ b = 0) (fun b hb hc => hb hc.2) (fun b _ hn hc => hn hc.1)
  rw [hL] at hv
  refine ⟨cr_ R, ?_, iF_ R, fun b hb => ?_, hg.os, hg.tape, hg.output, hg.size, fun b hb h0 => hg.heap b hb fun hc => hc (by have := eφ b; omega)⟩
  · refine .own .s t zs R vals (fun _ => 0) [] _ (fun _ => 0) _ (by decide) hR ?_ (fun b hb => .inr hb) (.nil _ fun _ => rfl) (fun b => rfl)
    refine hv.frame hg.size (fun b hb => absurd rfl hb) fun b hb hn => ⟨hg.heap b hb fun hc => hn ⟨hSF b hc, by have := eφ b; have := h1 b; omega⟩, fun hc => ?_⟩
    rcases hc with ⟨hf, h0⟩ | hc
    · exact hn ⟨hf, by have := eφ b; omega⟩
    · rcases key b hc with hs | hs
      · exact hn ⟨hSF b hs, by have := eφ b; have := h1 b; omega⟩
      · omega
  · rcases key b hb with hs | hs
    · exact .inl (by have := eφ b; omega)
    · exact .inr hs
theorem RL.int_inv {k n l v vs φ} (h : RL E w F (.i k n :: l) (v :: vs) φ) : v = .int k n ∧ RL E w F l vs φ := by
  cases h with
  | scal _ _ _ _ _ h1 h2 => exact ⟨h1, h2⟩
theorem codedD [ak_] {m : M} {t : TC} (zs : List (El t)) : ∀ a ∈ bp_ m t zs, ∃ m, a.coded m := fun a ha => ⟨m, c4_ a ha⟩
theorem mf_ [ak_] {f : FuncId} {t : TC} {m1 m2 : M} (hm1 : m1 ≠ .v) (hm2 : m2 ≠ .v) (h : InsM E.P f (E.eid t) t.width t.bytes) {xs ys : List (El t)} {i : Nat} (hi : i ≤ xs.length) (hb : (xs.length + ys.length) * t.bytes ≤ 140737488355328) :
    dy_ E f [.sl m1 t xs, .i .i64 i, .sl m2 t ys] (.sl (M.both m1 m2) t (xs.take i ++ ys ++ xs.drop i)) [] [.o, .v, .o] := by
  intro w F Vs φ hrl h1 hlow _
  have low : ∀ b, φ b ≠ 0 → F b ∧ b < w.heap.size := hrl.low
  obtain ⟨S, _, rfl⟩ := hrl.len_inv
  replace hrl := hrl.own_inv hm1
  obtain ⟨vals, φx, φ2, hS, hx, hSF, hrl, e1⟩ := hrl
  obtain ⟨I, _, rfl⟩ := hrl.len_inv
  replace hrl := hrl.int_inv
  obtain ⟨rfl, hrl⟩ := hrl
  obtain ⟨U, _, rfl⟩ := hrl.len_inv
  replace hrl := hrl.own_inv hm2
  obtain ⟨us, φy, φ4, hU, hy, hUF, hrl, e3⟩ := hrl
  obtain ⟨rfl, e4⟩ := RL.nil_inv hrl
  have eφ : ∀ b, φ b = cr_ S b + φx b + (cr_ U b + φy b) := fun b => by rw [e1, e3, e4]; omega
  refine (h w S xs.length vals U ys.length us i hS hU (fun b hb => by have := h1 b; have := eφ b; omega) hi (hx.one (codedD _)) (hy.one (codedD _)) hb).mono ?_
  rintro e' w' ⟨R, rfl, hR, hg, hRb⟩
  have hx' : RL E w F (bp_ m1.sub t (xs.take i) ++ bp_ m1.sub t (xs.drop i)) vals φx := by rw [← cn_, List.take_append_drop]; exact hx
  obtain ⟨va, vb, φa, φb, rfl, ha, hb', e6⟩ := hx'.split
  have hla : va.length = i * t.width := by rw [← ha.length, cT_, List.length_take, Nat.min_eq_left hi]
  rw [← hla, List.take_left, List.drop_left] at hR
  have hz : RL E w F (bp_ m1.sub t (xs.take i) ++ bp_ m2.sub t ys ++ bp_ m1.sub t (xs.drop i)) (va ++ us ++ vb) (fun b => φa b + φy b + φb b) :=
    (ha.append hy (ψ := fun b => φa b + φy b) (fun b => rfl)).append hb' (fun b => rfl)
  have hl : (xs.take i ++ ys ++ xs.drop i).length = xs.length + ys.length := by simp; omega
  have he : ∀ b, cr_ S b + (φa b + φy b + φb b) ≤ φ b := fun b => by have := eφ b; have := e6 b; omega
  by_cases hd : m1 = .d ∧ m2 = .d
  · obtain ⟨rfl, rfl⟩ := hd
    have hz' : RL E w F (bp_ .d t (xs.take i ++ ys ++ xs.drop i)) (va ++ us ++ vb) (fun b => φa b + φy b + φb b) := by
      rw [cn_, cn_]; exact hz
    obtain ⟨φ', k1, k2⟩ := lm_ (S := S) (R := R) h1 low hSF hz' he (by rw [hl]; exact hR) hg hRb
    exact ⟨R, φ', rfl, k1, k2⟩
  · have hb2 : M.both m1 m2 = .s := by cases m1 <;> cases m2 <;> first | rfl | exact absurd rfl hm1 | exact absurd rfl hm2 | exact absurd ⟨rfl, rfl⟩ hd
    rw [hb2]
    obtain ⟨φ', k1, k2⟩ := hV_ (S := S) (R := R) (t := t) (zs := xs.take i ++ ys ++ xs.drop i) h1 low hSF hz (by rw [List.map_append, List.map_append, dD_, dD_, dD_, cn_, cn_]) he (by rw [hl]; exact hR) hg hRb
    exact ⟨R, φ', rfl, k1, k2⟩
theorem mw_ [ak_] {f : FuncId} {t : TC} {m : M} (hm0 : m ≠ .v) (h : DelM E.P f (E.eid t) t.width) {xs : List (El t)} {i j : Nat} (hij : i ≤ j) (hj : j ≤ xs.length) :
    dy_ E f [.sl m t xs, .i .i64 i, .i .i64 j] (.sl (M.both m m) t (xs.take i ++ xs.drop j)) [] [.o, .v, .v] := by
  intro w F Vs φ hrl h1 hlow _
  have low : ∀ b, φ b ≠ 0 → F b ∧ b < w.heap.size := hrl.low
  obtain ⟨S, _, rfl⟩ := hrl.len_inv
  replace hrl := hrl.own_inv hm0
  obtain ⟨vals, φx, φ2, hS, hx, hSF, hrl, e1⟩ := hrl
  obtain ⟨I, _, rfl⟩ := hrl.len_inv
  replace hrl := hrl.int_inv
  obtain ⟨rfl, hrl⟩ := hrl
  obtain ⟨J, _, rfl⟩ := hrl.len_inv
  replace hrl := hrl.int_inv
  obtain ⟨rfl, hrl⟩ := hrl
  obtain ⟨rfl, e4⟩ := RL.nil_inv hrl
  have eφ : ∀ b, φ b = cr_ S b + φx b := fun b => by rw [e1, e4]; omega
  refine (h w S xs.length vals i j hS hij hj (hx.one (codedD _))).mono ?_
  rintro e' w' ⟨R, rfl, hR, hg, hRb⟩
  have hx' : RL E w F (bp_ m.sub t (xs.take i) ++ (bp_ m.sub t ((xs.drop i).take (j - i)) ++ bp_ m.sub t (xs.drop j))) vals φx := by
    rw [← cn_, ← cn_]
    have : xs.drop j = (xs.drop i).drop (j - i) := by rw [List.drop_drop]; congr 1; omega
    rw [this, List.take_append_drop, List.take_append_drop]; exact hx
  obtain ⟨va, vc, φa, φc, rfl, ha, hc, e6⟩ := hx'.split
  obtain ⟨vm, vb, φm, φb, rfl, hm, hb', e7⟩ := hc.split
  have hla : va.length = i * t.width := by rw [← ha.length, cT_, List.length_take, Nat.min_eq_left (by omega)]
  have hlm : vm.length = (j - i) * t.width := by rw [← hm.length, cT_, List.length_take, List.length_drop, Nat.min_eq_left (by omega)]
  have hlj : (va ++ vm).length = j * t.width := by rw [List.length_append, hla, hlm, ← Nat.add_mul]; congr 1; omega
  rw [← hla, List.take_left, ← hlj, ← List.append_assoc, List.drop_left] at hR
  have hz : RL E w F (bp_ m.sub t (xs.take i) ++ bp_ m.sub t (xs.drop j)) (va ++ vb) (fun b => φa b + φb b) := ha.append hb' (fun b => rfl)
  have hl : (xs.take i ++ xs.drop j).length = xs.length - (j - i) := by simp; omega
  have he : ∀ b, cr_ S b + (φa b + φb b) ≤ φ b := fun b => by have := eφ b; have := e6 b; have := e7 b; omega
  cases m with
  | v => exact absurd rfl hm0
  | d =>
    have hz' : RL E w F (bp_ .d t (xs.take i ++ xs.drop j)) (va ++ vb) (fun b => φa b + φb b) := by
      rw [cn_]; exact hz
    obtain ⟨φ', k1, k2⟩ := lm_ (S := S) (R := R) h1 low hSF hz' he (by rw [hl]; exact hR) hg hRb
    exact ⟨R, φ', rfl, k1, k2⟩
  | s =>
    obtain ⟨φ', k1, k2⟩ := hV_ (S := S) (R := R) (t := t) (zs := xs.take i ++ xs.drop j) h1 low hSF hz (by rw [List.map_append, dD_, dD_, cn_]) he (by rw [hl]; exact hR) hg hRb
    exact ⟨R, φ', rfl, k1, k2⟩
theorem nDel_ok [ak_] {f : FuncId} {t : TC} {m : M} (hm0 : m ≠ .v) (h : DelM E.P f (E.eid t) t.width) {xs r : List (El t)} {i j : Int} (hr : iK_ xs i j = some r) :
    dy_ E f [.sl m t xs, .i .i64 i, .i .i64 j] (.sl (M.both m m) t r) [] [.o, .v, .v] := by
  unfold iK_ at hr
  by_cases hc : 0 ≤ i ∧ i ≤ j ∧ j ≤ (xs.length : Int)
  · obtain ⟨h1, h2, h3⟩ := hc
    obtain ⟨i, rfl⟩ := Int.eq_ofNat_of_zero_le h1
    obtain ⟨j, rfl⟩ := Int.eq_ofNat_of_zero_le (Int.le_trans h1 h2)
    simp only [h1, h2, h3, decide_true, Bool.and_true, cond_true, Option.some.injEq] at hr
    subst hr
    exact mw_ hm0 h (by omega) (by omega)
  · have : (decide (0 ≤ i) && (decide (i ≤ j) && decide (j ≤ (xs.length : Int)))) = false := by
      rw [Bool.eq_false_iff]; intro h; simp only [Bool.and_eq_true, decide_eq_true_eq] at h; exact hc h
    rw [this] at hr; cases hr
theorem kz_ [ak_] {f : FuncId} {t : TC} {m1 m2 : M} (hm1 : m1 ≠ .v) (hm2 : m2 ≠ .v) (h : InsM E.P f (E.eid t) t.width t.bytes) {xs ys r : List (El t)} {i : Int} (hr : eW_ t.bytes xs i ys = some r) :
    dy_ E f [.sl m1 t xs, .i .i64 i, .sl m2 t ys] (.sl (M.both m1 m2) t r) [] [.o, .v, .o] := by
  unfold eW_ at hr
  by_cases hc : 0 ≤ i ∧ i ≤ (xs.length : Int)
  · obtain ⟨h1, h2⟩ := hc
    obtain ⟨i, rfl⟩ := Int.eq_ofNat_of_zero_le h1
    by_cases hb : (xs.length + ys.length) * t.bytes ≤ 140737488355328
    · simp only [h1, h2, hb, decide_true, Bool.and_true, cond_true, Option.some.injEq] at hr
      subst hr
      exact mf_ hm1 hm2 h (by omega) hb
    · simp [h1, h2, hb] at hr
  · have : (decide (0 ≤ i) && decide (i ≤ (xs.length : Int))) = false := by
      rw [Bool.eq_false_iff]; intro h; simp only [Bool.and_eq_true, decide_eq_true_eq] at h; exact hc h
    rw [this] at hr; cases hr
end Go.Pi
end
section
set_option linter.unusedVariables false
set_option linter.unusedSimpArgs false
namespace Go.Proofs
open Go.Shelf Go.RowKit Go.Lib Go.Pi
section
variable {P : Program}
theorem gC_ {ops : Array Oper} {o : Oper} {a : Act} {w : World} {K : Act → World → Prop} {Q : Exit → Act → World → Prop} {E : Prop}
    (hg : o.guard = none) (d x : Operand) (dT sT : TypeId) (hop : o.op = Op.call { callee := Callee.builtin Builtin.append, args := #[d, x], argTypes := #[dT, sT] })
    (v u : Value) (hd : a.eval d = v) (hx : a.eval x = u) {v' : Value} {w' : World} (hr : (Builtin.append_ #[dT, sT] o.type #[v, u]).run P w = .ok v' w') (hK : K (a.put o.dst v') w') :
    if Region.wanted o (yielded ops a.tmps) = true then Oper.wp P o a w K Q else E := by
  have hw : Region.wanted o (yielded ops a.tmps) = true := by simp [Region.wanted, hg]
  rw [if_pos hw]
  unfold Oper.wp
  simp [execOp, hop, resolve, invoke, builtin, hd, hx, hr, Result.andThen]
  exact hK
theorem lX_ (w : World) {ops : Array Oper} {fk_ : List Oper} {o : Oper} {a : Act} {Q : Exit → Act → World → Prop} (hgd : o.guard = none) (d : Operand) (t : TypeId)
    (ho : o.op = .call { callee := .builtin .clear, args := #[d], argTypes := #[t] }) (v : Value) (hd : a.eval d = v) {v' : Value} {w' : World}
    (hr : (Builtin.clear_ #[t] o.type #[v]).run P w = .ok v' w') (h : wpList P ops Q fk_ (a.put o.dst v') w') : wpList P ops Q (o :: fk_) a w :=
  wpList_plain hgd fun _ hK => by
    unfold Oper.wp execOp
    simp only [ho, resolve, invoke, builtin, Sem.run_bind, Sem.run_pure, Result.andThen_ok, List.map_toArray, List.map_cons, List.map_nil, hd, hr]
    exact hK _ _ h
theorem ky_ (w : World) (t e ty : TypeId) (z : Value) (ht : P.underlying t = some (.slice e)) (hv : ∀ w, (zeroValue e).run P w = .ok z w) (g o n c : Nat) (hn : 0 < n) (cur : Array Value) (T : TypeId) (hg : w.heap[g]? = some (.cells cur T (0, 0)))
    (hfit : o + (Builtin.zeroCells z.cells n).toList.length ≤ cur.size) (h1 : ∀ v ∈ (Builtin.zeroCells z.cells n).toList, v.oneCell' = true) :
    (Builtin.clear_ #[t] ty #[.slice (some ⟨g, o, none⟩) n c]).run P w = .ok (.tuple #[]) (w.setRow g (cur.toList.take o ++ (Builtin.zeroCells z.cells n).toList ++ cur.toList.drop (o + (Builtin.zeroCells z.cells n).toList.length)).toArray) := by
  have hst := run_storeCells_at P g o T (Builtin.zeroCells z.cells n).toList 0 cur w hg (by simpa using hfit) h1
  obtain ⟨m, rfl⟩ : ∃ m, n = m + 1 := ⟨n - 1, by omega⟩
  simp only [Builtin.clear_, run_underlying ht, Sem.run_bind, Result.andThen_ok, hv]
  simp only [List.getElem?_toArray, List.getElem?_cons_zero, Sem.run_bind, run_underlying ht, Result.andThen_ok, hv, hst, Nat.add_zero, Sem.run_pure]
end
theorem dK_ (w : World) {P : Program} {ops : Array Oper} {fk_ : List Oper} {o : Oper} {a : Act} {Q : Exit → Act → World → Prop} (hgd : o.guard = none) (d s : Operand) (t t' : TypeId)
    (ho : o.op = .call { callee := .builtin .copy, args := #[d, s], argTypes := #[t, t'] }) (v u : Value) (hd : a.eval d = v) (hs : a.eval s = u) {v' : Value} {w' : World}
    (hr : (Builtin.copy_ #[t, t'] o.type #[v, u]).run P w = .ok v' w') (h : wpList P ops Q fk_ (a.put o.dst v') w') : wpList P ops Q (o :: fk_) a w :=
  wpList_plain hgd fun _ hK => by
    unfold Oper.wp execOp
    simp only [ho, resolve, invoke, builtin, Sem.run_bind, Sem.run_pure, Result.andThen_ok, List.map_toArray, List.map_cons, List.map_nil, hd, hs, hr]
    exact hK _ _ h
theorem da_ {P : Program} {ops : Array Oper} {o : Oper} {a : Act} {w : World} {K : Act → World → Prop} {Q : Exit → Act → World → Prop} {E : Prop}
    (hg : o.guard = none) (d x : Operand) (dT sT : TypeId) (hop : o.op = Op.call { callee := Callee.builtin Builtin.copy, args := #[d, x], argTypes := #[dT, sT] })
    (v u : Value) (hd : a.eval d = v) (hx : a.eval x = u) {v' : Value} {w' : World} (hr : (Builtin.copy_ #[dT, sT] o.type #[v, u]).run P w = .ok v' w') (hK : K (a.put o.dst v') w') :
    if Region.wanted o (yielded ops a.tmps) = true then Oper.wp P o a w K Q else E := by
  have hw : Region.wanted o (yielded ops a.tmps) = true := by simp [Region.wanted, hg]
  rw [if_pos hw]
  unfold Oper.wp
  simp [execOp, hop, resolve, invoke, builtin, hd, hx, hr, Result.andThen]
  exact hK
theorem cN_ {P : Program} (w : World) (dT sT ty elem : TypeId) (k : Nat) (g o dLen dCap : Nat) (a : Addr) (sLen sCap : Nat) (cur : Array Value) (t : TypeId) (cs : List Value)
    (hu : P.underlying dT = some (.slice elem)) (hs : (P.info? elem).map (·.size) = some k)
    (hg : w.heap[g]? = some (.cells cur t (0, 0))) (hn : cs.length = Nat.min sLen dLen * k)
    (hsrc : ∀ j v, cs[j]? = some v → w.cell? (a.add j) = some v) (hfit : o + cs.length ≤ cur.size) (h1 : ∀ v ∈ cs, v.oneCell' = true) :
    (Builtin.copy_ #[dT, sT] ty #[.slice (some ⟨g, o, none⟩) dLen dCap, .slice (some a) sLen sCap]).run P w =
      .ok (goInt (Nat.min sLen dLen)) (w.setRow g (cur.toList.take o ++ cs ++ cur.toList.drop (o + cs.length)).toArray) := by
  have hl := run_loadCells_list (P := P) w a cs hsrc
  have hst := run_storeCells_at P g o t cs 0 cur w hg (by simpa using hfit) h1
  cases hq : P.info? elem with
  | none => simp [hq] at hs
  | some i =>
    have hi : i.size = k := by simpa [hq] using hs
    simp [Builtin.copy_, run_underlying hu, Builtin.lenOf, Builtin.firstCells, sizeOf, typeInfo, hq, hi, ← hn, hl, hst]
theorem zc_one (cs : Array Value) (h : cs.toList.all Value.oneCell' = true) (n : Nat) : ∀ v ∈ (Builtin.zeroCells cs n).toList, v.oneCell' = true := by
  intro v hv
  simp only [Builtin.zeroCells, Array.toList_map, List.mem_map, Array.toList_range, List.mem_range] at hv
  obtain ⟨x, hx, rfl⟩ := hv
  have h0 : 0 < cs.size := Nat.pos_of_mul_pos_left (by omega : 0 < n * cs.size)
  have : x % cs.size < cs.size := Nat.mod_lt _ h0
  rw [getElem!_pos cs _ this]
  exact List.all_eq_true.1 h _ (by simp)
theorem iE_ {w : World} {e : TypeId} {K : Nat} {S : Value} {n : Nat} {vals : List Value} (h : w.ownsRow 0 e K S n vals) : ∀ b, cr_ S b ≠ 0 → b < w.heap.size := by
  intro b hb
  rcases h.2 with ⟨rfl, _⟩ | ⟨g, cap, cur, rfl, _, hg, _⟩
  · simp [cr_] at hb
  · have : g = b := by simp only [cr_] at hb; exact Classical.byContradiction fun h => hb (if_neg h)
    subst this
    exact (Array.getElem?_eq_some_iff.1 hg).1
theorem f5_ (w : World) (g : Nat) (A : Array Value) : w.heap.size ≤ (w.drew.setRow g A).heap.size := by
  have : (w.drew.setRow g A).heap.size = w.drew.heap.size := by simp [World.setRow]
  rw [this]; exact Nat.le_refl _
theorem dg_ {w : World} {e : TypeId} {v : Value} {n : Nat} {xs : List Value} : w.ownsRow 0 e 1 v n xs ↔
    (xs.length = n ∧ (v = .slice none 0 0 ∧ n = 0 ∨ ∃ g cap cur, v = .slice (some ⟨g, 0, none⟩) n cap ∧ 0 ≤ g ∧ w.heap[g]? = some (.cells cur e (0, 0)) ∧ n ≤ cap ∧ cap ≤ maxLen ∧ cur.size = cap ∧ cur.toList.take n = xs)) := by
  unfold World.ownsRow
  simp only [Nat.mul_one]
end Go.Proofs
end
section
set_option linter.unusedVariables false
set_option linter.unusedSimpArgs false
namespace Go.Proofs
open Go.Shelf Go.RowKit Go.Lib Go.Pi
set_option maxRecDepth 1000000 in
theorem Delete138 (w : World) (g n c i j : Nat) (cur : Array Value) (hg : w.heap[g]? = some (.cells cur 172 (0, 0))) (hs : cur.size = c * 6) (hn : n ≤ c) (hc : c ≤ 9223372036854775807) (hij : i < j) (hj : j ≤ n) 
    (h1 : ∀ v ∈ cur.toList.take (n * 6), v.oneCell' = true) :
    Calls Tryz.prog 138 #[.slice (some ⟨g, 0, none⟩) n c, .int .i64 i, .int .i64 j] w fun e w' => e = .returned (.slice (some ⟨g, 0, none⟩) (n - (j - i)) c) ∧
      ∃ A, w' = w.drew.setRow g A ∧ A.size = cur.size ∧ A.toList.take ((n - (j - i)) * 6) = (cur.toList.take (n * 6)).take (i * 6) ++ (cur.toList.take (n * 6)).drop (j * 6) := by
  have hic : i ≤ c := by omega
  have hjc : j ≤ c := by omega
  obtain ⟨news, hnews⟩ : ∃ news, news = (cur.toList.take (n * 6)).drop (j * 6) := ⟨_, rfl⟩
  have hlen : news.length = (n - j) * 6 := by rw [hnews, List.length_drop, List.length_take, Array.length_toList, hs]; omega
  have hgd : w.drew.heap[g]? = some (.cells cur 172 (0, 0)) := hg
  obtain ⟨A, hA, hsrc⟩ : ∃ A : Addr, (if c = j then some (⟨g, 0, none⟩ : Addr) else some ⟨g, j * 6, none⟩) = some A ∧ Hid (∀ t u, news[t]? = some u → w.drew.cell? (A.add t) = some u) := by
    by_cases h : c = j
    · refine ⟨⟨g, 0, none⟩, by simp [h], fun t u hu => ?_⟩
      have h0 : news.length = 0 := by rw [hlen]; omega
      rw [List.length_eq_zero_iff.1 h0] at hu
      simp at hu
    · refine ⟨⟨g, j * 6, none⟩, by simp [h], fun t u hu => ?_⟩
      have ht := (List.getElem?_eq_some_iff.1 hu).1
      rw [hlen] at ht
      rw [hnews, List.getElem?_drop, List.getElem?_take_of_lt (by omega), Array.getElem?_toList] at hu
      rw [Addr.add_lit]
      simp only [World.cell?, hgd]
      exact hu
  obtain ⟨i0, hi0⟩ := Option.isSome_iff_exists.1 (show (Tryz.prog.info? 172).isSome = true by kernel_rfl)
  have hz0 : i0.size = 6 := by
    have : (Tryz.prog.info? 172).map (·.size) = some 6 := by kernel_rfl
    rw [hi0] at this
    simpa using this
  have hr1 : ∀ ty, (Builtin.append_ #[167, 167] ty #[.slice (some ⟨g, 0, none⟩) i c, .slice (some A) (n - j) (c - j)]).run Tryz.prog w.drew = .ok (.slice (some ⟨g, 0, none⟩) (i + (n - j)) c) (w.drew.setRow g (cur.toList.take (i * 6) ++ news ++ cur.toList.drop (i * 6 + news.length)).toArray) := fun ty => by
    have := run_append_room (P := Tryz.prog) w.drew 167 ty 172 i0 Tryz.underlying167 hi0 g i c cur hgd A (n - j) (c - j) news (by rw [hlen, hz0]) hsrc.out (fun u hu => h1 u (by rw [hnews] at hu; exact List.mem_of_mem_drop hu)) (by omega) (by rw [hz0, hlen, hs]; omega)
    rw [hz0] at this
    exact this
  obtain ⟨B, hB⟩ : ∃ B, B = (cur.toList.take (i * 6) ++ news ++ cur.toList.drop (i * 6 + news.length)).toArray := ⟨_, rfl⟩
  have hBs : B.size = cur.size := by rw [hB]; simp [hlen, hs]; omega
  have hBt : B.toList.take ((i + (n - j)) * 6) = (cur.toList.take (n * 6)).take (i * 6) ++ news := by
    rw [hB]
    simp only [List.toList_toArray]
    rw [List.take_append_of_le_length (by simp [hlen, hs]; omega), List.take_of_length_le (by simp [hlen, hs]; omega), List.take_take, Nat.min_eq_left (by omega)]
  have hgB : (w.drew.setRow g B).heap[g]? = some (.cells B 172 (0, 0)) := setRow_heap _ _ _ _ _ _ hgd
  obtain ⟨Z, hZ⟩ : ∃ Z, Z = (Builtin.zeroCells (Value.agg #[.int .i64 0, .int .i64 0, .int .i64 0, .string ByteArray.empty, .slice none 0 0, .slice none 0 0]).cells (n - (i + (n - j)))).toList := ⟨_, rfl⟩
  have hZl : Z.length = (n - (i + (n - j))) * 6 := by rw [hZ]; simp [Builtin.zeroCells, Value.cells]
  have hcl : ∀ ty, (Builtin.clear_ #[167] ty #[.slice (some ⟨g, (i + (n - j)) * 6, none⟩) (n - (i + (n - j))) (c - (i + (n - j)))]).run Tryz.prog (w.drew.setRow g B) = .ok (.tuple #[]) ((w.drew.setRow g B).setRow g (B.toList.take ((i + (n - j)) * 6) ++ Z ++ B.toList.drop ((i + (n - j)) * 6 + Z.length)).toArray) := fun ty => by
    rw [hZ]
    refine ky_ _ 167 172 ty _ Tryz.underlying167 Tryz.zeroValue172 g _ _ _ (by omega) B 172 hgB (by
      have e := hZl
      rw [hZ] at e
      exact Nat.le_trans (Nat.le_of_eq (congrArg (fun q => (i + (n - j)) * 6 + q) e)) (by first | (rw [hBs, hs, ← Nat.add_mul]; exact Nat.mul_le_mul_right _ (by omega)) | (rw [hBs, hs]; omega))) (fun v hv => ?_)
    exact zc_one _ (by kernel_rfl) _ v hv
  rw [← hB] at hr1
  obtain ⟨Z', hZ'⟩ : ∃ Z', Z' = (B.toList.take ((i + (n - j)) * 6) ++ Z ++ B.toList.drop ((i + (n - j)) * 6 + Z.length)).toArray := ⟨_, rfl⟩
  have kZ : Hid (Z'.size = cur.size ∧ Z'.toList.take ((i + (n - j)) * 6) = (cur.toList.take (n * 6)).take (i * 6) ++ (cur.toList.take (n * 6)).drop (j * 6)) := by
    refine ⟨by rw [hZ']; simp [hZl, hBs, hs]; omega, ?_⟩
    rw [hZ', ← hnews, ← hBt]
    simp only [List.toList_toArray, List.append_assoc]
    rw [List.take_append_of_le_length (by simp [hBs, hs]; omega), List.take_take, Nat.min_self]
  rw [← hZ'] at hcl
  clear hsrc h1 hB hBs hBt hgB hZ hZl hZ' hnews hlen hgd hg
  have hw1 : ¬ ((i : Int) = (j : Int)) := by omega
  have mixed : Tryz.prog.follows .mixedOrders = true := by kernel_rfl
  go_enter Tryz.func138, Tryz.ntmps138
  go_wp2_with fail
  go_region_law_o (refine gC_ rfl (.tmp 22) (.tmp 25) 167 167 rfl _ _ (by simp [Act.eval, Act.put]) (by simp [Act.eval, Act.put, hA]) (hr1 _) ?_)
  go_wp2_with fail
  go_ret
  exact ⟨by rw [show n - (j - i) = i + (n - j) by omega]; rfl, Z', by rw [setRow_setRow], kZ.out.1, by rw [show n - (j - i) = i + (n - j) by omega]; exact kZ.out.2⟩
set_option maxRecDepth 1000000 in
theorem mL_ (w : World) (S : Value) (n i : Nat) (vals : List Value) (hS : w.ownsRow 0 172 6 S n vals) (hi : i ≤ n) :
    Calls Tryz.prog 138 #[S, .int .i64 i, .int .i64 i] w fun e w' => e = .returned S ∧ w' = w := by
  rcases hS.2 with ⟨rfl, rfl⟩ | ⟨g, c, cur, rfl, -, hg, hnc, hcm, hcs, htake⟩
  · have hi0 : i = 0 := by omega
    subst hi0
    clear hS
    go_enter Tryz.func138, Tryz.ntmps138
    go_wp2_with fail
    all_goals (go_ret; exact ⟨rfl, rfl⟩)
  · unfold maxLen at hcm
    have hic : i ≤ c := by omega
    clear hS hg hcs htake
    go_enter Tryz.func138, Tryz.ntmps138
    go_wp2_with fail
    all_goals (go_ret; exact ⟨rfl, rfl⟩)
theorem delM138 : DelM Tryz.prog 138 172 6 := by
  intro w S n vals i j hS hij hj h1
  by_cases e : i = j
  · subst e
    refine (mL_ w S n i vals hS hj).mono ?_
    rintro e w' ⟨rfl, rfl⟩
    refine ⟨S, rfl, by rw [Nat.sub_self, Nat.sub_zero, List.take_append_drop]; exact hS, ⟨rfl, rfl, rfl, Nat.le_refl _, fun _ _ _ => rfl⟩, fun b hb => ⟨.inr hb, iE_ hS b hb⟩⟩
  · rcases hS.2 with ⟨rfl, rfl⟩ | ⟨g, c, cur, rfl, -, hg, hnc, hcm, hcs, htake⟩
    · omega
    · refine (Delete138 w g n c i j cur hg hcs hnc (by unfold maxLen at hcm; omega) (by omega) hj (by rw [htake]; exact h1)).mono ?_
      rintro e w' ⟨rfl, A, rfl, hA, ht⟩
      rw [htake] at ht
      have hgd : w.drew.heap[g]? = some (.cells cur 172 (0, 0)) := hg
      have hA2 := setRow_heap w.drew g cur A _ _ hgd
      refine ⟨_, rfl, ⟨by rw [← ht]; simp [hA, hcs]; omega, .inr ⟨g, c, A, rfl, Nat.zero_le _, hA2, by omega, hcm, by rw [hA, hcs], ht⟩⟩, ⟨rfl, rfl, rfl, f5_ w g A, fun b _ hn => ?_⟩, fun b hb => ⟨.inr hb, ?_⟩⟩
      · rw [setRow_other _ _ _ _ (fun e => hn (by subst e; simp [cr_]))]; rfl
      · have : g = b := by simp only [cr_] at hb; exact Classical.byContradiction fun h => hb (if_neg h)
        subst this
        exact (Array.getElem?_eq_some_iff.1 hA2).1
end Go.Proofs
namespace Go.Pi
open Go.Proofs
theorem a6_.ok (n : Nat) (_ : CxOk E (cx n a6_.d.nt)) (_ : KPar (cx n a6_.d.nt)) : a6_.d.Ok E (a6_.F (n + 1)) := fun _ _ h => nDel_ok (t := .ikeyed) (m := .s) (by decide) delM138 h
end Go.Pi
end
section
set_option linter.unusedVariables false
set_option linter.unusedSimpArgs false
namespace Go.Proofs
open Go.Shelf Go.RowKit Go.Lib Go.Pi
section
variable {P : Program}
theorem mi_ (TS TE : TypeId) (TI : TypeId) (Z : Value) (i0 : TypeInfo) (uS : P.underlying TS = some (.slice TE)) (uI : P.underlying TI = some (.int .i64)) (hi0 : P.info? TE = some i0) (hz2 : i0.zero = some Z) (hz0 : i0.size = 6) (hz1 : i0.bytes = 88) (hZK : Z.cells.size = 6)
    (w : World) (g n c i : Nat) (cur : Array Value) (hg : w.heap[g]? = some (.cells cur TE (0, 0))) (hs : cur.size = c * 6) (hnc : n ≤ c) (hi : i < n)
    (gv m vc : Nat) (curv : Array Value) (Tv : TypeId) (hgv : w.heap[gv]? = some (.cells curv Tv (0, 0))) (hmv : m * 6 ≤ curv.size) (us : List Value) (hul : us = curv.toList.take (m * 6)) (h1u : ∀ v ∈ us, v.oneCell' = true) (hm : 0 < m) (hroom : c < n + m)
    (hbig : (n + m) * 88 ≤ 140737488355328) (h1 : ∀ v ∈ cur.toList.take (n * 6), v.oneCell' = true) :
    ∃ G N W1 R1 W2 A, Hid (N = w.heap.size) ∧ n + m ≤ G ∧ G ≤ maxLen ∧
      (∀ ty, (Builtin.append_ #[TS, TI] ty #[.slice (some ⟨g, 0, none⟩) i c, .int .i64 ((n : Int) + (m : Int) - (i : Int))]).run P w = .ok (.slice (some ⟨N, 0, none⟩) (n + m) G) W1) ∧
      (∀ ty dc, (Builtin.copy_ #[TS, TS] ty #[.slice (some ⟨N, i * 6, none⟩) (n + m - i) dc, .slice (some ⟨gv, 0, none⟩) m vc]).run P W1 = .ok (goInt m) (W1.setRow N R1)) ∧
      (W1.setRow N R1).drew = W2 ∧
      (∀ ty dc sc, (Builtin.copy_ #[TS, TS] ty #[.slice (some ⟨N, (i + m) * 6, none⟩) (n + m - (i + m)) dc, .slice (some ⟨g, i * 6, none⟩) (n - i) sc]).run P W2 = .ok (goInt (n - i)) (W2.setRow N A)) ∧
      Hid (n + m ≤ G ∧ G ≤ maxLen ∧ (W2.setRow N A).heap[w.heap.size]? = some (.cells A TE (0, 0)) ∧ A.size = G * 6 ∧ A.toList.take ((n + m) * 6) = (cur.toList.take (n * 6)).take (i * 6) ++ us ++ (cur.toList.take (n * 6)).drop (i * 6) ∧ w.grownBy (W2.setRow N A) none) := by
  have hul2 : us.length = m * 6 := by rw [hul, List.length_take, Array.length_toList]; omega
  have hsz : (P.info? TE).map (·.size) = some 6 := by rw [hi0]; simp [hz0]
  have hgd : w.drew.heap[g]? = some (.cells cur TE (0, 0)) := hg
  have hgl : g < w.heap.size := (Array.getElem?_eq_some_iff.1 hg).1
  have hgvl : gv < w.heap.size := (Array.getElem?_eq_some_iff.1 hgv).1
  obtain ⟨olds, holds⟩ : ∃ olds, olds = (cur.toList.take (n * 6)).take (i * 6) := ⟨_, rfl⟩
  have hol : olds.length = i * 6 := by rw [holds]; simp [hs]; omega
  obtain ⟨G, hG⟩ : ∃ G, G = grownCap w (n + m) c TE := ⟨_, rfl⟩
  have hGn : n + m ≤ G := by rw [hG]; exact grownCap_ge w _ _ _
  have hGm : G ≤ maxLen := by rw [hG]; exact grownCap_le_maxLen w (n + m) c TE (by unfold maxLen; omega)
  obtain ⟨ROW, hROW⟩ : ∃ ROW : Array Value, ROW = olds.toArray ++ Builtin.zeroCells Z.cells (n + m - i) ++ Builtin.zeroCells Z.cells (G - (n + m)) := ⟨_, rfl⟩
  have hRl : ROW.size = G * 6 := by rw [hROW]; simp [Builtin.zeroCells, hol, hZK]; omega
  have hRt : ROW.toList.take (i * 6) = olds := by
    rw [hROW]; simp only [Array.toList_append, List.append_assoc]
    rw [List.take_append_of_le_length (by simp [hol]), List.take_of_length_le (by simp [hol])]
  have hkk : (n : Int) + (m : Int) - (i : Int) = ((n + m - i : Nat) : Int) := by omega
  have hrz : ∀ ty, (Builtin.append_ #[TS, TI] ty #[.slice (some ⟨g, 0, none⟩) i c, .int .i64 ((n : Int) + (m : Int) - (i : Int))]).run P w =
      .ok (.slice (some ⟨w.heap.size, 0, none⟩) (n + m) G) (w.drew.alloc (.cells ROW TE)) := fun ty => by
    have h := Lib.run_append_grow_zeros (P := P) w TS TI ty TE i0 _ .i64 .i64 uS uI hi0 hz2 (some ⟨g, 0, none⟩) i c olds (by
      rw [hz0]
      exact run_firstCells_some w.drew 6 i ⟨g, 0, none⟩ i c olds hol (fun j v hj => by
        have hj2 := (List.getElem?_eq_some_iff.1 hj).1
        rw [holds, List.getElem?_take_of_lt (by omega), List.getElem?_take_of_lt (by omega), Array.getElem?_toList] at hj
        rw [Addr.add_lit, Nat.zero_add]
        simp only [World.cell?, hgd]
        exact hj)) (n + m - i) (by omega) (by omega) (by omega) (by omega) (by rw [hz1]; omega) (by rw [hz1, show i + (n + m - i) = n + m by omega]; exact growslice_fits hroom hbig)
    rw [show i + (n + m - i) = n + m by omega, ← hG, ← hROW] at h
    rw [hkk]
    exact h
  obtain ⟨N, hN⟩ : ∃ N, N = w.heap.size := ⟨_, rfl⟩
  rw [← hN] at hrz
  obtain ⟨W1, hW1⟩ : ∃ W1, W1 = w.drew.alloc (.cells ROW TE) := ⟨_, rfl⟩
  rw [← hW1] at hrz
  have hN1 : W1.heap[N]? = some (.cells ROW TE (0, 0)) := by rw [hW1, hN]; exact heap_alloc_new w.drew _
  have hold : ∀ b, b < w.heap.size → W1.heap[b]? = w.heap[b]? := fun b hb => by rw [hW1]; exact heap_alloc_old w.drew _ hb
  have hgr1 : w.grownBy W1 none := by rw [hW1]; exact ⟨rfl, rfl, rfl, by simp, fun k hk _ => heap_alloc_old w.drew _ hk⟩
  obtain ⟨R1, hR1⟩ : ∃ R1, R1 = (ROW.toList.take (i * 6) ++ us ++ ROW.toList.drop (i * 6 + us.length)).toArray := ⟨_, rfl⟩
  have hR1s : R1.size = G * 6 := by rw [hR1]; simp [hul2, hRl]; omega
  have hcp1 : ∀ ty dc, (Builtin.copy_ #[TS, TS] ty #[.slice (some ⟨N, i * 6, none⟩) (n + m - i) dc, .slice (some ⟨gv, 0, none⟩) m vc]).run P W1 = .ok (goInt m) (W1.setRow N R1) := fun ty dc => by
    have := cN_ (P := P) W1 TS TS ty TE 6 N (i * 6) (n + m - i) dc ⟨gv, 0, none⟩ m vc ROW TE us uS hsz hN1 (by rw [hul2]; simp only [Nat.min_def]; split <;> omega)
      (fun j v hj => by
        have hj2 := (List.getElem?_eq_some_iff.1 hj).1
        rw [hul, List.getElem?_take_of_lt (by omega), Array.getElem?_toList] at hj
        rw [Addr.add_lit, Nat.zero_add]
        simp only [World.cell?, hold gv hgvl, hgv]
        exact hj) (by rw [hul2, hRl]; omega) h1u
    rw [this, hR1]
    congr 2
    simp only [Nat.min_def]; split <;> omega
  obtain ⟨W2, hW2⟩ : ∃ W2, W2 = (W1.setRow N R1).drew := ⟨_, rfl⟩
  have hN2 : W2.heap[N]? = some (.cells R1 TE (0, 0)) := by rw [hW2]; exact setRow_heap _ _ _ _ _ _ hN1
  have hg2 : W2.heap[g]? = some (.cells cur TE (0, 0)) := by
    rw [hW2]; show (W1.setRow N R1).heap[g]? = _
    rw [setRow_other _ _ _ _ (by omega), hold g hgl]; exact hg
  obtain ⟨mv, hmv2⟩ : ∃ mv, mv = (cur.toList.take (n * 6)).drop (i * 6) := ⟨_, rfl⟩
  have hml : mv.length = (n - i) * 6 := by rw [hmv2]; simp [hs]; omega
  obtain ⟨A, hA⟩ : ∃ A, A = (R1.toList.take ((i + m) * 6) ++ mv ++ R1.toList.drop ((i + m) * 6 + mv.length)).toArray := ⟨_, rfl⟩
  have hcp2 : ∀ ty dc sc, (Builtin.copy_ #[TS, TS] ty #[.slice (some ⟨N, (i + m) * 6, none⟩) (n + m - (i + m)) dc, .slice (some ⟨g, i * 6, none⟩) (n - i) sc]).run P W2 = .ok (goInt (n - i)) (W2.setRow N A) := fun ty dc sc => by
    have := cN_ (P := P) W2 TS TS ty TE 6 N ((i + m) * 6) (n + m - (i + m)) dc ⟨g, i * 6, none⟩ (n - i) sc R1 TE mv uS hsz hN2 (by rw [hml]; simp only [Nat.min_def]; split <;> omega)
      (fun j v hj => by
        have hj2 := (List.getElem?_eq_some_iff.1 hj).1
        rw [hmv2, List.getElem?_drop, List.getElem?_take_of_lt (by omega), Array.getElem?_toList] at hj
        rw [Addr.add_lit]
        simp only [World.cell?, hg2]
        exact hj) (by rw [hml, hR1s]; omega) (fun v hv => h1 v (by rw [hmv2] at hv; exact List.mem_of_mem_drop hv))
    rw [this, hA]
    congr 2
    simp only [Nat.min_def]; split <;> omega
  have kA : Hid (n + m ≤ G ∧ G ≤ maxLen ∧ (W2.setRow N A).heap[w.heap.size]? = some (.cells A TE (0, 0)) ∧ A.size = G * 6 ∧ A.toList.take ((n + m) * 6) = (cur.toList.take (n * 6)).take (i * 6) ++ us ++ (cur.toList.take (n * 6)).drop (i * 6) ∧ w.grownBy (W2.setRow N A) none) := by
    refine ⟨hGn, hGm, by rw [← hN]; exact setRow_heap _ _ _ _ _ _ hN2, by rw [hA]; simp [hml, hR1s]; omega, ?_, ?_⟩
    · have e1 : R1.toList.take ((i + m) * 6) = olds ++ us := by
        rw [hR1]; simp only [List.toList_toArray]
        rw [List.take_append_of_le_length (by simp [hul2, hRl]; omega), List.take_of_length_le (by simp [hul2, hRl]; omega), hRt]
      rw [hA]; simp only [List.toList_toArray]
      rw [e1, List.take_append_of_le_length (by simp [hol, hul2, hml]; omega), List.take_of_length_le (by simp [hol, hul2, hml]; omega), holds, hmv2]
    · refine ⟨by rw [hW2]; exact hgr1.os, by rw [hW2]; exact hgr1.tape, by rw [hW2]; exact hgr1.output, ?_, fun k hk hne => ?_⟩
      · have : (W2.setRow N A).heap.size = W1.heap.size := by rw [hW2]; simp [World.setRow, World.drew]
        rw [this]; exact hgr1.size
      · rw [setRow_other _ _ _ _ (by omega), hW2]
        show (W1.setRow N R1).heap[k]? = _
        rw [setRow_other _ _ _ _ (by omega)]; exact hold k hk
  exact ⟨G, N, W1, R1, W2, A, hN, hGn, hGm, hrz, hcp1, hW2.symm, hcp2, kA⟩
end
set_option maxRecDepth 1000000 in
theorem InsEnd141 (w : World) (S : Value) (n : Nat) (vals : List Value) (hS : w.ownsRow 0 172 6 S n vals) (gv m vc : Nat) (us : List Value) (hul : us.length = m * 6) (hus : ∀ j u, us[j]? = some u → w.cell? ⟨gv, j, none⟩ = some u) (h1u : ∀ v ∈ us, v.oneCell' = true) (hm : 0 < m) (hb : (n + m) * 88 ≤ 140737488355328) :
    Calls Tryz.prog 141 #[S, .int .i64 n, .slice (some ⟨gv, 0, none⟩) m vc] w fun e w' => ∃ R, e = .returned R ∧ w'.ownsRow 0 172 6 R (n + m) (vals ++ us) ∧ fD_ w w' (fun b => cr_ S b ≠ 0) ∧
      ∀ b, cr_ R b ≠ 0 → (w.heap.size ≤ b ∨ cr_ S b ≠ 0) ∧ b < w'.heap.size := by
  obtain ⟨i0, hi0⟩ := Option.isSome_iff_exists.1 (show (Tryz.prog.info? 172).isSome = true by kernel_rfl)
  have hz0 : i0.size = 6 := by
    have : (Tryz.prog.info? 172).map (·.size) = some 6 := by kernel_rfl
    rw [hi0] at this; simpa using this
  have hz1 : i0.bytes = 88 := by
    have : (Tryz.prog.info? 172).map (·.bytes) = some 88 := by kernel_rfl
    rw [hi0] at this; simpa using this
  have hz2 : i0.zero = some (.agg #[.int .i64 0, .int .i64 0, .int .i64 0, .string ByteArray.empty, .slice none 0 0, .slice none 0 0]) := by
    have : (Tryz.prog.info? 172).bind (·.zero) = some (.agg #[.int .i64 0, .int .i64 0, .int .i64 0, .string ByteArray.empty, .slice none 0 0, .slice none 0 0]) := by kernel_rfl
    rw [hi0] at this; simpa using this
  have hz3 : ¬ ((m : Int) = 0) := by omega
  have mixed : Tryz.prog.follows .mixedOrders = true := by kernel_rfl
  have key : ∀ ty, ∃ v' w', (Builtin.append_ #[167, 167] ty #[S, .slice (some ⟨gv, 0, none⟩) m vc]).run Tryz.prog w = .ok v' w' ∧ w'.ownsRow 0 172 6 v' (n + m) (vals ++ us) ∧ fD_ w w' (fun b => cr_ S b ≠ 0) ∧
      ∀ b, cr_ v' b ≠ 0 → (w.heap.size ≤ b ∨ cr_ S b ≠ 0) ∧ b < w'.heap.size := fun ty => by
    have := dr_ (P := Tryz.prog) w 167 ty 172 i0 _ Tryz.underlying167 hi0 hz2 (by rw [hz0]; rfl) (by rw [hz0]; decide) S n vals (by rw [hz0]; exact hS) (.slice (some ⟨gv, 0, none⟩) m vc) m us (by rw [hz0]; exact hul) (.inl ⟨_, _, rfl, fun j u h => by rw [Addr.add_lit, Nat.zero_add]; exact hus j u h⟩) h1u (by unfold maxLen; omega) (by rw [hz1]; exact hb)
    rw [hz0] at this
    exact this
  obtain ⟨v', w', k1, k2, k3⟩ := key 167
  rcases hS.2 with ⟨rfl, rfl⟩ | ⟨g, c, cur, rfl, -, hg, hnc, hcm, hcs, htake⟩
  · clear key hS hus hz2 hi0 hz0 hz1
    go_enter Tryz.func141, Tryz.ntmps141
    go_wp2_with (at_builtin; refine Lib.wpList_append_run _ rfl _ _ 167 167 rfl _ _ rfl rfl _ _ k1 ?_)
    go_ret
    exact ⟨_, rfl, k2, k3⟩
  · clear key hS hus hz2 hg htake hcs hi0 hz0 hz1
    unfold maxLen at hcm
    go_enter Tryz.func141, Tryz.ntmps141
    go_wp2_with (at_builtin; refine Lib.wpList_append_run _ rfl _ _ 167 167 rfl _ _ rfl rfl _ _ k1 ?_)
    all_goals (go_ret; exact ⟨_, rfl, k2, k3⟩)
set_option maxRecDepth 1000000 in
theorem mF_ (w : World) (S : Value) (n i : Nat) (vals : List Value) (hS : w.ownsRow 0 172 6 S n vals) (U : Value) (us : List Value) (hU : w.ownsRow 0 172 6 U 0 us) (hi : i ≤ n) :
    Calls Tryz.prog 141 #[S, .int .i64 i, U] w fun e w' => e = .returned S ∧ w' = w := by
  rcases hS.2 with ⟨rfl, rfl⟩ | ⟨g, c, cur, rfl, -, hg, hnc, hcm, hcs, htake⟩
  · have hi0 : i = 0 := by omega
    subst hi0
    rcases hU.2 with ⟨rfl, -⟩ | ⟨gv, vc, curv, rfl, -, hgv, hmc, hcm, hcs, htake⟩
    · clear hS hU
      go_enter Tryz.func141, Tryz.ntmps141
      go_wp2_with fail
      go_ret
      exact ⟨rfl, rfl⟩
    · clear hS hU hgv hcs htake
      go_enter Tryz.func141, Tryz.ntmps141
      go_wp2_with fail
      go_ret
      exact ⟨rfl, rfl⟩
  · unfold maxLen at hcm
    have hic : i ≤ c := by omega
    rcases hU.2 with ⟨rfl, -⟩ | ⟨gv, vc, curv, rfl, -, hgv, hmc, hcm2, hcs2, htake2⟩
    · clear hS hU hg hcs htake
      go_enter Tryz.func141, Tryz.ntmps141
      go_wp2_with fail
      all_goals (go_ret; exact ⟨rfl, rfl⟩)
    · clear hS hU hg hcs htake hgv hcs2 htake2
      go_enter Tryz.func141, Tryz.ntmps141
      go_wp2_with fail
      all_goals (go_ret; exact ⟨rfl, rfl⟩)
set_option maxRecDepth 1000000 in
theorem k7_ (w : World) (g n c i : Nat) (cur : Array Value) (hg : w.heap[g]? = some (.cells cur 172 (0, 0))) (hs : cur.size = c * 6) (hc : c ≤ 9223372036854775807) (hi : i < n)
    (gv m vc : Nat) (curv : Array Value) (Tv : TypeId) (hgv : w.heap[gv]? = some (.cells curv Tv (0, 0))) (hmv : m * 6 ≤ curv.size) (hne : gv ≠ g) (us : List Value) (hul : us = curv.toList.take (m * 6)) (h1u : ∀ v ∈ us, v.oneCell' = true) (hm : 0 < m) (hroom : n + m ≤ c)
    (h1 : ∀ v ∈ cur.toList.take (n * 6), v.oneCell' = true) :
    Calls Tryz.prog 141 #[.slice (some ⟨g, 0, none⟩) n c, .int .i64 i, .slice (some ⟨gv, 0, none⟩) m vc] w fun e w' => e = .returned (.slice (some ⟨g, 0, none⟩) (n + m) c) ∧
      ∃ A, w' = w.drew.setRow g A ∧ A.size = cur.size ∧ A.toList.take ((n + m) * 6) = (cur.toList.take (n * 6)).take (i * 6) ++ us ++ (cur.toList.take (n * 6)).drop (i * 6) := by
  have hsz : (Tryz.prog.info? 172).map (·.size) = some 6 := by kernel_rfl
  have hul2 : us.length = m * 6 := by rw [hul, List.length_take, Array.length_toList]; omega
  have hov : ∀ lb cb, (callFunc 204 #[.slice (some ⟨gv, 0, none⟩) m vc, .slice (some ⟨g, (i + m) * 6, none⟩) lb cb]).run Tryz.prog w = .ok (.value (.bool false)) w := fun lb cb => by
    rw [run_callFunc_extern Tryz.func204 (by kernel_rfl) (by kernel_rfl) (by kernel_rfl) (e := Extern.SlicesOverlaps.overlaps #[167, 167] #[4]) (by kernel_rfl),
      Lib.run_overlaps_apart w 167 4 172 Tryz.underlying167 6 Tryz.sizeOf172 ⟨gv, 0, none⟩ ⟨g, (i + m) * 6, none⟩ m vc lb cb hne Tv 172 curv.size cur.size (by simp [World.shape?, hgv]) (by simp [World.shape?, hg]) (by omega) (by simp [World.frozen?, hgv]) (by simp [World.frozen?, hgv])]
    rfl
  obtain ⟨mv, hmv2⟩ : ∃ mv, mv = (cur.toList.take (n * 6)).drop (i * 6) := ⟨_, rfl⟩
  have hml : mv.length = (n - i) * 6 := by rw [hmv2]; simp [hs]; omega
  have hgd : w.drew.heap[g]? = some (.cells cur 172 (0, 0)) := hg
  obtain ⟨B, hB⟩ : ∃ B, B = (cur.toList.take ((i + m) * 6) ++ mv ++ cur.toList.drop ((i + m) * 6 + mv.length)).toArray := ⟨_, rfl⟩
  have hcp1 : ∀ ty dc sc, (Builtin.copy_ #[167, 167] ty #[.slice (some ⟨g, (i + m) * 6, none⟩) (n + m - (i + m)) dc, .slice (some ⟨g, i * 6, none⟩) (n + m - i) sc]).run Tryz.prog w.drew = .ok (goInt (n - i)) (w.drew.setRow g B) := fun ty dc sc => by
    have := cN_ (P := Tryz.prog) w.drew 167 167 ty 172 6 g ((i + m) * 6) (n + m - (i + m)) dc ⟨g, i * 6, none⟩ (n + m - i) sc cur 172 mv Tryz.underlying167 hsz hgd (by rw [hml]; simp only [Nat.min_def]; split <;> omega)
      (fun j v hj => by
        have hj2 := (List.getElem?_eq_some_iff.1 hj).1
        rw [hmv2, List.getElem?_drop, List.getElem?_take_of_lt (by omega), Array.getElem?_toList] at hj
        rw [Addr.add_lit]
        simp only [World.cell?, hgd]
        exact hj) (by rw [hml, hs]; omega) (fun v hv => h1 v (by rw [hmv2] at hv; exact List.mem_of_mem_drop hv))
    rw [this, hB]
    congr 2
    simp only [Nat.min_def]; split <;> omega
  have hBs : B.size = cur.size := by rw [hB]; simp [hml, hs]; omega
  have hgB : (w.drew.setRow g B).heap[g]? = some (.cells B 172 (0, 0)) := setRow_heap _ _ _ _ _ _ hgd
  obtain ⟨A, hA⟩ : ∃ A, A = (B.toList.take (i * 6) ++ us ++ B.toList.drop (i * 6 + us.length)).toArray := ⟨_, rfl⟩
  have hcp2 : ∀ ty dc, (Builtin.copy_ #[167, 167] ty #[.slice (some ⟨g, i * 6, none⟩) (n + m - i) dc, .slice (some ⟨gv, 0, none⟩) m vc]).run Tryz.prog (w.drew.setRow g B) = .ok (goInt m) (w.drew.setRow g A) := fun ty dc => by
    have := cN_ (P := Tryz.prog) (w.drew.setRow g B) 167 167 ty 172 6 g (i * 6) (n + m - i) dc ⟨gv, 0, none⟩ m vc B 172 us Tryz.underlying167 hsz hgB (by rw [hul2]; simp only [Nat.min_def]; split <;> omega)
      (fun j v hj => by
        have hj2 := (List.getElem?_eq_some_iff.1 hj).1
        rw [hul, List.getElem?_take_of_lt (by omega), Array.getElem?_toList] at hj
        rw [Addr.add_lit, Nat.zero_add]
        have e : (w.drew.setRow g B).heap[gv]? = some (.cells curv Tv (0, 0)) := by rw [setRow_other _ _ _ _ hne]; exact hgv
        simp only [World.cell?, e]
        exact hj) (by rw [hul2, hBs, hs]; omega) h1u
    rw [this, hA, setRow_setRow]
    congr 2
    simp only [Nat.min_def]; split <;> omega
  have kA : Hid (A.size = cur.size ∧ A.toList.take ((n + m) * 6) = (cur.toList.take (n * 6)).take (i * 6) ++ us ++ mv) := by
    have e1 : B.toList.take (i * 6) = (cur.toList.take (n * 6)).take (i * 6) := by
      rw [hB]; simp only [List.toList_toArray, List.append_assoc]
      rw [List.take_append_of_le_length (by simp [hs]; omega), List.take_take, List.take_take]
      congr 1; omega
    have e2 : (B.toList.drop (i * 6 + us.length)).take mv.length = mv := by
      rw [hB]; simp only [List.toList_toArray, List.append_assoc]
      rw [List.drop_append, List.drop_eq_nil_of_le (by simp [hul2, hs]; omega), List.nil_append, List.length_take, show i * 6 + us.length - min ((i + m) * 6) cur.toList.length = 0 by simp [hul2, hs]; omega, List.drop_zero, List.take_append_of_le_length (Nat.le_refl _), List.take_of_length_le (Nat.le_refl _)]
    refine ⟨by rw [hA]; simp [hul2, hBs, hs]; omega, ?_⟩
    rw [hA]; simp only [List.toList_toArray]
    rw [List.take_append, List.take_of_length_le (by simp [hul2, hBs, hs]; omega), e1]
    congr 1
    rw [show (n + m) * 6 - (List.take (i * 6) (List.take (n * 6) cur.toList) ++ us).length = mv.length by simp [hul2, hml, hs]; omega]
    exact e2
  rw [hmv2] at kA
  have hnc : n ≤ c := by omega
  have hic : i ≤ c := by omega
  have hz1 : ¬ ((m : Int) = 0) := by omega
  have hz2 : ¬ ((i : Int) = (n : Int)) := by omega
  have mixed : Tryz.prog.follows .mixedOrders = true := by kernel_rfl
  have hw1 : IntKind.i64.wrap ((i : Int) + (m : Int)) = (i : Int) + (m : Int) := by rw [IntKind.wrap_i64]; omega
  have hb1 : (0 : Int) ≤ (i : Int) + (m : Int) := by omega
  have hin : i ≤ n := by omega
  have htn : ((i : Int) + (m : Int)).toNat = i + m := by omega
  have hb2 : ¬ (c = i + m) := by omega
  have hb3 : (i : Int) ≤ (n : Int) + (m : Int) := by omega
  have hb4 : ¬ (c = i) := by omega
  clear hB hBs hgB hA hmv2 hml hgd hg hgv hul hul2 h1 h1u hsz hs hmv
  go_enter Tryz.func141, Tryz.ntmps141
  go_wp2_with (simp only [hov])
  go_region_law_o (refine da_ rfl _ _ 167 167 rfl _ _ (by simp [Act.eval, Act.put]) (by simp [Act.eval, Act.put]) (hcp1 _ _ _) ?_)
  go_wp2_with (at_builtin; refine dK_ _ rfl _ _ 167 167 rfl _ _ rfl rfl (hcp2 _ _) ?_)
  go_ret
  exact ⟨rfl, A, rfl, kA.out.1, kA.out.2⟩
set_option maxRecDepth 1000000 in
theorem mI_ (w : World) (g n c i : Nat) (cur : Array Value) (hg : w.heap[g]? = some (.cells cur 172 (0, 0))) (hs : cur.size = c * 6) (hnc : n ≤ c) (hi : i < n)
    (gv m vc : Nat) (curv : Array Value) (Tv : TypeId) (hgv : w.heap[gv]? = some (.cells curv Tv (0, 0))) (hmv : m * 6 ≤ curv.size) (us : List Value) (hul : us = curv.toList.take (m * 6)) (h1u : ∀ v ∈ us, v.oneCell' = true) (hm : 0 < m) (hroom : c < n + m)
    (hbig : (n + m) * 88 ≤ 140737488355328) (h1 : ∀ v ∈ cur.toList.take (n * 6), v.oneCell' = true) :
    Calls Tryz.prog 141 #[.slice (some ⟨g, 0, none⟩) n c, .int .i64 i, .slice (some ⟨gv, 0, none⟩) m vc] w fun e w' => ∃ C A, e = .returned (.slice (some ⟨w.heap.size, 0, none⟩) (n + m) C) ∧ n + m ≤ C ∧ C ≤ maxLen ∧
      w'.heap[w.heap.size]? = some (.cells A 172 (0, 0)) ∧ A.size = C * 6 ∧ A.toList.take ((n + m) * 6) = (cur.toList.take (n * 6)).take (i * 6) ++ us ++ (cur.toList.take (n * 6)).drop (i * 6) ∧ w.grownBy w' none := by
  obtain ⟨i0, hi0⟩ := Option.isSome_iff_exists.1 (show (Tryz.prog.info? 172).isSome = true by kernel_rfl)
  have hz0 : i0.size = 6 := by
    have : (Tryz.prog.info? 172).map (·.size) = some 6 := by kernel_rfl
    rw [hi0] at this; simpa using this
  have hz1 : i0.bytes = 88 := by
    have : (Tryz.prog.info? 172).map (·.bytes) = some 88 := by kernel_rfl
    rw [hi0] at this; simpa using this
  have hz2 : i0.zero = some (.agg #[.int .i64 0, .int .i64 0, .int .i64 0, .string ByteArray.empty, .slice none 0 0, .slice none 0 0]) := by
    have : (Tryz.prog.info? 172).bind (·.zero) = some (.agg #[.int .i64 0, .int .i64 0, .int .i64 0, .string ByteArray.empty, .slice none 0 0, .slice none 0 0]) := by kernel_rfl
    rw [hi0] at this; simpa using this
  obtain ⟨G, N, W1, R1, W2, A, hNN, hGn, hGm, hrz, hcp1, hW2', hcp2, kA⟩ := mi_ 167 172 3 _ i0 Tryz.underlying167 Tryz.underlying3 hi0 hz2 hz0 hz1 rfl w g n c i cur hg hs hnc hi gv m vc curv Tv hgv hmv us hul h1u hm hroom hbig h1
  have hic : i ≤ c := by omega
  have hz3 : ¬ ((m : Int) = 0) := by omega
  have hz4 : ¬ ((i : Int) = (n : Int)) := by omega
  have hz5 : (c : Int) < (n : Int) + (m : Int) := by omega
  have mixed : Tryz.prog.follows .mixedOrders = true := by kernel_rfl
  have hG63 : G ≤ 9223372036854775807 := by unfold maxLen at hGm; omega
  have hw1 : IntKind.i64.wrap ((n : Int) + (m : Int)) = (n : Int) + (m : Int) := by rw [IntKind.wrap_i64]; omega
  have hw2 : IntKind.i64.wrap ((n : Int) + (m : Int) - (i : Int)) = (n : Int) + (m : Int) - (i : Int) := by rw [IntKind.wrap_i64]; omega
  have hw3 : IntKind.i64.wrap ((i : Int) + (m : Int)) = (i : Int) + (m : Int) := by rw [IntKind.wrap_i64]; omega
  have hb1 : (0 : Int) ≤ (i : Int) + (m : Int) := by omega
  have htn : ((i : Int) + (m : Int)).toNat = i + m := by omega
  have hGi : ¬ (G = i) := by omega
  have hGim : ¬ (G = i + m) := by omega
  have hb3 : (i : Int) ≤ (n : Int) + (m : Int) := by omega
  have hb4 : ¬ (c = i) := by omega
  have hinm : i ≤ n + m := by omega
  have himn : i + m ≤ n + m := by omega
  have hin : i ≤ n := by omega
  clear hul h1 h1u hg hgv hs hmv hz0 hz1 hz2 hi0 hbig
  go_enter Tryz.func141, Tryz.ntmps141
  go_wp2_with (at_builtin; refine Lib.wpList_append_run _ rfl _ _ 167 3 rfl _ _ rfl rfl _ _ (hrz _) ?_)
  go_region_law_o (simp only [hW2']; refine da_ rfl _ _ 167 167 rfl _ _ (by simp [Act.eval, Act.put]) (by simp [Act.eval, Act.put]) (hcp2 _ _ _) ?_)
  go_wp2_with fail
  go_ret
  exact ⟨G, A, by rw [hNN.out]; rfl, kA.out⟩
theorem insM141 : InsM Tryz.prog 141 172 6 88 := by
  intro w S n vals U m us i hS hU hdis hi h1 h1u hb
  have hvl := hS.1
  by_cases hm : m = 0
  · subst hm
    have hus : us = [] := by have := hU.1; rw [Nat.zero_mul] at this; exact List.eq_nil_of_length_eq_zero this
    subst hus
    refine (mF_ w S n i vals hS U [] hU hi).mono ?_
    rintro e w' ⟨rfl, rfl⟩
    refine ⟨S, rfl, by rw [List.append_nil, List.take_append_drop]; exact hS, ⟨rfl, rfl, rfl, Nat.le_refl _, fun _ _ _ => rfl⟩, fun b hb => ⟨.inr hb, iE_ hS b hb⟩⟩
  · rcases hU.2 with ⟨rfl, h0⟩ | ⟨gv, vc, curv, rfl, -, hgv, hmc, hcm, hcs, htake⟩
    · exact absurd h0 hm
    · by_cases hin : i = n
      · subst hin
        rw [List.take_of_length_le (by omega), List.drop_eq_nil_of_le (by omega), List.append_nil]
        exact InsEnd141 w S i vals hS gv m vc us hU.1 (fun j u h => by have := hU.cells (g := gv) rfl j u h; rwa [Addr.add_lit, Nat.zero_add] at this) h1u (by omega) hb
      · rcases hS.2 with ⟨rfl, h0⟩ | ⟨g, c, cur, rfl, -, hg, hnc, hcm', hcs', htake'⟩
        · omega
        · have hne : gv ≠ g := fun e => by subst e; have := hdis gv (by simp [cr_]); simp [cr_] at this
          have hmv : m * 6 ≤ curv.size := by rw [hcs]; exact Nat.mul_le_mul_right _ hmc
          by_cases hroom : n + m ≤ c
          · refine (k7_ w g n c i cur hg hcs' (by unfold maxLen at hcm'; omega) (by omega) gv m vc curv 172 hgv hmv hne us htake.symm h1u (by omega) hroom (by rw [htake']; exact h1)).mono ?_
            rintro e w' ⟨rfl, A, rfl, hA, ht⟩
            rw [htake'] at ht
            have hgd : w.drew.heap[g]? = some (.cells cur 172 (0, 0)) := hg
            have hA2 := setRow_heap w.drew g cur A _ _ hgd
            refine ⟨_, rfl, ⟨by rw [← ht]; simp [hA, hcs']; omega, .inr ⟨g, c, A, rfl, Nat.zero_le _, hA2, hroom, hcm', by rw [hA, hcs'], ht⟩⟩, ⟨rfl, rfl, rfl, f5_ w g A, fun b _ hn => ?_⟩, fun b hb => ⟨.inr hb, ?_⟩⟩
            · rw [setRow_other _ _ _ _ (fun e => hn (by subst e; simp [cr_]))]; rfl
            · have : g = b := by simp only [cr_] at hb; exact Classical.byContradiction fun h => hb (if_neg h)
              subst this
              exact (Array.getElem?_eq_some_iff.1 hA2).1
          · refine (mI_ w g n c i cur hg hcs' hnc (by omega) gv m vc curv 172 hgv hmv us htake.symm h1u (by omega) (by omega) hb (by rw [htake']; exact h1)).mono ?_
            rintro e w' ⟨C, A, rfl, hC, hCm, hN, hA, ht, hgr⟩
            rw [htake'] at ht
            refine ⟨_, rfl, ⟨by rw [← ht]; simp [hA]; omega, .inr ⟨_, C, A, rfl, Nat.zero_le _, hN, hC, hCm, hA, ht⟩⟩, ⟨hgr.os, hgr.tape, hgr.output, hgr.size, fun b hb _ => hgr.block b hb (by simp)⟩, fun b hb => ?_⟩
            have : w.heap.size = b := by simp only [cr_] at hb; exact Classical.byContradiction fun h => hb (if_neg h)
            subst this
            exact ⟨.inl (Nat.le_refl _), (Array.getElem?_eq_some_iff.1 hN).1⟩
end Go.Proofs
namespace Go.Pi
open Go.Proofs
theorem a5_.ok (n : Nat) (_ : CxOk E (cx n a5_.d.nt)) (_ : KPar (cx n a5_.d.nt)) : a5_.d.Ok E (a5_.F (n + 1)) := fun _ _ h => kz_ (t := .ikeyed) (m1 := .s) (m2 := .s) (by decide) (by decide) insM141 h
end Go.Pi
end
section
set_option linter.unusedVariables false
set_option linter.unusedSimpArgs false
namespace Go.Proofs
open Go.Shelf
def Tryz.laysM171_ren : Go.Shelf.Ren := ⟨fun | 171 => 201 | 243 => 244 | 246 => 280 | 283 => 306 | 284 => 307 | 285 => 308 | 286 => 309 | 129 => 324 | 317 => 323 | 318 => 325 | 319 => 326 | 320 => 327 | 337 => 336 | 338 => 337 | n => n, fun | 3 => 3 | 9 => 9 | 2 => 2 | 4 => 4 | 171 => 286 | 0 => 0 | 53 => 275 | 37 => 22 | 5 => 5 | 173 => 289 | 212 => 303 | 51 => 304 | 20 => 20 | 213 => 305 | 46 => 205 | 232 => 316 | 233 => 317 | n => n, fun | 17 => 3 | 18 => 4 | 19 => 5 | n => n⟩
theorem Tryz.laysM171 : Go.Proofs.LaysM.n171 Tryz.prog Tryz.laysM171_ren := {
  mixed := by kernel_rfl
  f129 := Tryz.func324.trans (congrArg some (by kernel_rfl))
  f171 := Tryz.func201.trans (congrArg some (by kernel_rfl))
  f243 := Tryz.func244.trans (congrArg some (by kernel_rfl))
  f246 := Tryz.func280.trans (congrArg some (by kernel_rfl))
  f283 := Tryz.func306.trans (congrArg some (by kernel_rfl))
  f284 := Tryz.func307.trans (congrArg some (by kernel_rfl))
  f285 := Tryz.func308.trans (congrArg some (by kernel_rfl))
  f286 := Tryz.func309.trans (congrArg some (by kernel_rfl))
  f317 := Tryz.func323.trans (congrArg some (by kernel_rfl))
  f318 := Tryz.func325.trans (congrArg some (by kernel_rfl))
  f319 := Tryz.func326.trans (congrArg some (by kernel_rfl))
  f320 := Tryz.func327.trans (congrArg some (by kernel_rfl))
  f337 := Tryz.func336.trans (congrArg some (by kernel_rfl))
  f338 := Tryz.func337.trans (congrArg some (by kernel_rfl))
  t0 := Tryz.underlying0
  a0 := Tryz.isAgg0
  z0 := Tryz.sizeOf0
  v0 := Tryz.zeroValue0
  t2 := Tryz.underlying2
  a2 := Tryz.isAgg2
  z2 := Tryz.sizeOf2
  v2 := Tryz.zeroValue2
  t3 := Tryz.underlying3
  a3 := Tryz.isAgg3
  z3 := Tryz.sizeOf3
  v3 := Tryz.zeroValue3
  t4 := Tryz.underlying4
  a4 := Tryz.isAgg4
  z4 := Tryz.sizeOf4
  v4 := Tryz.zeroValue4
  t5 := Tryz.underlying5
  a5 := Tryz.isAgg5
  z5 := Tryz.sizeOf5
  v5 := Tryz.zeroValue5
  t9 := Tryz.underlying9
  a9 := Tryz.isAgg9
  z9 := Tryz.sizeOf9
  v9 := Tryz.zeroValue9
  t20 := Tryz.underlying20
  a20 := Tryz.isAgg20
  z20 := Tryz.sizeOf20
  v20 := Tryz.zeroValue20
  t37 := Tryz.underlying22
  a37 := Tryz.isAgg22
  z37 := Tryz.sizeOf22
  v37 := Tryz.zeroValue22
  t46 := Tryz.underlying205
  a46 := Tryz.isAgg205
  z46 := Tryz.sizeOf205
  v46 := Tryz.zeroValue205
  t51 := Tryz.underlying304
  a51 := Tryz.isAgg304
  z51 := Tryz.sizeOf304
  v51 := Tryz.zeroValue304
  t53 := Tryz.underlying275
  a53 := Tryz.isAgg275
  z53 := Tryz.sizeOf275
  v53 := Tryz.zeroValue275
  t171 := Tryz.underlying286
  a171 := Tryz.isAgg286
  z171 := Tryz.sizeOf286
  v171 := Tryz.zeroValue286
  t173 := Tryz.underlying289
  a173 := Tryz.isAgg289
  z173 := Tryz.sizeOf289
  v173 := Tryz.zeroValue289
  t212 := Tryz.underlying303
  a212 := Tryz.isAgg303
  z212 := Tryz.sizeOf303
  v212 := Tryz.zeroValue303
  t213 := Tryz.underlying305
  a213 := Tryz.isAgg305
  z213 := Tryz.sizeOf305
  t232 := Tryz.underlying316
  a232 := Tryz.isAgg316
  z232 := Tryz.sizeOf316
  v232 := Tryz.zeroValue316
  t233 := Tryz.underlying317
  a233 := Tryz.isAgg317
  z233 := Tryz.sizeOf317
  v233 := Tryz.zeroValue317
  g17 := by kernel_rfl
  g18 := by kernel_rfl
  g19 := by kernel_rfl
  i0 := by kernel_rfl
  i2 := by kernel_rfl
  i3 := by kernel_rfl
  i4 := by kernel_rfl
  i5 := by kernel_rfl
  i9 := by kernel_rfl
  i20 := by kernel_rfl
  i37 := by kernel_rfl
  i46 := by kernel_rfl
  i51 := by kernel_rfl
  i53 := by kernel_rfl
  i171 := by kernel_rfl
  i173 := by kernel_rfl
  i212 := by kernel_rfl
  i232 := by kernel_rfl
  i233 := by kernel_rfl
  m17 := by kernel_rfl
  m18 := by kernel_rfl
  m19 := by kernel_rfl }
open Go.RowKit Go.Sort Go.Lib in
theorem Tryz.strconv_Itoa (n : Int) (h0 : -9223372036854775808 ≤ n) (h1 : n ≤ 9223372036854775807) (w : World) (htab : Lib.TabIs Tryz.prog w "internal/strconv.uint64pow10" .u64 Lib.pow10Tab) :
    Calls Tryz.prog 201 #[.int .i64 n] w fun e w' => e = .returned (.string ⟨(Lib.itoa n).toArray⟩) ∧ ∃ k os, w' = grow (w.drewN k) os := Any.strconv_Itoa Tryz.laysM171 n h0 h1 w htab
end Go.Proofs
namespace Go.Pi
open Go.Proofs
theorem hl_ : E.P.globalNamed "internal/strconv.uint64pow10" = some 3 := by kernel_rfl
theorem strconv_Itoa.ok (n : Nat) (_ : CxOk E (cx n strconv_Itoa.d.nt)) (_ : KPar (cx n strconv_Itoa.d.nt)) : strconv_Itoa.d.Ok E (strconv_Itoa.F (n + 1)) := fun _ _ h => nItoa_ok (fun n h0 h1 w ht => Tryz.strconv_Itoa n h0 h1 w ht) (.head _) hl_ h
end Go.Pi
end
section
set_option linter.unusedVariables false
set_option linter.unusedSimpArgs false
namespace Go.Proofs
open Go.Shelf Go.RowKit Go.Lib Go.Pi
section
variable {P : Program}
theorem mh_ (TS TE : TypeId) (TI : TypeId) (Z : Value) (i0 : TypeInfo) (uS : P.underlying TS = some (.slice TE)) (uI : P.underlying TI = some (.int .i64)) (hi0 : P.info? TE = some i0) (hz2 : i0.zero = some Z) (hz0 : i0.size = 1) (hz1 : i0.bytes = 16) (hZK : Z.cells.size = 1)
    (w : World) (g n c i : Nat) (cur : Array Value) (hg : w.heap[g]? = some (.cells cur TE (0, 0))) (hs : cur.size = c) (hnc : n ≤ c) (hi : i < n)
    (gv m vc : Nat) (curv : Array Value) (Tv : TypeId) (hgv : w.heap[gv]? = some (.cells curv Tv (0, 0))) (hmv : m ≤ curv.size) (us : List Value) (hul : us = curv.toList.take (m)) (h1u : ∀ v ∈ us, v.oneCell' = true) (hm : 0 < m) (hroom : c < n + m)
    (hbig : (n + m) * 16 ≤ 140737488355328) (h1 : ∀ v ∈ cur.toList.take (n), v.oneCell' = true) :
    ∃ G N W1 R1 W2 A, Hid (N = w.heap.size) ∧ n + m ≤ G ∧ G ≤ maxLen ∧
      (∀ ty, (Builtin.append_ #[TS, TI] ty #[.slice (some ⟨g, 0, none⟩) i c, .int .i64 ((n : Int) + (m : Int) - (i : Int))]).run P w = .ok (.slice (some ⟨N, 0, none⟩) (n + m) G) W1) ∧
      (∀ ty dc, (Builtin.copy_ #[TS, TS] ty #[.slice (some ⟨N, i, none⟩) (n + m - i) dc, .slice (some ⟨gv, 0, none⟩) m vc]).run P W1 = .ok (goInt m) (W1.setRow N R1)) ∧
      (W1.setRow N R1).drew = W2 ∧
      (∀ ty dc sc, (Builtin.copy_ #[TS, TS] ty #[.slice (some ⟨N, (i + m), none⟩) (n + m - (i + m)) dc, .slice (some ⟨g, i, none⟩) (n - i) sc]).run P W2 = .ok (goInt (n - i)) (W2.setRow N A)) ∧
      Hid (n + m ≤ G ∧ G ≤ maxLen ∧ (W2.setRow N A).heap[w.heap.size]? = some (.cells A TE (0, 0)) ∧ A.size = G ∧ A.toList.take ((n + m)) = (cur.toList.take (n)).take (i) ++ us ++ (cur.toList.take (n)).drop (i) ∧ w.grownBy (W2.setRow N A) none) := by
  have hul2 : us.length = m := by rw [hul, List.length_take, Array.length_toList]; omega
  have hsz : (P.info? TE).map (·.size) = some 1 := by rw [hi0]; simp [hz0]
  have hgd : w.drew.heap[g]? = some (.cells cur TE (0, 0)) := hg
  have hgl : g < w.heap.size := (Array.getElem?_eq_some_iff.1 hg).1
  have hgvl : gv < w.heap.size := (Array.getElem?_eq_some_iff.1 hgv).1
  obtain ⟨olds, holds⟩ : ∃ olds, olds = (cur.toList.take (n)).take (i) := ⟨_, rfl⟩
  have hol : olds.length = i := by rw [holds]; simp [hs]; omega
  obtain ⟨G, hG⟩ : ∃ G, G = grownCap w (n + m) c TE := ⟨_, rfl⟩
  have hGn : n + m ≤ G := by rw [hG]; exact grownCap_ge w _ _ _
  have hGm : G ≤ maxLen := by rw [hG]; exact grownCap_le_maxLen w (n + m) c TE (by unfold maxLen; omega)
  obtain ⟨ROW, hROW⟩ : ∃ ROW : Array Value, ROW = olds.toArray ++ Builtin.zeroCells Z.cells (n + m - i) ++ Builtin.zeroCells Z.cells (G - (n + m)) := ⟨_, rfl⟩
  have hRl : ROW.size = G := by rw [hROW]; simp [Builtin.zeroCells, hol, hZK]; omega
  have hRt : ROW.toList.take (i) = olds := by
    rw [hROW]; simp only [Array.toList_append, List.append_assoc]
    rw [List.take_append_of_le_length (by simp [hol]), List.take_of_length_le (by simp [hol])]
  have hkk : (n : Int) + (m : Int) - (i : Int) = ((n + m - i : Nat) : Int) := by omega
  have hrz : ∀ ty, (Builtin.append_ #[TS, TI] ty #[.slice (some ⟨g, 0, none⟩) i c, .int .i64 ((n : Int) + (m : Int) - (i : Int))]).run P w =
      .ok (.slice (some ⟨w.heap.size, 0, none⟩) (n + m) G) (w.drew.alloc (.cells ROW TE)) := fun ty => by
    have h := Lib.run_append_grow_zeros (P := P) w TS TI ty TE i0 _ .i64 .i64 uS uI hi0 hz2 (some ⟨g, 0, none⟩) i c olds (by
      rw [hz0]
      exact run_firstCells_some w.drew 1 i ⟨g, 0, none⟩ i c olds (by rw [Nat.mul_one]; exact hol) (fun j v hj => by
        have hj2 := (List.getElem?_eq_some_iff.1 hj).1
        rw [holds, List.getElem?_take_of_lt (by omega), List.getElem?_take_of_lt (by omega), Array.getElem?_toList] at hj
        rw [Addr.add_lit, Nat.zero_add]
        simp only [World.cell?, hgd]
        exact hj)) (n + m - i) (by omega) (by omega) (by omega) (by omega) (by rw [hz1]; omega) (by rw [hz1, show i + (n + m - i) = n + m by omega]; exact growslice_fits hroom hbig)
    rw [show i + (n + m - i) = n + m by omega, ← hG, ← hROW] at h
    rw [hkk]
    exact h
  obtain ⟨N, hN⟩ : ∃ N, N = w.heap.size := ⟨_, rfl⟩
  rw [← hN] at hrz
  obtain ⟨W1, hW1⟩ : ∃ W1, W1 = w.drew.alloc (.cells ROW TE) := ⟨_, rfl⟩
  rw [← hW1] at hrz
  have hN1 : W1.heap[N]? = some (.cells ROW TE (0, 0)) := by rw [hW1, hN]; exact heap_alloc_new w.drew _
  have hold : ∀ b, b < w.heap.size → W1.heap[b]? = w.heap[b]? := fun b hb => by rw [hW1]; exact heap_alloc_old w.drew _ hb
  have hgr1 : w.grownBy W1 none := by rw [hW1]; exact ⟨rfl, rfl, rfl, by simp, fun k hk _ => heap_alloc_old w.drew _ hk⟩
  obtain ⟨R1, hR1⟩ : ∃ R1, R1 = (ROW.toList.take (i) ++ us ++ ROW.toList.drop (i + us.length)).toArray := ⟨_, rfl⟩
  have hR1s : R1.size = G := by rw [hR1]; simp [hul2, hRl]; omega
  have hcp1 : ∀ ty dc, (Builtin.copy_ #[TS, TS] ty #[.slice (some ⟨N, i, none⟩) (n + m - i) dc, .slice (some ⟨gv, 0, none⟩) m vc]).run P W1 = .ok (goInt m) (W1.setRow N R1) := fun ty dc => by
    have := cN_ (P := P) W1 TS TS ty TE 1 N (i) (n + m - i) dc ⟨gv, 0, none⟩ m vc ROW TE us uS hsz hN1 (by rw [hul2]; simp only [Nat.min_def]; split <;> omega)
      (fun j v hj => by
        have hj2 := (List.getElem?_eq_some_iff.1 hj).1
        rw [hul, List.getElem?_take_of_lt (by omega), Array.getElem?_toList] at hj
        rw [Addr.add_lit, Nat.zero_add]
        simp only [World.cell?, hold gv hgvl, hgv]
        exact hj) (by rw [hul2, hRl]; omega) h1u
    rw [this, hR1]
    congr 2
    simp only [Nat.min_def]; split <;> omega
  obtain ⟨W2, hW2⟩ : ∃ W2, W2 = (W1.setRow N R1).drew := ⟨_, rfl⟩
  have hN2 : W2.heap[N]? = some (.cells R1 TE (0, 0)) := by rw [hW2]; exact setRow_heap _ _ _ _ _ _ hN1
  have hg2 : W2.heap[g]? = some (.cells cur TE (0, 0)) := by
    rw [hW2]; show (W1.setRow N R1).heap[g]? = _
    rw [setRow_other _ _ _ _ (by omega), hold g hgl]; exact hg
  obtain ⟨mv, hmv2⟩ : ∃ mv, mv = (cur.toList.take (n)).drop (i) := ⟨_, rfl⟩
  have hml : mv.length = (n - i) := by rw [hmv2]; simp [hs]; omega
  obtain ⟨A, hA⟩ : ∃ A, A = (R1.toList.take ((i + m)) ++ mv ++ R1.toList.drop ((i + m) + mv.length)).toArray := ⟨_, rfl⟩
  have hcp2 : ∀ ty dc sc, (Builtin.copy_ #[TS, TS] ty #[.slice (some ⟨N, (i + m), none⟩) (n + m - (i + m)) dc, .slice (some ⟨g, i, none⟩) (n - i) sc]).run P W2 = .ok (goInt (n - i)) (W2.setRow N A) := fun ty dc sc => by
    have := cN_ (P := P) W2 TS TS ty TE 1 N ((i + m)) (n + m - (i + m)) dc ⟨g, i, none⟩ (n - i) sc R1 TE mv uS hsz hN2 (by rw [hml]; simp only [Nat.min_def]; split <;> omega)
      (fun j v hj => by
        have hj2 := (List.getElem?_eq_some_iff.1 hj).1
        rw [hmv2, List.getElem?_drop, List.getElem?_take_of_lt (by omega), Array.getElem?_toList] at hj
        rw [Addr.add_lit]
        simp only [World.cell?, hg2]
        exact hj) (by rw [hml, hR1s]; omega) (fun v hv => h1 v (by rw [hmv2] at hv; exact List.mem_of_mem_drop hv))
    rw [this, hA]
    congr 2
    simp only [Nat.min_def]; split <;> omega
  have kA : Hid (n + m ≤ G ∧ G ≤ maxLen ∧ (W2.setRow N A).heap[w.heap.size]? = some (.cells A TE (0, 0)) ∧ A.size = G ∧ A.toList.take ((n + m)) = (cur.toList.take (n)).take (i) ++ us ++ (cur.toList.take (n)).drop (i) ∧ w.grownBy (W2.setRow N A) none) := by
    refine ⟨hGn, hGm, by rw [← hN]; exact setRow_heap _ _ _ _ _ _ hN2, by rw [hA]; simp [hml, hR1s]; omega, ?_, ?_⟩
    · have e1 : R1.toList.take ((i + m)) = olds ++ us := by
        rw [hR1]; simp only [List.toList_toArray]
        rw [List.take_append_of_le_length (by simp [hul2, hRl]; omega), List.take_of_length_le (by simp [hul2, hRl]; omega), hRt]
      rw [hA]; simp only [List.toList_toArray]
      rw [e1, List.take_append_of_le_length (by simp [hol, hul2, hml]; omega), List.take_of_length_le (by simp [hol, hul2, hml]; omega), holds, hmv2]
    · refine ⟨by rw [hW2]; exact hgr1.os, by rw [hW2]; exact hgr1.tape, by rw [hW2]; exact hgr1.output, ?_, fun k hk hne => ?_⟩
      · have : (W2.setRow N A).heap.size = W1.heap.size := by rw [hW2]; simp [World.setRow, World.drew]
        rw [this]; exact hgr1.size
      · rw [setRow_other _ _ _ _ (by omega), hW2]
        show (W1.setRow N R1).heap[k]? = _
        rw [setRow_other _ _ _ _ (by omega)]; exact hold k hk
  exact ⟨G, N, W1, R1, W2, A, hN, hGn, hGm, hrz, hcp1, hW2.symm, hcp2, kA⟩
end
set_option maxRecDepth 1000000 in
theorem InsEnd278 (w : World) (S : Value) (n : Nat) (vals : List Value) (hS : w.ownsRow 0 9 1 S n vals) (gv m vc : Nat) (us : List Value) (hul : us.length = m) (hus : ∀ j u, us[j]? = some u → w.cell? ⟨gv, j, none⟩ = some u) (h1u : ∀ v ∈ us, v.oneCell' = true) (hm : 0 < m) (hb : (n + m) * 16 ≤ 140737488355328) :
    Calls Tryz.prog 278 #[S, .int .i64 n, .slice (some ⟨gv, 0, none⟩) m vc] w fun e w' => ∃ R, e = .returned R ∧ w'.ownsRow 0 9 1 R (n + m) (vals ++ us) ∧ fD_ w w' (fun b => cr_ S b ≠ 0) ∧
      ∀ b, cr_ R b ≠ 0 → (w.heap.size ≤ b ∨ cr_ S b ≠ 0) ∧ b < w'.heap.size := by
  obtain ⟨i0, hi0⟩ := Option.isSome_iff_exists.1 (show (Tryz.prog.info? 9).isSome = true by kernel_rfl)
  have hz0 : i0.size = 1 := by
    have : (Tryz.prog.info? 9).map (·.size) = some 1 := by kernel_rfl
    rw [hi0] at this; simpa using this
  have hz1 : i0.bytes = 16 := by
    have : (Tryz.prog.info? 9).map (·.bytes) = some 16 := by kernel_rfl
    rw [hi0] at this; simpa using this
  have hz2 : i0.zero = some (.string ByteArray.empty) := by
    have : (Tryz.prog.info? 9).bind (·.zero) = some (.string ByteArray.empty) := by kernel_rfl
    rw [hi0] at this; simpa using this
  have hz3 : ¬ ((m : Int) = 0) := by omega
  have mixed : Tryz.prog.follows .mixedOrders = true := by kernel_rfl
  have key : ∀ ty, ∃ v' w', (Builtin.append_ #[47, 47] ty #[S, .slice (some ⟨gv, 0, none⟩) m vc]).run Tryz.prog w = .ok v' w' ∧ w'.ownsRow 0 9 1 v' (n + m) (vals ++ us) ∧ fD_ w w' (fun b => cr_ S b ≠ 0) ∧
      ∀ b, cr_ v' b ≠ 0 → (w.heap.size ≤ b ∨ cr_ S b ≠ 0) ∧ b < w'.heap.size := fun ty => by
    have := dr_ (P := Tryz.prog) w 47 ty 9 i0 _ Tryz.underlying47 hi0 hz2 (by rw [hz0]; rfl) (by rw [hz0]; decide) S n vals (by rw [hz0]; exact hS) (.slice (some ⟨gv, 0, none⟩) m vc) m us (by rw [hz0, Nat.mul_one]; exact hul) (.inl ⟨_, _, rfl, fun j u h => by rw [Addr.add_lit, Nat.zero_add]; exact hus j u h⟩) h1u (by unfold maxLen; omega) (by rw [hz1]; exact hb)
    rw [hz0] at this
    exact this
  obtain ⟨v', w', k1, k2, k3⟩ := key 47
  rcases (dg_.1 hS).2 with ⟨rfl, rfl⟩ | ⟨g, c, cur, rfl, -, hg, hnc, hcm, hcs, htake⟩
  · clear key hS hus hz2 hi0 hz0 hz1
    go_enter Tryz.func278, Tryz.ntmps278
    go_wp2_with (at_builtin; refine Lib.wpList_append_run _ rfl _ _ 47 47 rfl _ _ rfl rfl _ _ k1 ?_)
    go_ret
    exact ⟨_, rfl, k2, k3⟩
  · clear key hS hus hz2 hg htake hcs hi0 hz0 hz1
    unfold maxLen at hcm
    go_enter Tryz.func278, Tryz.ntmps278
    go_wp2_with (at_builtin; refine Lib.wpList_append_run _ rfl _ _ 47 47 rfl _ _ rfl rfl _ _ k1 ?_)
    all_goals (go_ret; exact ⟨_, rfl, k2, k3⟩)
set_option maxRecDepth 1000000 in
theorem mE_ (w : World) (S : Value) (n i : Nat) (vals : List Value) (hS : w.ownsRow 0 9 1 S n vals) (U : Value) (us : List Value) (hU : w.ownsRow 0 9 1 U 0 us) (hi : i ≤ n) :
    Calls Tryz.prog 278 #[S, .int .i64 i, U] w fun e w' => e = .returned S ∧ w' = w := by
  rcases (dg_.1 hS).2 with ⟨rfl, rfl⟩ | ⟨g, c, cur, rfl, -, hg, hnc, hcm, hcs, htake⟩
  · have hi0 : i = 0 := by omega
    subst hi0
    rcases (dg_.1 hU).2 with ⟨rfl, -⟩ | ⟨gv, vc, curv, rfl, -, hgv, hmc, hcm, hcs, htake⟩
    · clear hS hU
      go_enter Tryz.func278, Tryz.ntmps278
      go_wp2_with fail
      go_ret
      exact ⟨rfl, rfl⟩
    · clear hS hU hgv hcs htake
      go_enter Tryz.func278, Tryz.ntmps278
      go_wp2_with fail
      go_ret
      exact ⟨rfl, rfl⟩
  · unfold maxLen at hcm
    have hic : i ≤ c := by omega
    rcases (dg_.1 hU).2 with ⟨rfl, -⟩ | ⟨gv, vc, curv, rfl, -, hgv, hmc, hcm2, hcs2, htake2⟩
    · clear hS hU hg hcs htake
      go_enter Tryz.func278, Tryz.ntmps278
      go_wp2_with fail
      all_goals (go_ret; exact ⟨rfl, rfl⟩)
    · clear hS hU hg hcs htake hgv hcs2 htake2
      go_enter Tryz.func278, Tryz.ntmps278
      go_wp2_with fail
      all_goals (go_ret; exact ⟨rfl, rfl⟩)
set_option maxRecDepth 1000000 in
theorem k6_ (w : World) (g n c i : Nat) (cur : Array Value) (hg : w.heap[g]? = some (.cells cur 9 (0, 0))) (hs : cur.size = c) (hc : c ≤ 9223372036854775807) (hi : i < n)
    (gv m vc : Nat) (curv : Array Value) (Tv : TypeId) (hgv : w.heap[gv]? = some (.cells curv Tv (0, 0))) (hmv : m ≤ curv.size) (hne : gv ≠ g) (us : List Value) (hul : us = curv.toList.take (m)) (h1u : ∀ v ∈ us, v.oneCell' = true) (hm : 0 < m) (hroom : n + m ≤ c)
    (h1 : ∀ v ∈ cur.toList.take (n), v.oneCell' = true) :
    Calls Tryz.prog 278 #[.slice (some ⟨g, 0, none⟩) n c, .int .i64 i, .slice (some ⟨gv, 0, none⟩) m vc] w fun e w' => e = .returned (.slice (some ⟨g, 0, none⟩) (n + m) c) ∧
      ∃ A, w' = w.drew.setRow g A ∧ A.size = cur.size ∧ A.toList.take ((n + m)) = (cur.toList.take (n)).take (i) ++ us ++ (cur.toList.take (n)).drop (i) := by
  have hsz : (Tryz.prog.info? 9).map (·.size) = some 1 := by kernel_rfl
  have hul2 : us.length = m := by rw [hul, List.length_take, Array.length_toList]; omega
  have hov : ∀ lb cb, (callFunc 302 #[.slice (some ⟨gv, 0, none⟩) m vc, .slice (some ⟨g, (i + m), none⟩) lb cb]).run Tryz.prog w = .ok (.value (.bool false)) w := fun lb cb => by
    rw [run_callFunc_extern Tryz.func302 (by kernel_rfl) (by kernel_rfl) (by kernel_rfl) (e := Extern.SlicesOverlaps.overlaps #[47, 47] #[4]) (by kernel_rfl),
      Lib.run_overlaps_apart w 47 4 9 Tryz.underlying47 1 Tryz.sizeOf9 ⟨gv, 0, none⟩ ⟨g, (i + m), none⟩ m vc lb cb hne Tv 9 curv.size cur.size (by simp [World.shape?, hgv]) (by simp [World.shape?, hg]) (by omega) (by simp [World.frozen?, hgv]) (by simp [World.frozen?, hgv])]
    rfl
  obtain ⟨mv, hmv2⟩ : ∃ mv, mv = (cur.toList.take (n)).drop (i) := ⟨_, rfl⟩
  have hml : mv.length = (n - i) := by rw [hmv2]; simp [hs]; omega
  have hgd : w.drew.heap[g]? = some (.cells cur 9 (0, 0)) := hg
  obtain ⟨B, hB⟩ : ∃ B, B = (cur.toList.take ((i + m)) ++ mv ++ cur.toList.drop ((i + m) + mv.length)).toArray := ⟨_, rfl⟩
  have hcp1 : ∀ ty dc sc, (Builtin.copy_ #[47, 47] ty #[.slice (some ⟨g, (i + m), none⟩) (n + m - (i + m)) dc, .slice (some ⟨g, i, none⟩) (n + m - i) sc]).run Tryz.prog w.drew = .ok (goInt (n - i)) (w.drew.setRow g B) := fun ty dc sc => by
    have := cN_ (P := Tryz.prog) w.drew 47 47 ty 9 1 g ((i + m)) (n + m - (i + m)) dc ⟨g, i, none⟩ (n + m - i) sc cur 9 mv Tryz.underlying47 hsz hgd (by rw [hml]; simp only [Nat.min_def]; split <;> omega)
      (fun j v hj => by
        have hj2 := (List.getElem?_eq_some_iff.1 hj).1
        rw [hmv2, List.getElem?_drop, List.getElem?_take_of_lt (by omega), Array.getElem?_toList] at hj
        rw [Addr.add_lit]
        simp only [World.cell?, hgd]
        exact hj) (by rw [hml, hs]; omega) (fun v hv => h1 v (by rw [hmv2] at hv; exact List.mem_of_mem_drop hv))
    rw [this, hB]
    congr 2
    simp only [Nat.min_def]; split <;> omega
  have hBs : B.size = cur.size := by rw [hB]; simp [hml, hs]; omega
  have hgB : (w.drew.setRow g B).heap[g]? = some (.cells B 9 (0, 0)) := setRow_heap _ _ _ _ _ _ hgd
  obtain ⟨A, hA⟩ : ∃ A, A = (B.toList.take (i) ++ us ++ B.toList.drop (i + us.length)).toArray := ⟨_, rfl⟩
  have hcp2 : ∀ ty dc, (Builtin.copy_ #[47, 47] ty #[.slice (some ⟨g, i, none⟩) (n + m - i) dc, .slice (some ⟨gv, 0, none⟩) m vc]).run Tryz.prog (w.drew.setRow g B) = .ok (goInt m) (w.drew.setRow g A) := fun ty dc => by
    have := cN_ (P := Tryz.prog) (w.drew.setRow g B) 47 47 ty 9 1 g (i) (n + m - i) dc ⟨gv, 0, none⟩ m vc B 9 us Tryz.underlying47 hsz hgB (by rw [hul2]; simp only [Nat.min_def]; split <;> omega)
      (fun j v hj => by
        have hj2 := (List.getElem?_eq_some_iff.1 hj).1
        rw [hul, List.getElem?_take_of_lt (by omega), Array.getElem?_toList] at hj
        rw [Addr.add_lit, Nat.zero_add]
        have e : (w.drew.setRow g B).heap[gv]? = some (.cells curv Tv (0, 0)) := by rw [setRow_other _ _ _ _ hne]; exact hgv
        simp only [World.cell?, e]
        exact hj) (by rw [hul2, hBs, hs]; omega) h1u
    rw [this, hA, setRow_setRow]
    congr 2
    simp only [Nat.min_def]; split <;> omega
  have kA : Hid (A.size = cur.size ∧ A.toList.take ((n + m)) = (cur.toList.take (n)).take (i) ++ us ++ mv) := by
    have e1 : B.toList.take (i) = (cur.toList.take (n)).take (i) := by
      rw [hB]; simp only [List.toList_toArray, List.append_assoc]
      rw [List.take_append_of_le_length (by simp [hs]; omega), List.take_take, List.take_take]
      congr 1; omega
    have e2 : (B.toList.drop (i + us.length)).take mv.length = mv := by
      rw [hB]; simp only [List.toList_toArray, List.append_assoc]
      rw [List.drop_append, List.drop_eq_nil_of_le (by simp [hul2, hs]; omega), List.nil_append, List.length_take, show i + us.length - min ((i + m)) cur.toList.length = 0 by simp [hul2, hs]; omega, List.drop_zero, List.take_append_of_le_length (Nat.le_refl _), List.take_of_length_le (Nat.le_refl _)]
    refine ⟨by rw [hA]; simp [hul2, hBs, hs]; omega, ?_⟩
    rw [hA]; simp only [List.toList_toArray]
    rw [List.take_append, List.take_of_length_le (by simp [hul2, hBs, hs]; omega), e1]
    congr 1
    rw [show (n + m) - (List.take (i) (List.take (n) cur.toList) ++ us).length = mv.length by simp [hul2, hml, hs]; omega]
    exact e2
  rw [hmv2] at kA
  have hnc : n ≤ c := by omega
  have hic : i ≤ c := by omega
  have hz1 : ¬ ((m : Int) = 0) := by omega
  have hz2 : ¬ ((i : Int) = (n : Int)) := by omega
  have mixed : Tryz.prog.follows .mixedOrders = true := by kernel_rfl
  have hw1 : IntKind.i64.wrap ((i : Int) + (m : Int)) = (i : Int) + (m : Int) := by rw [IntKind.wrap_i64]; omega
  have hb1 : (0 : Int) ≤ (i : Int) + (m : Int) := by omega
  have hin : i ≤ n := by omega
  have htn : ((i : Int) + (m : Int)).toNat = i + m := by omega
  have hb2 : ¬ (c = i + m) := by omega
  have hb3 : (i : Int) ≤ (n : Int) + (m : Int) := by omega
  have hb4 : ¬ (c = i) := by omega
  clear hB hBs hgB hA hmv2 hml hgd hg hgv hul hul2 h1 h1u hsz hs hmv
  go_enter Tryz.func278, Tryz.ntmps278
  go_wp2_with (simp only [hov])
  go_region_law_o (refine da_ rfl _ _ 47 47 rfl _ _ (by simp [Act.eval, Act.put]) (by simp [Act.eval, Act.put]) (hcp1 _ _ _) ?_)
  go_wp2_with (at_builtin; refine dK_ _ rfl _ _ 47 47 rfl _ _ rfl rfl (hcp2 _ _) ?_)
  go_ret
  exact ⟨rfl, A, rfl, kA.out.1, kA.out.2⟩
set_option maxRecDepth 1000000 in
theorem mH_ (w : World) (g n c i : Nat) (cur : Array Value) (hg : w.heap[g]? = some (.cells cur 9 (0, 0))) (hs : cur.size = c) (hnc : n ≤ c) (hi : i < n)
    (gv m vc : Nat) (curv : Array Value) (Tv : TypeId) (hgv : w.heap[gv]? = some (.cells curv Tv (0, 0))) (hmv : m ≤ curv.size) (us : List Value) (hul : us = curv.toList.take (m)) (h1u : ∀ v ∈ us, v.oneCell' = true) (hm : 0 < m) (hroom : c < n + m)
    (hbig : (n + m) * 16 ≤ 140737488355328) (h1 : ∀ v ∈ cur.toList.take (n), v.oneCell' = true) :
    Calls Tryz.prog 278 #[.slice (some ⟨g, 0, none⟩) n c, .int .i64 i, .slice (some ⟨gv, 0, none⟩) m vc] w fun e w' => ∃ C A, e = .returned (.slice (some ⟨w.heap.size, 0, none⟩) (n + m) C) ∧ n + m ≤ C ∧ C ≤ maxLen ∧
      w'.heap[w.heap.size]? = some (.cells A 9 (0, 0)) ∧ A.size = C ∧ A.toList.take ((n + m)) = (cur.toList.take (n)).take (i) ++ us ++ (cur.toList.take (n)).drop (i) ∧ w.grownBy w' none := by
  obtain ⟨i0, hi0⟩ := Option.isSome_iff_exists.1 (show (Tryz.prog.info? 9).isSome = true by kernel_rfl)
  have hz0 : i0.size = 1 := by
    have : (Tryz.prog.info? 9).map (·.size) = some 1 := by kernel_rfl
    rw [hi0] at this; simpa using this
  have hz1 : i0.bytes = 16 := by
    have : (Tryz.prog.info? 9).map (·.bytes) = some 16 := by kernel_rfl
    rw [hi0] at this; simpa using this
  have hz2 : i0.zero = some (.string ByteArray.empty) := by
    have : (Tryz.prog.info? 9).bind (·.zero) = some (.string ByteArray.empty) := by kernel_rfl
    rw [hi0] at this; simpa using this
  obtain ⟨G, N, W1, R1, W2, A, hNN, hGn, hGm, hrz, hcp1, hW2', hcp2, kA⟩ := mh_ 47 9 3 _ i0 Tryz.underlying47 Tryz.underlying3 hi0 hz2 hz0 hz1 rfl w g n c i cur hg hs hnc hi gv m vc curv Tv hgv hmv us hul h1u hm hroom hbig h1
  have hic : i ≤ c := by omega
  have hz3 : ¬ ((m : Int) = 0) := by omega
  have hz4 : ¬ ((i : Int) = (n : Int)) := by omega
  have hz5 : (c : Int) < (n : Int) + (m : Int) := by omega
  have mixed : Tryz.prog.follows .mixedOrders = true := by kernel_rfl
  have hG63 : G ≤ 9223372036854775807 := by unfold maxLen at hGm; omega
  have hw1 : IntKind.i64.wrap ((n : Int) + (m : Int)) = (n : Int) + (m : Int) := by rw [IntKind.wrap_i64]; omega
  have hw2 : IntKind.i64.wrap ((n : Int) + (m : Int) - (i : Int)) = (n : Int) + (m : Int) - (i : Int) := by rw [IntKind.wrap_i64]; omega
  have hw3 : IntKind.i64.wrap ((i : Int) + (m : Int)) = (i : Int) + (m : Int) := by rw [IntKind.wrap_i64]; omega
  have hb1 : (0 : Int) ≤ (i : Int) + (m : Int) := by omega
  have htn : ((i : Int) + (m : Int)).toNat = i + m := by omega
  have hGi : ¬ (G = i) := by omega
  have hGim : ¬ (G = i + m) := by omega
  have hb3 : (i : Int) ≤ (n : Int) + (m : Int) := by omega
  have hb4 : ¬ (c = i) := by omega
  have hinm : i ≤ n + m := by omega
  have himn : i + m ≤ n + m := by omega
  have hin : i ≤ n := by omega
  clear hul h1 h1u hg hgv hs hmv hz0 hz1 hz2 hi0 hbig
  go_enter Tryz.func278, Tryz.ntmps278
  go_wp2_with (at_builtin; refine Lib.wpList_append_run _ rfl _ _ 47 3 rfl _ _ rfl rfl _ _ (hrz _) ?_)
  go_region_law_o (simp only [hW2']; refine da_ rfl _ _ 47 47 rfl _ _ (by simp [Act.eval, Act.put]) (by simp [Act.eval, Act.put]) (hcp2 _ _ _) ?_)
  go_wp2_with fail
  go_ret
  exact ⟨G, A, by rw [hNN.out]; rfl, kA.out⟩
theorem insM278 : InsM Tryz.prog 278 9 1 16 := by
  intro w S n vals U m us i hS hU hdis hi h1 h1u hb
  simp only [Nat.mul_one]
  have hvl := (dg_.1 hS).1
  by_cases hm : m = 0
  · subst hm
    have hus : us = [] := by have := (dg_.1 hU).1; (try rw [Nat.zero_mul] at this); exact List.eq_nil_of_length_eq_zero this
    subst hus
    refine (mE_ w S n i vals hS U [] hU hi).mono ?_
    rintro e w' ⟨rfl, rfl⟩
    refine ⟨S, rfl, by rw [List.append_nil, List.take_append_drop]; exact hS, ⟨rfl, rfl, rfl, Nat.le_refl _, fun _ _ _ => rfl⟩, fun b hb => ⟨.inr hb, iE_ hS b hb⟩⟩
  · rcases (dg_.1 hU).2 with ⟨rfl, h0⟩ | ⟨gv, vc, curv, rfl, -, hgv, hmc, hcm, hcs, htake⟩
    · exact absurd h0 hm
    · by_cases hin : i = n
      · subst hin
        rw [List.take_of_length_le (by omega), List.drop_eq_nil_of_le (by omega), List.append_nil]
        exact InsEnd278 w S i vals hS gv m vc us (dg_.1 hU).1 (fun j u h => by have := hU.cells (g := gv) rfl j u h; rwa [Addr.add_lit, Nat.zero_add] at this) h1u (by omega) hb
      · rcases (dg_.1 hS).2 with ⟨rfl, h0⟩ | ⟨g, c, cur, rfl, -, hg, hnc, hcm', hcs', htake'⟩
        · omega
        · have hne : gv ≠ g := fun e => by subst e; have := hdis gv (by simp [cr_]); simp [cr_] at this
          have hmv : m ≤ curv.size := by rw [hcs]; exact hmc
          by_cases hroom : n + m ≤ c
          · refine (k6_ w g n c i cur hg hcs' (by unfold maxLen at hcm'; omega) (by omega) gv m vc curv 9 hgv hmv hne us htake.symm h1u (by omega) hroom (by rw [htake']; exact h1)).mono ?_
            rintro e w' ⟨rfl, A, rfl, hA, ht⟩
            rw [htake'] at ht
            have hgd : w.drew.heap[g]? = some (.cells cur 9 (0, 0)) := hg
            have hA2 := setRow_heap w.drew g cur A _ _ hgd
            refine ⟨_, rfl, dg_.2 ⟨by rw [← ht]; simp [hA, hcs']; omega, .inr ⟨g, c, A, rfl, Nat.zero_le _, hA2, hroom, hcm', by rw [hA, hcs'], ht⟩⟩, ⟨rfl, rfl, rfl, f5_ w g A, fun b _ hn => ?_⟩, fun b hb => ⟨.inr hb, ?_⟩⟩
            · rw [setRow_other _ _ _ _ (fun e => hn (by subst e; simp [cr_]))]; rfl
            · have : g = b := by simp only [cr_] at hb; exact Classical.byContradiction fun h => hb (if_neg h)
              subst this
              exact (Array.getElem?_eq_some_iff.1 hA2).1
          · refine (mH_ w g n c i cur hg hcs' hnc (by omega) gv m vc curv 9 hgv hmv us htake.symm h1u (by omega) (by omega) hb (by rw [htake']; exact h1)).mono ?_
            rintro e w' ⟨C, A, rfl, hC, hCm, hN, hA, ht, hgr⟩
            rw [htake'] at ht
            refine ⟨_, rfl, dg_.2 ⟨by rw [← ht]; simp [hA]; omega, .inr ⟨_, C, A, rfl, Nat.zero_le _, hN, hC, hCm, hA, ht⟩⟩, ⟨hgr.os, hgr.tape, hgr.output, hgr.size, fun b hb _ => hgr.block b hb (by simp)⟩, fun b hb => ?_⟩
            have : w.heap.size = b := by simp only [cr_] at hb; exact Classical.byContradiction fun h => hb (if_neg h)
            subst this
            exact ⟨.inl (Nat.le_refl _), (Array.getElem?_eq_some_iff.1 hN).1⟩
end Go.Proofs
namespace Go.Pi
open Go.Proofs
theorem bq_.ok (n : Nat) (_ : CxOk E (cx n bq_.d.nt)) (_ : KPar (cx n bq_.d.nt)) : bq_.d.Ok E (bq_.F (n + 1)) := fun _ _ h => kz_ (t := .str) (m1 := .d) (m2 := .d) (by decide) (by decide) insM278 h
end Go.Pi
end
section
set_option linter.unusedVariables false
set_option linter.unusedSimpArgs false
namespace Go.Proofs
open Go.Shelf Go.RowKit Go.Lib Go.Pi
section
variable {P : Program}
theorem mg_ (TS TE : TypeId) (TI : TypeId) (Z : Value) (i0 : TypeInfo) (uS : P.underlying TS = some (.slice TE)) (uI : P.underlying TI = some (.int .i64)) (hi0 : P.info? TE = some i0) (hz2 : i0.zero = some Z) (hz0 : i0.size = 5) (hz1 : i0.bytes = 80) (hZK : Z.cells.size = 5)
    (w : World) (g n c i : Nat) (cur : Array Value) (hg : w.heap[g]? = some (.cells cur TE (0, 0))) (hs : cur.size = c * 5) (hnc : n ≤ c) (hi : i < n)
    (gv m vc : Nat) (curv : Array Value) (Tv : TypeId) (hgv : w.heap[gv]? = some (.cells curv Tv (0, 0))) (hmv : m * 5 ≤ curv.size) (us : List Value) (hul : us = curv.toList.take (m * 5)) (h1u : ∀ v ∈ us, v.oneCell' = true) (hm : 0 < m) (hroom : c < n + m)
    (hbig : (n + m) * 80 ≤ 140737488355328) (h1 : ∀ v ∈ cur.toList.take (n * 5), v.oneCell' = true) :
    ∃ G N W1 R1 W2 A, Hid (N = w.heap.size) ∧ n + m ≤ G ∧ G ≤ maxLen ∧
      (∀ ty, (Builtin.append_ #[TS, TI] ty #[.slice (some ⟨g, 0, none⟩) i c, .int .i64 ((n : Int) + (m : Int) - (i : Int))]).run P w = .ok (.slice (some ⟨N, 0, none⟩) (n + m) G) W1) ∧
      (∀ ty dc, (Builtin.copy_ #[TS, TS] ty #[.slice (some ⟨N, i * 5, none⟩) (n + m - i) dc, .slice (some ⟨gv, 0, none⟩) m vc]).run P W1 = .ok (goInt m) (W1.setRow N R1)) ∧
      (W1.setRow N R1).drew = W2 ∧
      (∀ ty dc sc, (Builtin.copy_ #[TS, TS] ty #[.slice (some ⟨N, (i + m) * 5, none⟩) (n + m - (i + m)) dc, .slice (some ⟨g, i * 5, none⟩) (n - i) sc]).run P W2 = .ok (goInt (n - i)) (W2.setRow N A)) ∧
      Hid (n + m ≤ G ∧ G ≤ maxLen ∧ (W2.setRow N A).heap[w.heap.size]? = some (.cells A TE (0, 0)) ∧ A.size = G * 5 ∧ A.toList.take ((n + m) * 5) = (cur.toList.take (n * 5)).take (i * 5) ++ us ++ (cur.toList.take (n * 5)).drop (i * 5) ∧ w.grownBy (W2.setRow N A) none) := by
  have hul2 : us.length = m * 5 := by rw [hul, List.length_take, Array.length_toList]; omega
  have hsz : (P.info? TE).map (·.size) = some 5 := by rw [hi0]; simp [hz0]
  have hgd : w.drew.heap[g]? = some (.cells cur TE (0, 0)) := hg
  have hgl : g < w.heap.size := (Array.getElem?_eq_some_iff.1 hg).1
  have hgvl : gv < w.heap.size := (Array.getElem?_eq_some_iff.1 hgv).1
  obtain ⟨olds, holds⟩ : ∃ olds, olds = (cur.toList.take (n * 5)).take (i * 5) := ⟨_, rfl⟩
  have hol : olds.length = i * 5 := by rw [holds]; simp [hs]; omega
  obtain ⟨G, hG⟩ : ∃ G, G = grownCap w (n + m) c TE := ⟨_, rfl⟩
  have hGn : n + m ≤ G := by rw [hG]; exact grownCap_ge w _ _ _
  have hGm : G ≤ maxLen := by rw [hG]; exact grownCap_le_maxLen w (n + m) c TE (by unfold maxLen; omega)
  obtain ⟨ROW, hROW⟩ : ∃ ROW : Array Value, ROW = olds.toArray ++ Builtin.zeroCells Z.cells (n + m - i) ++ Builtin.zeroCells Z.cells (G - (n + m)) := ⟨_, rfl⟩
  have hRl : ROW.size = G * 5 := by rw [hROW]; simp [Builtin.zeroCells, hol, hZK]; omega
  have hRt : ROW.toList.take (i * 5) = olds := by
    rw [hROW]; simp only [Array.toList_append, List.append_assoc]
    rw [List.take_append_of_le_length (by simp [hol]), List.take_of_length_le (by simp [hol])]
  have hkk : (n : Int) + (m : Int) - (i : Int) = ((n + m - i : Nat) : Int) := by omega
  have hrz : ∀ ty, (Builtin.append_ #[TS, TI] ty #[.slice (some ⟨g, 0, none⟩) i c, .int .i64 ((n : Int) + (m : Int) - (i : Int))]).run P w =
      .ok (.slice (some ⟨w.heap.size, 0, none⟩) (n + m) G) (w.drew.alloc (.cells ROW TE)) := fun ty => by
    have h := Lib.run_append_grow_zeros (P := P) w TS TI ty TE i0 _ .i64 .i64 uS uI hi0 hz2 (some ⟨g, 0, none⟩) i c olds (by
      rw [hz0]
      exact run_firstCells_some w.drew 5 i ⟨g, 0, none⟩ i c olds hol (fun j v hj => by
        have hj2 := (List.getElem?_eq_some_iff.1 hj).1
        rw [holds, List.getElem?_take_of_lt (by omega), List.getElem?_take_of_lt (by omega), Array.getElem?_toList] at hj
        rw [Addr.add_lit, Nat.zero_add]
        simp only [World.cell?, hgd]
        exact hj)) (n + m - i) (by omega) (by omega) (by omega) (by omega) (by rw [hz1]; omega) (by rw [hz1, show i + (n + m - i) = n + m by omega]; exact growslice_fits hroom hbig)
    rw [show i + (n + m - i) = n + m by omega, ← hG, ← hROW] at h
    rw [hkk]
    exact h
  obtain ⟨N, hN⟩ : ∃ N, N = w.heap.size := ⟨_, rfl⟩
  rw [← hN] at hrz
  obtain ⟨W1, hW1⟩ : ∃ W1, W1 = w.drew.alloc (.cells ROW TE) := ⟨_, rfl⟩
  rw [← hW1] at hrz
  have hN1 : W1.heap[N]? = some (.cells ROW TE (0, 0)) := by rw [hW1, hN]; exact heap_alloc_new w.drew _
  have hold : ∀ b, b < w.heap.size → W1.heap[b]? = w.heap[b]? := fun b hb => by rw [hW1]; exact heap_alloc_old w.drew _ hb
  have hgr1 : w.grownBy W1 none := by rw [hW1]; exact ⟨rfl, rfl, rfl, by simp, fun k hk _ => heap_alloc_old w.drew _ hk⟩
  obtain ⟨R1, hR1⟩ : ∃ R1, R1 = (ROW.toList.take (i * 5) ++ us ++ ROW.toList.drop (i * 5 + us.length)).toArray := ⟨_, rfl⟩
  have hR1s : R1.size = G * 5 := by rw [hR1]; simp [hul2, hRl]; omega
  have hcp1 : ∀ ty dc, (Builtin.copy_ #[TS, TS] ty #[.slice (some ⟨N, i * 5, none⟩) (n + m - i) dc, .slice (some ⟨gv, 0, none⟩) m vc]).run P W1 = .ok (goInt m) (W1.setRow N R1) := fun ty dc => by
    have := cN_ (P := P) W1 TS TS ty TE 5 N (i * 5) (n + m - i) dc ⟨gv, 0, none⟩ m vc ROW TE us uS hsz hN1 (by rw [hul2]; simp only [Nat.min_def]; split <;> omega)
      (fun j v hj => by
        have hj2 := (List.getElem?_eq_some_iff.1 hj).1
        rw [hul, List.getElem?_take_of_lt (by omega), Array.getElem?_toList] at hj
        rw [Addr.add_lit, Nat.zero_add]
        simp only [World.cell?, hold gv hgvl, hgv]
        exact hj) (by rw [hul2, hRl]; omega) h1u
    rw [this, hR1]
    congr 2
    simp only [Nat.min_def]; split <;> omega
  obtain ⟨W2, hW2⟩ : ∃ W2, W2 = (W1.setRow N R1).drew := ⟨_, rfl⟩
  have hN2 : W2.heap[N]? = some (.cells R1 TE (0, 0)) := by rw [hW2]; exact setRow_heap _ _ _ _ _ _ hN1
  have hg2 : W2.heap[g]? = some (.cells cur TE (0, 0)) := by
    rw [hW2]; show (W1.setRow N R1).heap[g]? = _
    rw [setRow_other _ _ _ _ (by omega), hold g hgl]; exact hg
  obtain ⟨mv, hmv2⟩ : ∃ mv, mv = (cur.toList.take (n * 5)).drop (i * 5) := ⟨_, rfl⟩
  have hml : mv.length = (n - i) * 5 := by rw [hmv2]; simp [hs]; omega
  obtain ⟨A, hA⟩ : ∃ A, A = (R1.toList.take ((i + m) * 5) ++ mv ++ R1.toList.drop ((i + m) * 5 + mv.length)).toArray := ⟨_, rfl⟩
  have hcp2 : ∀ ty dc sc, (Builtin.copy_ #[TS, TS] ty #[.slice (some ⟨N, (i + m) * 5, none⟩) (n + m - (i + m)) dc, .slice (some ⟨g, i * 5, none⟩) (n - i) sc]).run P W2 = .ok (goInt (n - i)) (W2.setRow N A) := fun ty dc sc => by
    have := cN_ (P := P) W2 TS TS ty TE 5 N ((i + m) * 5) (n + m - (i + m)) dc ⟨g, i * 5, none⟩ (n - i) sc R1 TE mv uS hsz hN2 (by rw [hml]; simp only [Nat.min_def]; split <;> omega)
      (fun j v hj => by
        have hj2 := (List.getElem?_eq_some_iff.1 hj).1
        rw [hmv2, List.getElem?_drop, List.getElem?_take_of_lt (by omega), Array.getElem?_toList] at hj
        rw [Addr.add_lit]
        simp only [World.cell?, hg2]
        exact hj) (by rw [hml, hR1s]; omega) (fun v hv => h1 v (by rw [hmv2] at hv; exact List.mem_of_mem_drop hv))
    rw [this, hA]
    congr 2
    simp only [Nat.min_def]; split <;> omega
  have kA : Hid (n + m ≤ G ∧ G ≤ maxLen ∧ (W2.setRow N A).heap[w.heap.size]? = some (.cells A TE (0, 0)) ∧ A.size = G * 5 ∧ A.toList.take ((n + m) * 5) = (cur.toList.take (n * 5)).take (i * 5) ++ us ++ (cur.toList.take (n * 5)).drop (i * 5) ∧ w.grownBy (W2.setRow N A) none) := by
    refine ⟨hGn, hGm, by rw [← hN]; exact setRow_heap _ _ _ _ _ _ hN2, by rw [hA]; simp [hml, hR1s]; omega, ?_, ?_⟩
    · have e1 : R1.toList.take ((i + m) * 5) = olds ++ us := by
        rw [hR1]; simp only [List.toList_toArray]
        rw [List.take_append_of_le_length (by simp [hul2, hRl]; omega), List.take_of_length_le (by simp [hul2, hRl]; omega), hRt]
      rw [hA]; simp only [List.toList_toArray]
      rw [e1, List.take_append_of_le_length (by simp [hol, hul2, hml]; omega), List.take_of_length_le (by simp [hol, hul2, hml]; omega), holds, hmv2]
    · refine ⟨by rw [hW2]; exact hgr1.os, by rw [hW2]; exact hgr1.tape, by rw [hW2]; exact hgr1.output, ?_, fun k hk hne => ?_⟩
      · have : (W2.setRow N A).heap.size = W1.heap.size := by rw [hW2]; simp [World.setRow, World.drew]
        rw [this]; exact hgr1.size
      · rw [setRow_other _ _ _ _ (by omega), hW2]
        show (W1.setRow N R1).heap[k]? = _
        rw [setRow_other _ _ _ _ (by omega)]; exact hold k hk
  exact ⟨G, N, W1, R1, W2, A, hN, hGn, hGm, hrz, hcp1, hW2.symm, hcp2, kA⟩
end
set_option maxRecDepth 1000000 in
theorem InsEnd279 (w : World) (S : Value) (n : Nat) (vals : List Value) (hS : w.ownsRow 0 49 5 S n vals) (gv m vc : Nat) (us : List Value) (hul : us.length = m * 5) (hus : ∀ j u, us[j]? = some u → w.cell? ⟨gv, j, none⟩ = some u) (h1u : ∀ v ∈ us, v.oneCell' = true) (hm : 0 < m) (hb : (n + m) * 80 ≤ 140737488355328) :
    Calls Tryz.prog 279 #[S, .int .i64 n, .slice (some ⟨gv, 0, none⟩) m vc] w fun e w' => ∃ R, e = .returned R ∧ w'.ownsRow 0 49 5 R (n + m) (vals ++ us) ∧ fD_ w w' (fun b => cr_ S b ≠ 0) ∧
      ∀ b, cr_ R b ≠ 0 → (w.heap.size ≤ b ∨ cr_ S b ≠ 0) ∧ b < w'.heap.size := by
  obtain ⟨i0, hi0⟩ := Option.isSome_iff_exists.1 (show (Tryz.prog.info? 49).isSome = true by kernel_rfl)
  have hz0 : i0.size = 5 := by
    have : (Tryz.prog.info? 49).map (·.size) = some 5 := by kernel_rfl
    rw [hi0] at this; simpa using this
  have hz1 : i0.bytes = 80 := by
    have : (Tryz.prog.info? 49).map (·.bytes) = some 80 := by kernel_rfl
    rw [hi0] at this; simpa using this
  have hz2 : i0.zero = some (.agg #[.int .i64 0, .int .i64 0, .string ByteArray.empty, .slice none 0 0, .slice none 0 0]) := by
    have : (Tryz.prog.info? 49).bind (·.zero) = some (.agg #[.int .i64 0, .int .i64 0, .string ByteArray.empty, .slice none 0 0, .slice none 0 0]) := by kernel_rfl
    rw [hi0] at this; simpa using this
  have hz3 : ¬ ((m : Int) = 0) := by omega
  have mixed : Tryz.prog.follows .mixedOrders = true := by kernel_rfl
  have key : ∀ ty, ∃ v' w', (Builtin.append_ #[46, 46] ty #[S, .slice (some ⟨gv, 0, none⟩) m vc]).run Tryz.prog w = .ok v' w' ∧ w'.ownsRow 0 49 5 v' (n + m) (vals ++ us) ∧ fD_ w w' (fun b => cr_ S b ≠ 0) ∧
      ∀ b, cr_ v' b ≠ 0 → (w.heap.size ≤ b ∨ cr_ S b ≠ 0) ∧ b < w'.heap.size := fun ty => by
    have := dr_ (P := Tryz.prog) w 46 ty 49 i0 _ Tryz.underlying46 hi0 hz2 (by rw [hz0]; rfl) (by rw [hz0]; decide) S n vals (by rw [hz0]; exact hS) (.slice (some ⟨gv, 0, none⟩) m vc) m us (by rw [hz0]; exact hul) (.inl ⟨_, _, rfl, fun j u h => by rw [Addr.add_lit, Nat.zero_add]; exact hus j u h⟩) h1u (by unfold maxLen; omega) (by rw [hz1]; exact hb)
    rw [hz0] at this
    exact this
  obtain ⟨v', w', k1, k2, k3⟩ := key 46
  rcases hS.2 with ⟨rfl, rfl⟩ | ⟨g, c, cur, rfl, -, hg, hnc, hcm, hcs, htake⟩
  · clear key hS hus hz2 hi0 hz0 hz1
    go_enter Tryz.func279, Tryz.ntmps279
    go_wp2_with (at_builtin; refine Lib.wpList_append_run _ rfl _ _ 46 46 rfl _ _ rfl rfl _ _ k1 ?_)
    go_ret
    exact ⟨_, rfl, k2, k3⟩
  · clear key hS hus hz2 hg htake hcs hi0 hz0 hz1
    unfold maxLen at hcm
    go_enter Tryz.func279, Tryz.ntmps279
    go_wp2_with (at_builtin; refine Lib.wpList_append_run _ rfl _ _ 46 46 rfl _ _ rfl rfl _ _ k1 ?_)
    all_goals (go_ret; exact ⟨_, rfl, k2, k3⟩)
set_option maxRecDepth 1000000 in
theorem mD_ (w : World) (S : Value) (n i : Nat) (vals : List Value) (hS : w.ownsRow 0 49 5 S n vals) (U : Value) (us : List Value) (hU : w.ownsRow 0 49 5 U 0 us) (hi : i ≤ n) :
    Calls Tryz.prog 279 #[S, .int .i64 i, U] w fun e w' => e = .returned S ∧ w' = w := by
  rcases hS.2 with ⟨rfl, rfl⟩ | ⟨g, c, cur, rfl, -, hg, hnc, hcm, hcs, htake⟩
  · have hi0 : i = 0 := by omega
    subst hi0
    rcases hU.2 with ⟨rfl, -⟩ | ⟨gv, vc, curv, rfl, -, hgv, hmc, hcm, hcs, htake⟩
    · clear hS hU
      go_enter Tryz.func279, Tryz.ntmps279
      go_wp2_with fail
      go_ret
      exact ⟨rfl, rfl⟩
    · clear hS hU hgv hcs htake
      go_enter Tryz.func279, Tryz.ntmps279
      go_wp2_with fail
      go_ret
      exact ⟨rfl, rfl⟩
  · unfold maxLen at hcm
    have hic : i ≤ c := by omega
    rcases hU.2 with ⟨rfl, -⟩ | ⟨gv, vc, curv, rfl, -, hgv, hmc, hcm2, hcs2, htake2⟩
    · clear hS hU hg hcs htake
      go_enter Tryz.func279, Tryz.ntmps279
      go_wp2_with fail
      all_goals (go_ret; exact ⟨rfl, rfl⟩)
    · clear hS hU hg hcs htake hgv hcs2 htake2
      go_enter Tryz.func279, Tryz.ntmps279
      go_wp2_with fail
      all_goals (go_ret; exact ⟨rfl, rfl⟩)
set_option maxRecDepth 1000000 in
theorem k5_ (w : World) (g n c i : Nat) (cur : Array Value) (hg : w.heap[g]? = some (.cells cur 49 (0, 0))) (hs : cur.size = c * 5) (hc : c ≤ 9223372036854775807) (hi : i < n)
    (gv m vc : Nat) (curv : Array Value) (Tv : TypeId) (hgv : w.heap[gv]? = some (.cells curv Tv (0, 0))) (hmv : m * 5 ≤ curv.size) (hne : gv ≠ g) (us : List Value) (hul : us = curv.toList.take (m * 5)) (h1u : ∀ v ∈ us, v.oneCell' = true) (hm : 0 < m) (hroom : n + m ≤ c)
    (h1 : ∀ v ∈ cur.toList.take (n * 5), v.oneCell' = true) :
    Calls Tryz.prog 279 #[.slice (some ⟨g, 0, none⟩) n c, .int .i64 i, .slice (some ⟨gv, 0, none⟩) m vc] w fun e w' => e = .returned (.slice (some ⟨g, 0, none⟩) (n + m) c) ∧
      ∃ A, w' = w.drew.setRow g A ∧ A.size = cur.size ∧ A.toList.take ((n + m) * 5) = (cur.toList.take (n * 5)).take (i * 5) ++ us ++ (cur.toList.take (n * 5)).drop (i * 5) := by
  have hsz : (Tryz.prog.info? 49).map (·.size) = some 5 := by kernel_rfl
  have hul2 : us.length = m * 5 := by rw [hul, List.length_take, Array.length_toList]; omega
  have hov : ∀ lb cb, (callFunc 304 #[.slice (some ⟨gv, 0, none⟩) m vc, .slice (some ⟨g, (i + m) * 5, none⟩) lb cb]).run Tryz.prog w = .ok (.value (.bool false)) w := fun lb cb => by
    rw [run_callFunc_extern Tryz.func304 (by kernel_rfl) (by kernel_rfl) (by kernel_rfl) (e := Extern.SlicesOverlaps.overlaps #[46, 46] #[4]) (by kernel_rfl),
      Lib.run_overlaps_apart w 46 4 49 Tryz.underlying46 5 Tryz.sizeOf49 ⟨gv, 0, none⟩ ⟨g, (i + m) * 5, none⟩ m vc lb cb hne Tv 49 curv.size cur.size (by simp [World.shape?, hgv]) (by simp [World.shape?, hg]) (by omega) (by simp [World.frozen?, hgv]) (by simp [World.frozen?, hgv])]
    rfl
  obtain ⟨mv, hmv2⟩ : ∃ mv, mv = (cur.toList.take (n * 5)).drop (i * 5) := ⟨_, rfl⟩
  have hml : mv.length = (n - i) * 5 := by rw [hmv2]; simp [hs]; omega
  have hgd : w.drew.heap[g]? = some (.cells cur 49 (0, 0)) := hg
  obtain ⟨B, hB⟩ : ∃ B, B = (cur.toList.take ((i + m) * 5) ++ mv ++ cur.toList.drop ((i + m) * 5 + mv.length)).toArray := ⟨_, rfl⟩
  have hcp1 : ∀ ty dc sc, (Builtin.copy_ #[46, 46] ty #[.slice (some ⟨g, (i + m) * 5, none⟩) (n + m - (i + m)) dc, .slice (some ⟨g, i * 5, none⟩) (n + m - i) sc]).run Tryz.prog w.drew = .ok (goInt (n - i)) (w.drew.setRow g B) := fun ty dc sc => by
    have := cN_ (P := Tryz.prog) w.drew 46 46 ty 49 5 g ((i + m) * 5) (n + m - (i + m)) dc ⟨g, i * 5, none⟩ (n + m - i) sc cur 49 mv Tryz.underlying46 hsz hgd (by rw [hml]; simp only [Nat.min_def]; split <;> omega)
      (fun j v hj => by
        have hj2 := (List.getElem?_eq_some_iff.1 hj).1
        rw [hmv2, List.getElem?_drop, List.getElem?_take_of_lt (by omega), Array.getElem?_toList] at hj
        rw [Addr.add_lit]
        simp only [World.cell?, hgd]
        exact hj) (by rw [hml, hs]; omega) (fun v hv => h1 v (by rw [hmv2] at hv; exact List.mem_of_mem_drop hv))
    rw [this, hB]
    congr 2
    simp only [Nat.min_def]; split <;> omega
  have hBs : B.size = cur.size := by rw [hB]; simp [hml, hs]; omega
  have hgB : (w.drew.setRow g B).heap[g]? = some (.cells B 49 (0, 0)) := setRow_heap _ _ _ _ _ _ hgd
  obtain ⟨A, hA⟩ : ∃ A, A = (B.toList.take (i * 5) ++ us ++ B.toList.drop (i * 5 + us.length)).toArray := ⟨_, rfl⟩
  have hcp2 : ∀ ty dc, (Builtin.copy_ #[46, 46] ty #[.slice (some ⟨g, i * 5, none⟩) (n + m - i) dc, .slice (some ⟨gv, 0, none⟩) m vc]).run Tryz.prog (w.drew.setRow g B) = .ok (goInt m) (w.drew.setRow g A) := fun ty dc => by
    have := cN_ (P := Tryz.prog) (w.drew.setRow g B) 46 46 ty 49 5 g (i * 5) (n + m - i) dc ⟨gv, 0, none⟩ m vc B 49 us Tryz.underlying46 hsz hgB (by rw [hul2]; simp only [Nat.min_def]; split <;> omega)
      (fun j v hj => by
        have hj2 := (List.getElem?_eq_some_iff.1 hj).1
        rw [hul, List.getElem?_take_of_lt (by omega), Array.getElem?_toList] at hj
        rw [Addr.add_lit, Nat.zero_add]
        have e : (w.drew.setRow g B).heap[gv]? = some (.cells curv Tv (0, 0)) := by rw [setRow_other _ _ _ _ hne]; exact hgv
        simp only [World.cell?, e]
        exact hj) (by rw [hul2, hBs, hs]; omega) h1u
    rw [this, hA, setRow_setRow]
    congr 2
    simp only [Nat.min_def]; split <;> omega
  have kA : Hid (A.size = cur.size ∧ A.toList.take ((n + m) * 5) = (cur.toList.take (n * 5)).take (i * 5) ++ us ++ mv) := by
    have e1 : B.toList.take (i * 5) = (cur.toList.take (n * 5)).take (i * 5) := by
      rw [hB]; simp only [List.toList_toArray, List.append_assoc]
      rw [List.take_append_of_le_length (by simp [hs]; omega), List.take_take, List.take_take]
      congr 1; omega
    have e2 : (B.toList.drop (i * 5 + us.length)).take mv.length = mv := by
      rw [hB]; simp only [List.toList_toArray, List.append_assoc]
      rw [List.drop_append, List.drop_eq_nil_of_le (by simp [hul2, hs]; omega), List.nil_append, List.length_take, show i * 5 + us.length - min ((i + m) * 5) cur.toList.length = 0 by simp [hul2, hs]; omega, List.drop_zero, List.take_append_of_le_length (Nat.le_refl _), List.take_of_length_le (Nat.le_refl _)]
    refine ⟨by rw [hA]; simp [hul2, hBs, hs]; omega, ?_⟩
    rw [hA]; simp only [List.toList_toArray]
    rw [List.take_append, List.take_of_length_le (by simp [hul2, hBs, hs]; omega), e1]
    congr 1
    rw [show (n + m) * 5 - (List.take (i * 5) (List.take (n * 5) cur.toList) ++ us).length = mv.length by simp [hul2, hml, hs]; omega]
    exact e2
  rw [hmv2] at kA
  have hnc : n ≤ c := by omega
  have hic : i ≤ c := by omega
  have hz1 : ¬ ((m : Int) = 0) := by omega
  have hz2 : ¬ ((i : Int) = (n : Int)) := by omega
  have mixed : Tryz.prog.follows .mixedOrders = true := by kernel_rfl
  have hw1 : IntKind.i64.wrap ((i : Int) + (m : Int)) = (i : Int) + (m : Int) := by rw [IntKind.wrap_i64]; omega
  have hb1 : (0 : Int) ≤ (i : Int) + (m : Int) := by omega
  have hin : i ≤ n := by omega
  have htn : ((i : Int) + (m : Int)).toNat = i + m := by omega
  have hb2 : ¬ (c = i + m) := by omega
  have hb3 : (i : Int) ≤ (n : Int) + (m : Int) := by omega
  have hb4 : ¬ (c = i) := by omega
  clear hB hBs hgB hA hmv2 hml hgd hg hgv hul hul2 h1 h1u hsz hs hmv
  go_enter Tryz.func279, Tryz.ntmps279
  go_wp2_with (simp only [hov])
  go_region_law_o (refine da_ rfl _ _ 46 46 rfl _ _ (by simp [Act.eval, Act.put]) (by simp [Act.eval, Act.put]) (hcp1 _ _ _) ?_)
  go_wp2_with (at_builtin; refine dK_ _ rfl _ _ 46 46 rfl _ _ rfl rfl (hcp2 _ _) ?_)
  go_ret
  exact ⟨rfl, A, rfl, kA.out.1, kA.out.2⟩
set_option maxRecDepth 1000000 in
theorem mG_ (w : World) (g n c i : Nat) (cur : Array Value) (hg : w.heap[g]? = some (.cells cur 49 (0, 0))) (hs : cur.size = c * 5) (hnc : n ≤ c) (hi : i < n)
    (gv m vc : Nat) (curv : Array Value) (Tv : TypeId) (hgv : w.heap[gv]? = some (.cells curv Tv (0, 0))) (hmv : m * 5 ≤ curv.size) (us : List Value) (hul : us = curv.toList.take (m * 5)) (h1u : ∀ v ∈ us, v.oneCell' = true) (hm : 0 < m) (hroom : c < n + m)
    (hbig : (n + m) * 80 ≤ 140737488355328) (h1 : ∀ v ∈ cur.toList.take (n * 5), v.oneCell' = true) :
    Calls Tryz.prog 279 #[.slice (some ⟨g, 0, none⟩) n c, .int .i64 i, .slice (some ⟨gv, 0, none⟩) m vc] w fun e w' => ∃ C A, e = .returned (.slice (some ⟨w.heap.size, 0, none⟩) (n + m) C) ∧ n + m ≤ C ∧ C ≤ maxLen ∧
      w'.heap[w.heap.size]? = some (.cells A 49 (0, 0)) ∧ A.size = C * 5 ∧ A.toList.take ((n + m) * 5) = (cur.toList.take (n * 5)).take (i * 5) ++ us ++ (cur.toList.take (n * 5)).drop (i * 5) ∧ w.grownBy w' none := by
  obtain ⟨i0, hi0⟩ := Option.isSome_iff_exists.1 (show (Tryz.prog.info? 49).isSome = true by kernel_rfl)
  have hz0 : i0.size = 5 := by
    have : (Tryz.prog.info? 49).map (·.size) = some 5 := by kernel_rfl
    rw [hi0] at this; simpa using this
  have hz1 : i0.bytes = 80 := by
    have : (Tryz.prog.info? 49).map (·.bytes) = some 80 := by kernel_rfl
    rw [hi0] at this; simpa using this
  have hz2 : i0.zero = some (.agg #[.int .i64 0, .int .i64 0, .string ByteArray.empty, .slice none 0 0, .slice none 0 0]) := by
    have : (Tryz.prog.info? 49).bind (·.zero) = some (.agg #[.int .i64 0, .int .i64 0, .string ByteArray.empty, .slice none 0 0, .slice none 0 0]) := by kernel_rfl
    rw [hi0] at this; simpa using this
  obtain ⟨G, N, W1, R1, W2, A, hNN, hGn, hGm, hrz, hcp1, hW2', hcp2, kA⟩ := mg_ 46 49 3 _ i0 Tryz.underlying46 Tryz.underlying3 hi0 hz2 hz0 hz1 rfl w g n c i cur hg hs hnc hi gv m vc curv Tv hgv hmv us hul h1u hm hroom hbig h1
  have hic : i ≤ c := by omega
  have hz3 : ¬ ((m : Int) = 0) := by omega
  have hz4 : ¬ ((i : Int) = (n : Int)) := by omega
  have hz5 : (c : Int) < (n : Int) + (m : Int) := by omega
  have mixed : Tryz.prog.follows .mixedOrders = true := by kernel_rfl
  have hG63 : G ≤ 9223372036854775807 := by unfold maxLen at hGm; omega
  have hw1 : IntKind.i64.wrap ((n : Int) + (m : Int)) = (n : Int) + (m : Int) := by rw [IntKind.wrap_i64]; omega
  have hw2 : IntKind.i64.wrap ((n : Int) + (m : Int) - (i : Int)) = (n : Int) + (m : Int) - (i : Int) := by rw [IntKind.wrap_i64]; omega
  have hw3 : IntKind.i64.wrap ((i : Int) + (m : Int)) = (i : Int) + (m : Int) := by rw [IntKind.wrap_i64]; omega
  have hb1 : (0 : Int) ≤ (i : Int) + (m : Int) := by omega
  have htn : ((i : Int) + (m : Int)).toNat = i + m := by omega
  have hGi : ¬ (G = i) := by omega
  have hGim : ¬ (G = i + m) := by omega
  have hb3 : (i : Int) ≤ (n : Int) + (m : Int) := by omega
  have hb4 : ¬ (c = i) := by omega
  have hinm : i ≤ n + m := by omega
  have himn : i + m ≤ n + m := by omega
  have hin : i ≤ n := by omega
  clear hul h1 h1u hg hgv hs hmv hz0 hz1 hz2 hi0 hbig
  go_enter Tryz.func279, Tryz.ntmps279
  go_wp2_with (at_builtin; refine Lib.wpList_append_run _ rfl _ _ 46 3 rfl _ _ rfl rfl _ _ (hrz _) ?_)
  go_region_law_o (simp only [hW2']; refine da_ rfl _ _ 46 46 rfl _ _ (by simp [Act.eval, Act.put]) (by simp [Act.eval, Act.put]) (hcp2 _ _ _) ?_)
  go_wp2_with fail
  go_ret
  exact ⟨G, A, by rw [hNN.out]; rfl, kA.out⟩
theorem insM279 : InsM Tryz.prog 279 49 5 80 := by
  intro w S n vals U m us i hS hU hdis hi h1 h1u hb
  have hvl := hS.1
  by_cases hm : m = 0
  · subst hm
    have hus : us = [] := by have := hU.1; rw [Nat.zero_mul] at this; exact List.eq_nil_of_length_eq_zero this
    subst hus
    refine (mD_ w S n i vals hS U [] hU hi).mono ?_
    rintro e w' ⟨rfl, rfl⟩
    refine ⟨S, rfl, by rw [List.append_nil, List.take_append_drop]; exact hS, ⟨rfl, rfl, rfl, Nat.le_refl _, fun _ _ _ => rfl⟩, fun b hb => ⟨.inr hb, iE_ hS b hb⟩⟩
  · rcases hU.2 with ⟨rfl, h0⟩ | ⟨gv, vc, curv, rfl, -, hgv, hmc, hcm, hcs, htake⟩
    · exact absurd h0 hm
    · by_cases hin : i = n
      · subst hin
        rw [List.take_of_length_le (by omega), List.drop_eq_nil_of_le (by omega), List.append_nil]
        exact InsEnd279 w S i vals hS gv m vc us hU.1 (fun j u h => by have := hU.cells (g := gv) rfl j u h; rwa [Addr.add_lit, Nat.zero_add] at this) h1u (by omega) hb
      · rcases hS.2 with ⟨rfl, h0⟩ | ⟨g, c, cur, rfl, -, hg, hnc, hcm', hcs', htake'⟩
        · omega
        · have hne : gv ≠ g := fun e => by subst e; have := hdis gv (by simp [cr_]); simp [cr_] at this
          have hmv : m * 5 ≤ curv.size := by rw [hcs]; exact Nat.mul_le_mul_right _ hmc
          by_cases hroom : n + m ≤ c
          · refine (k5_ w g n c i cur hg hcs' (by unfold maxLen at hcm'; omega) (by omega) gv m vc curv 49 hgv hmv hne us htake.symm h1u (by omega) hroom (by rw [htake']; exact h1)).mono ?_
            rintro e w' ⟨rfl, A, rfl, hA, ht⟩
            rw [htake'] at ht
            have hgd : w.drew.heap[g]? = some (.cells cur 49 (0, 0)) := hg
            have hA2 := setRow_heap w.drew g cur A _ _ hgd
            refine ⟨_, rfl, ⟨by rw [← ht]; simp [hA, hcs']; omega, .inr ⟨g, c, A, rfl, Nat.zero_le _, hA2, hroom, hcm', by rw [hA, hcs'], ht⟩⟩, ⟨rfl, rfl, rfl, f5_ w g A, fun b _ hn => ?_⟩, fun b hb => ⟨.inr hb, ?_⟩⟩
            · rw [setRow_other _ _ _ _ (fun e => hn (by subst e; simp [cr_]))]; rfl
            · have : g = b := by simp only [cr_] at hb; exact Classical.byContradiction fun h => hb (if_neg h)
              subst this
              exact (Array.getElem?_eq_some_iff.1 hA2).1
          · refine (mG_ w g n c i cur hg hcs' hnc (by omega) gv m vc curv 49 hgv hmv us htake.symm h1u (by omega) (by omega) hb (by rw [htake']; exact h1)).mono ?_
            rintro e w' ⟨C, A, rfl, hC, hCm, hN, hA, ht, hgr⟩
            rw [htake'] at ht
            refine ⟨_, rfl, ⟨by rw [← ht]; simp [hA]; omega, .inr ⟨_, C, A, rfl, Nat.zero_le _, hN, hC, hCm, hA, ht⟩⟩, ⟨hgr.os, hgr.tape, hgr.output, hgr.size, fun b hb _ => hgr.block b hb (by simp)⟩, fun b hb => ?_⟩
            have : w.heap.size = b := by simp only [cr_] at hb; exact Classical.byContradiction fun h => hb (if_neg h)
            subst this
            exact ⟨.inl (Nat.le_refl _), (Array.getElem?_eq_some_iff.1 hN).1⟩
end Go.Proofs
namespace Go.Pi
open Go.Proofs
theorem bu_.ok (n : Nat) (_ : CxOk E (cx n bu_.d.nt)) (_ : KPar (cx n bu_.d.nt)) : bu_.d.Ok E (bu_.F (n + 1)) := fun _ _ h => kz_ (t := .iJson) (m1 := .d) (m2 := .d) (by decide) (by decide) insM279 h
end Go.Pi
end
