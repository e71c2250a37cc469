/- SessTake of the program returns what SessTake of the reference returns, for all arguments. Text 5 of 8. -/
import Derived.Test.YtinngjbiigjkoaaGreatDoorStD
import Derived.Shelf.RegionOpenPlain
import Derived.WalkKit
import Derived.Deep.RegionLaw
import Derived.Lib.Walk
import Derived.Lib.SliceRun
import Derived.Laws.CopyRow
import Derived.RowKit
import Derived.Lib.Overlaps
import Derived.Lib.AppendZerosOnto
import Derived.Laws.NewBlocks
import Derived.Laws.Externs
set_option linter.unusedVariables false
set_option maxRecDepth 100000
set_option linter.unusedSimpArgs false
section
namespace Go.Pi
def aP_.p (m:M):List Pat:=[.i .i64,.i .i64,.i .i64]
abbrev aP_.c:Type:=Int × Int × Int × Unit
def aP_.of:aP_.c→aP_:=fun (x0,x1,x2,_)=>⟨x0,x1,x2⟩
def aP_.to (s:aP_):aP_.c:=(s.col,s.op,s.v,())
def aT_.p (m:M):List Pat:=[.i .i64,.sl m .lCond,.i .i64,.b,.i .i64,.sl m .int,.b,.i .i64,.i .i64]
def aT_.q1 (m:M):List Pat:=[.i .i64,.sl m .iCond,.i .i64,.b,.i .i64,.sl m .int,.b,.i .i64,.i .i64]
abbrev aT_.c:Type:=Int × (List aP_) × Int × Bool × Int × (List Int) × Bool × Int × Int × Unit
def aT_.of:aT_.c→aT_:=fun (x0,x1,x2,x3,x4,x5,x6,x7,x8,_)=>⟨x0,x1,x2,x3,x4,x5,x6,x7,x8⟩
def aT_.to (s:aT_):aT_.c:=(s.table,s.where_,s.order,s.down,s.first,s.show_,s.kids,s.kidTable,s.kidCol,())
def TRow.p (m:M):List Pat:=[.i .i64,.sl m .int]
abbrev TRow.c:Type:=Int × (List Int) × Unit
def TRow.of:TRow.c→TRow:=fun (x0,x1,_)=>⟨x0,x1⟩
def TRow.to (s:TRow):TRow.c:=(s.id_,s.cells,())
def TKid.p (m:M):List Pat:=[.i .i64,.i .i64]
abbrev TKid.c:Type:=Int × Int × Unit
def TKid.of:TKid.c→TKid:=fun (x0,x1,_)=>⟨x0,x1⟩
def TKid.to (s:TKid):TKid.c:=(s.id_,s.n_,())
def bB_.p (m:M):List Pat:=[.i .i64,.sl m .lCond,.i .i64,.b,.i .i64,.sl m .int,.b,.i .i64,.i .i64,.sl m .lRow,.sl m .lKid]
def bB_.q1 (m:M):List Pat:=[.i .i64,.sl m .iCond,.i .i64,.b,.i .i64,.sl m .int,.b,.i .i64,.i .i64,.sl m .iRow,.sl m .iKid]
abbrev bB_.c:Type:=Int × (List aP_) × Int × Bool × Int × (List Int) × Bool × Int × Int × (List TRow) × (List TKid) × Unit
def bB_.of:bB_.c→bB_:=fun (x0,x1,x2,x3,x4,x5,x6,x7,x8,x9,x10,_)=>⟨⟨x0,x1,x2,x3,x4,x5,x6,x7,x8⟩,x9,x10⟩
def bB_.to (s:bB_):bB_.c:=(s.q.table,s.q.where_,s.q.order,s.q.down,s.q.first,s.q.show_,s.q.kids,s.q.kidTable,s.q.kidCol,s.rows,s.kids,())
def bZ_.p (m:M):List Pat:=[.i .i64,.sl m .lCond,.i .i64,.b,.i .i64,.sl m .int,.b,.i .i64,.i .i64,.sl m .lRow,.sl m .lKid,.i .i64,.i .i64,.sl m .lCond,.i .i64,.b,.i .i64,.sl m .int,.b,.i .i64,.i .i64,.sl m .lRow,.sl m .lKid,.i .i64,.b]
def bZ_.q1 (m:M):List Pat:=[.i .i64,.sl m .iCond,.i .i64,.b,.i .i64,.sl m .int,.b,.i .i64,.i .i64,.sl m .iRow,.sl m .iKid,.i .i64,.i .i64,.sl m .iCond,.i .i64,.b,.i .i64,.sl m .int,.b,.i .i64,.i .i64,.sl m .iRow,.sl m .iKid,.i .i64,.b]
abbrev bZ_.c:Type:=Int × (List aP_) × Int × Bool × Int × (List Int) × Bool × Int × Int × (List TRow) × (List TKid) × Int × Int × (List aP_) × Int × Bool × Int × (List Int) × Bool × Int × Int × (List TRow) × (List TKid) × Int × Bool × Unit
def bZ_.of:bZ_.c→bZ_:=fun (x0,x1,x2,x3,x4,x5,x6,x7,x8,x9,x10,x11,x12,x13,x14,x15,x16,x17,x18,x19,x20,x21,x22,x23,x24,_)=>⟨⟨⟨x0,x1,x2,x3,x4,x5,x6,x7,x8⟩,x9,x10⟩,x11,⟨⟨x12,x13,x14,x15,x16,x17,x18,x19,x20⟩,x21,x22⟩,x23,x24⟩
def bZ_.to (s:bZ_):bZ_.c:=(s.view.q.table,s.view.q.where_,s.view.q.order,s.view.q.down,s.view.q.first,s.view.q.show_,s.view.q.kids,s.view.q.kidTable,s.view.q.kidCol,s.view.rows,s.view.kids,s.version,s.last.q.table,s.last.q.where_,s.last.q.order,s.last.q.down,s.last.q.first,s.last.q.show_,s.last.q.kids,s.last.q.kidTable,s.last.q.kidCol,s.last.rows,s.last.kids,s.lastVersion,s.began,())
def aa_.p (m:M):List Pat:=[.i .i64,.i .i64,.s,.sl m .iJson,.sl m .str]
abbrev aa_.c:Type:=Int × Int × Bs × (List aa_) × (List Bs) × Unit
def aa_.of:aa_.c→aa_:=fun (x0,x1,x2,x3,x4,_)=>⟨x0,x1,x2,x3,x4⟩
def aa_.to (s:aa_):aa_.c:=(s.kind,s.n_,s.s,s.list,s.names,())
def TOp.p (m:M):List Pat:=[.i .i64,.sl m .str,.i .i64,.i .i64,.s,.sl m .iJson,.sl m .str]
abbrev TOp.c:Type:=Int × (List Bs) × Int × Int × Bs × (List aa_) × (List Bs) × Unit
def TOp.of:TOp.c→TOp:=fun (x0,x1,x2,x3,x4,x5,x6,_)=>⟨x0,x1,⟨x2,x3,x4,x5,x6⟩⟩
def TOp.to (s:TOp):TOp.c:=(s.kind,s.way,s.value.kind,s.value.n_,s.value.s,s.value.list,s.value.names,())
def cI_.p (m:M):List Pat:=[.i .i64,.i .i64,.i .i64,.i .i64,.i .i64,.s,.sl m .iJson,.sl m .str,.sl m .iOp]
abbrev cI_.c:Type:=Int × Int × Int × Int × Int × Bs × (List aa_) × (List Bs) × (List TOp) × Unit
def cI_.of:cI_.c→cI_:=fun (x0,x1,x2,x3,x4,x5,x6,x7,x8,_)=>⟨x0,x1,x2,⟨x3,x4,x5,x6,x7⟩,x8⟩
def cI_.to (s:cI_):cI_.c:=(s.kind,s.version,s.base,s.doc.kind,s.doc.n_,s.doc.s,s.doc.list,s.doc.names,s.ops,())
def au_.p (m:M):List Pat:=[.i .i64,.i .i64,.i .i64,.s,.sl m .iJson,.sl m .str]
abbrev au_.c:Type:=Int × Int × Int × Bs × (List aa_) × (List Bs) × Unit
def au_.of:au_.c→au_:=fun (x0,x1,x2,x3,x4,x5,_)=>⟨x0,⟨x1,x2,x3,x4,x5⟩⟩
def au_.to (s:au_):au_.c:=(s.key,s.value.kind,s.value.n_,s.value.s,s.value.list,s.value.names,())
def cZ_.d:FD Int:=⟨84,12,1,[.sl .v .lCond,.i .i64],[.i .i64],fun (a0,_)=>a0,fun r=>(r,()),[.v,.v],[.v],[.k],[.tmp 4],[],[],[],[]⟩
def cZ_.F (n:Nat):Pat.Ts cZ_.d.ps→Option Int:=fun (a0,a1,_)=>cZ_ n a0 a1
def di_.d:FD Int:=⟨85,12,1,[.sl .v .int,.i .i64],[.i .i64],fun (a0,_)=>a0,fun r=>(r,()),[.v,.v],[.v],[.k],[.tmp 4],[],[],[],[]⟩
def di_.F (n:Nat):Pat.Ts di_.d.ps→Option Int:=fun (a0,a1,_)=>di_ n a0 a1
def cY_.d:FD Int:=⟨37,18,1,[.ag (aT_.p .v),.i .i64],[.i .i64],fun (a0,_)=>a0,fun r=>(r,()),[.ag [.v,.v,.v,.v,.v,.v,.v,.v,.v],.v],[.v],[.k],[.tmp 4],[],[],[],[]⟩
def cY_.F (n:Nat):Pat.Ts cY_.d.ps→Option Int:=fun (a0,a1,_)=>cY_ n (aT_.of a0) a1
def dM_.d:FD Int:=⟨86,12,1,[.ag (TRow.p .v),.i .i64],[.i .i64],fun (a0,_)=>a0,fun r=>(r,()),[.ag [.v,.v],.v],[.v],[.k],[.tmp 4],[],[],[],[]⟩
def dM_.F (n:Nat):Pat.Ts dM_.d.ps→Option Int:=fun (a0,a1,_)=>dM_ n (TRow.of a0) a1
def bi_.p7:OD:=⟨[(0,.view .lRow),(1,.k),(5,.k)],[.sl .v .lRow,.i .i64,.i .i64],[.ext]⟩
def bi_.o0:OD:=⟨[(1,.k)],[.i .i64],[.ext]⟩
def bi_.d:FD Int:=⟨38,27,1,[.sl .v .lRow,.i .i64],[.i .i64],fun (a0,_)=>a0,fun r=>(r,()),[.v,.v],[.v],[.k],[.tmp 4],[],[(7,bi_.p7)],[],[(0,bi_.o0)]⟩
def bi_.F (n:Nat):Pat.Ts bi_.d.ps→Option Int:=fun (a0,a1,_)=>bi_ n a0 a1
def dr_.d:FD Int:=⟨39,12,1,[.sl .v .lKid,.i .i64],[.i .i64],fun (a0,_)=>a0,fun r=>(r,()),[.v,.v],[.v],[.k],[.tmp 4],[],[],[],[]⟩
def dr_.F (n:Nat):Pat.Ts dr_.d.ps→Option Int:=fun (a0,a1,_)=>dr_ n a0 a1
def dh_.d:FD Int:=⟨14,24,1,[.ag (bB_.p .v),.i .i64],[.i .i64],fun (a0,_)=>a0,fun r=>(r,()),[.ag [.v,.v,.v,.v,.v,.v,.v,.v,.v,.v,.v],.v],[.v],[.k],[.tmp 4],[],[],[],[]⟩
def dh_.F (n:Nat):Pat.Ts dh_.d.ps→Option Int:=fun (a0,a1,_)=>dh_ n (bB_.of a0) a1
def dq_.d:FD Int:=⟨4,18,1,[.ag (bZ_.p .v),.i .i64],[.i .i64],fun (a0,_)=>a0,fun r=>(r,()),[.ag [.v,.v,.v,.v,.v,.v,.v,.v,.v,.v,.v,.v,.v,.v,.v,.v,.v,.v,.v,.v,.v,.v,.v,.v,.v],.v],[.v],[.k],[.tmp 4],[],[],[],[]⟩
def dq_.F (n:Nat):Pat.Ts dq_.d.ps→Option Int:=fun (a0,a1,_)=>dq_ n (bZ_.of a0) a1
def dg_.d:FD aP_:=⟨148,14,1,[.ag (aP_.p .v)],[.ag (aP_.p .v)],fun (a0,_)=>(aP_.of a0),fun r=>(aP_.to r,()),[.ag [.v,.v,.v]],[.ag [.v,.v,.v]],[.ag [.k,.k,.k]],[.cell 2 127],[],[],[],[]⟩
def dg_.F (n:Nat):Pat.Ts dg_.d.ps→Option aP_:=fun (a0,_)=>dg_ n (aP_.of a0)
def a4_.p4:OD:=⟨[(0,.view .lCond),(3,.own .d .iCond),(4,.k)],[.sl .v .lCond,.rt 1,.i .i64],[.ext,.arr .d .iCond 2]⟩
def a4_.o0:OD:=⟨[(3,.own .d .iCond)],[.rt 1],[.ext,.arr .d .iCond 2]⟩
def a4_.d:FD (List aP_):=⟨103,23,1,[.sl .v .lCond],[.sl .d .iCond],fun (a0,_)=>a0,fun r=>(r,()),[.v],[.o],[.own .d .iCond],[.tmp 2],[],[(4,a4_.p4)],[],[(0,a4_.o0)]⟩
def a4_.F (n:Nat):Pat.Ts a4_.d.ps→Option (List aP_):=fun (a0,_)=>a4_ n a0
def bh_.p4:OD:=⟨[(0,.view .int),(3,.own .d .int),(4,.k)],[.sl .v .int,.rt 1,.i .i64],[.ext,.arr .d .int 2]⟩
def bh_.o0:OD:=⟨[(3,.own .d .int)],[.rt 1],[.ext,.arr .d .int 2]⟩
def bh_.d:FD (List Int):=⟨104,22,1,[.sl .v .int],[.sl .d .int],fun (a0,_)=>a0,fun r=>(r,()),[.v],[.o],[.own .d .int],[.tmp 2],[],[(4,bh_.p4)],[],[(0,bh_.o0)]⟩
def bh_.F (n:Nat):Pat.Ts bh_.d.ps→Option (List Int):=fun (a0,_)=>bh_ n a0
def cQ_.d:FD aT_:=⟨52,34,1,[.ag (aT_.p .v)],[.ag (aT_.q1 .d)],fun (a0,_)=>(aT_.of a0),fun r=>(aT_.to r,()),[.ag [.v,.v,.v,.v,.v,.v,.v,.v,.v]],[.ag [.v,.o,.v,.v,.v,.o,.v,.v,.v]],[.ag [.k,.own .d .iCond,.k,.k,.k,.own .d .int,.k,.k,.k]],[.cell 2 35],[],[],[],[]⟩
def cQ_.F (n:Nat):Pat.Ts cQ_.d.ps→Option aT_:=fun (a0,_)=>cQ_ n (aT_.of a0)
def dD_.d:FD TRow:=⟨105,12,1,[.ag (TRow.p .v)],[.ag (TRow.p .d)],fun (a0,_)=>(TRow.of a0),fun r=>(TRow.to r,()),[.ag [.v,.v]],[.ag [.v,.o]],[.ag [.k,.own .d .int]],[.cell 2 108],[],[],[],[]⟩
def dD_.F (n:Nat):Pat.Ts dD_.d.ps→Option TRow:=fun (a0,_)=>dD_ n (TRow.of a0)
def bk_.p4:OD:=⟨[(0,.view .lRow),(3,.own .d .iRow),(4,.k)],[.sl .v .lRow,.rt 1,.i .i64],[.ext,.arr .d .iRow 2]⟩
def bk_.o0:OD:=⟨[(3,.own .d .iRow)],[.rt 1],[.ext,.arr .d .iRow 2]⟩
def bk_.d:FD (List TRow):=⟨53,23,1,[.sl .v .lRow],[.sl .d .iRow],fun (a0,_)=>a0,fun r=>(r,()),[.v],[.o],[.own .d .iRow],[.tmp 2],[],[(4,bk_.p4)],[],[(0,bk_.o0)]⟩
def bk_.F (n:Nat):Pat.Ts bk_.d.ps→Option (List TRow):=fun (a0,_)=>bk_ n a0
def dE_.d:FD TKid:=⟨106,11,1,[.ag (TKid.p .v)],[.ag (TKid.p .v)],fun (a0,_)=>(TKid.of a0),fun r=>(TKid.to r,()),[.ag [.v,.v]],[.ag [.v,.v]],[.ag [.k,.k]],[.cell 2 119],[],[],[],[]⟩
def dE_.F (n:Nat):Pat.Ts dE_.d.ps→Option TKid:=fun (a0,_)=>dE_ n (TKid.of a0)
def bl_.p4:OD:=⟨[(0,.view .lKid),(3,.own .d .iKid),(4,.k)],[.sl .v .lKid,.rt 1,.i .i64],[.ext,.arr .d .iKid 2]⟩
def bl_.o0:OD:=⟨[(3,.own .d .iKid)],[.rt 1],[.ext,.arr .d .iKid 2]⟩
def bl_.d:FD (List TKid):=⟨54,23,1,[.sl .v .lKid],[.sl .d .iKid],fun (a0,_)=>a0,fun r=>(r,()),[.v],[.o],[.own .d .iKid],[.tmp 2],[],[(4,bl_.p4)],[],[(0,bl_.o0)]⟩
def bl_.F (n:Nat):Pat.Ts bl_.d.ps→Option (List TKid):=fun (a0,_)=>bl_ n a0
def c3_.d:FD bB_:=⟨21,17,1,[.ag (bB_.p .v)],[.ag (bB_.q1 .d)],fun (a0,_)=>(bB_.of a0),fun r=>(bB_.to r,()),[.ag [.v,.v,.v,.v,.v,.v,.v,.v,.v,.v,.v]],[.ag [.v,.o,.v,.v,.v,.o,.v,.v,.v,.o,.o]],[.ag [.k,.own .d .iCond,.k,.k,.k,.own .d .int,.k,.k,.k,.own .d .iRow,.own .d .iKid]],[.cell 2 39],[],[],[],[]⟩
def c3_.F (n:Nat):Pat.Ts c3_.d.ps→Option bB_:=fun (a0,_)=>c3_ n (bB_.of a0)
def cK_.d:FD bZ_:=⟨6,22,1,[.ag (bZ_.p .v)],[.ag (bZ_.q1 .d)],fun (a0,_)=>(bZ_.of a0),fun r=>(bZ_.to r,()),[.ag [.v,.v,.v,.v,.v,.v,.v,.v,.v,.v,.v,.v,.v,.v,.v,.v,.v,.v,.v,.v,.v,.v,.v,.v,.v]],[.ag [.v,.o,.v,.v,.v,.o,.v,.v,.v,.o,.o,.v,.v,.o,.v,.v,.v,.o,.v,.v,.v,.o,.o,.v,.v]],[.ag [.k,.own .d .iCond,.k,.k,.k,.own .d .int,.k,.k,.k,.own .d .iRow,.own .d .iKid,.k,.k,.own .d .iCond,.k,.k,.k,.own .d .int,.k,.k,.k,.own .d .iRow,.own .d .iKid,.k,.k]],[.cell 2 41],[],[],[],[]⟩
def cK_.F (n:Nat):Pat.Ts cK_.d.ps→Option bZ_:=fun (a0,_)=>cK_ n (bZ_.of a0)
def db_.d:FD aT_:=⟨50,14,1,[.ag (aT_.q1 .v)],[.ag (aT_.q1 .d)],fun (a0,_)=>(aT_.of a0),fun r=>(aT_.to r,()),[.ag [.v,.v,.v,.v,.v,.v,.v,.v,.v]],[.ag [.v,.o,.v,.v,.v,.o,.v,.v,.v]],[.ag [.k,.own .d .iCond,.k,.k,.k,.own .d .int,.k,.k,.k]],[.cell 2 35],[],[],[],[]⟩
def db_.F (n:Nat):Pat.Ts db_.d.ps→Option aT_:=fun (a0,_)=>db_ n (aT_.of a0)
def dd_.d:FD TRow:=⟨102,10,1,[.ag (TRow.p .v)],[.ag (TRow.p .d)],fun (a0,_)=>(TRow.of a0),fun r=>(TRow.to r,()),[.ag [.v,.v]],[.ag [.v,.o]],[.ag [.k,.own .d .int]],[.cell 2 108],[],[],[],[]⟩
def dd_.F (n:Nat):Pat.Ts dd_.d.ps→Option TRow:=fun (a0,_)=>dd_ n (TRow.of a0)
def bv_.p4:OD:=⟨[(0,.view .iRow),(3,.own .d .iRow),(4,.k)],[.sl .v .iRow,.rt 1,.i .i64],[.ext,.arr .d .iRow 2]⟩
def bv_.o0:OD:=⟨[(3,.own .d .iRow)],[.rt 1],[.ext,.arr .d .iRow 2]⟩
def bv_.d:FD (List TRow):=⟨51,21,1,[.sl .v .iRow],[.sl .d .iRow],fun (a0,_)=>a0,fun r=>(r,()),[.v],[.o],[.own .d .iRow],[.tmp 2],[],[(4,bv_.p4)],[],[(0,bv_.o0)]⟩
def bv_.F (n:Nat):Pat.Ts bv_.d.ps→Option (List TRow):=fun (a0,_)=>bv_ n a0
def cj_.d:FD bB_:=⟨20,14,1,[.ag (bB_.q1 .v)],[.ag (bB_.q1 .d)],fun (a0,_)=>(bB_.of a0),fun r=>(bB_.to r,()),[.ag [.v,.v,.v,.v,.v,.v,.v,.v,.v,.v,.v]],[.ag [.v,.o,.v,.v,.v,.o,.v,.v,.v,.o,.o]],[.ag [.k,.own .d .iCond,.k,.k,.k,.own .d .int,.k,.k,.k,.own .d .iRow,.own .d .iKid]],[.cell 2 39],[],[],[],[]⟩
def cj_.F (n:Nat):Pat.Ts cj_.d.ps→Option bB_:=fun (a0,_)=>cj_ n (bB_.of a0)
def cN_.d:FD bZ_:=⟨15,16,1,[.ag (bZ_.q1 .v)],[.ag (bZ_.q1 .d)],fun (a0,_)=>(bZ_.of a0),fun r=>(bZ_.to r,()),[.ag [.v,.v,.v,.v,.v,.v,.v,.v,.v,.v,.v,.v,.v,.v,.v,.v,.v,.v,.v,.v,.v,.v,.v,.v,.v]],[.ag [.v,.o,.v,.v,.v,.o,.v,.v,.v,.o,.o,.v,.v,.o,.v,.v,.v,.o,.v,.v,.v,.o,.o,.v,.v]],[.ag [.k,.own .d .iCond,.k,.k,.k,.own .d .int,.k,.k,.k,.own .d .iRow,.own .d .iKid,.k,.k,.own .d .iCond,.k,.k,.k,.own .d .int,.k,.k,.k,.own .d .iRow,.own .d .iKid,.k,.k]],[.cell 2 41],[],[],[],[]⟩
def cN_.F (n:Nat):Pat.Ts cN_.d.ps→Option bZ_:=fun (a0,_)=>cN_ n (bZ_.of a0)
def bp_.p3:OD:=⟨[(1,.k),(2,.box [.k,.view .iCond,.k,.k,.k,.view .int,.k,.k,.k,.view .iRow,.view .iKid]),(5,.k)],[.i .i64,.pb 1 0,.i .i64],[.ext,.box (bB_.q1 .v)]⟩
def bp_.o0:OD:=⟨[],[],[.ext]⟩
def bp_.d:FD Int:=⟨93,27,1,[.ag (bB_.q1 .v),.i .i64],[.i .i64],fun (a0,_)=>a0,fun r=>(r,()),[.ag [.v,.v,.v,.v,.v,.v,.v,.v,.v,.v,.v],.v],[.v],[.k],[.tmp 4],[],[(3,bp_.p3)],[],[(0,bp_.o0)]⟩
def bp_.F (n:Nat):Pat.Ts bp_.d.ps→Option Int:=fun (a0,a1,_)=>bp_ n (bB_.of a0) a1
def aO_.p4:OD:=⟨[(1,.box [.k,.view .iCond,.k,.k,.k,.view .int,.k,.k,.k,.view .iRow,.view .iKid]),(3,.own .d .int),(4,.k)],[.pb 1 0,.rt 2,.i .i64],[.ext,.box (bB_.q1 .v),.arr .d .int 2]⟩
def aO_.o0:OD:=⟨[(3,.own .d .int)],[.rt 1],[.ext,.arr .d .int 2]⟩
def aO_.d:FD (List Int):=⟨42,25,1,[.ag (bB_.q1 .v)],[.sl .d .int],fun (a0,_)=>a0,fun r=>(r,()),[.ag [.v,.v,.v,.v,.v,.v,.v,.v,.v,.v,.v]],[.o],[.own .d .int],[.tmp 2],[],[(4,aO_.p4)],[],[(0,aO_.o0)]⟩
def aO_.F (n:Nat):Pat.Ts aO_.d.ps→Option (List Int):=fun (a0,_)=>aO_ n (bB_.of a0)
def dA_.d:FD Int:=⟨137,10,1,(TKid.p .v),[.i .i64],fun (a0,_)=>a0,fun r=>(r,()),[.v,.v],[.v],[.k],[.tmp 4],[],[],[],[]⟩
def dA_.F (n:Nat):Pat.Ts dA_.d.ps→Option Int:=fun (a0,a1,_)=>dA_ n a0 a1
def dB_.d:FD Int:=⟨136,10,1,(TKid.p .v),[.i .i64],fun (a0,_)=>a0,fun r=>(r,()),[.v,.v],[.v],[.k],[.tmp 4],[],[],[],[]⟩
def dB_.F (n:Nat):Pat.Ts dB_.d.ps→Option Int:=fun (a0,a1,_)=>dB_ n a0 a1
def cl_.d:FD Int:=⟨89,14,1,[.ag (aT_.q1 .v),.i .i64],[.i .i64],fun (a0,_)=>a0,fun r=>(r,()),[.ag [.v,.v,.v,.v,.v,.v,.v,.v,.v],.v],[.v],[.k],[.tmp 4],[],[],[],[]⟩
def cl_.F (n:Nat):Pat.Ts cl_.d.ps→Option Int:=fun (a0,a1,_)=>cl_ n (aT_.of a0) a1
def aN_.p7:OD:=⟨[(0,.k),(3,.k),(4,.k)],[.i .i64,.b,.s],[.ext]⟩
def aN_.o0:OD:=⟨[(3,.k),(4,.k)],[.b,.s],[.ext]⟩
def aN_.d:FD Bs:=⟨139,31,1,[.i .i64],[.s],fun (a0,_)=>a0,fun r=>(r,()),[.v],[.v],[.k],[.tmp 2],[],[(7,aN_.p7)],[],[(0,aN_.o0)]⟩
def aN_.F (n:Nat):Pat.Ts aN_.d.ps→Option Bs:=fun (a0,_)=>aN_ n a0
def dy_.d:FD Bool:=⟨166,15,1,(aP_.p .v),[.b],fun (a0,_)=>a0,fun r=>(r,()),[.v,.v,.v],[.v],[.k],[.tmp 6],[],[],[],[]⟩
def dy_.F (n:Nat):Pat.Ts dy_.d.ps→Option Bool:=fun (a0,a1,a2,_)=>dy_ n a0 a1 a2
def dc_.d:FD Int:=⟨140,17,1,[.ag (TRow.p .v),.i .i64],[.i .i64],fun (a0,_)=>a0,fun r=>(r,()),[.ag [.v,.v],.v],[.v],[.k],[.tmp 4],[],[],[],[]⟩
def dc_.F (n:Nat):Pat.Ts dc_.d.ps→Option Int:=fun (a0,a1,_)=>dc_ n (TRow.of a0) a1
def cv_.d:FD aa_:=⟨92,5,1,[.i .i64],[.ag (aa_.p .d)],fun (a0,_)=>(aa_.of a0),fun r=>(aa_.to r,()),[.v],[.ag [.v,.v,.v,.o,.o]],[.ag [.k,.k,.k,.own .d .iJson,.own .d .str]],[.cell 2 45],[],[],[],[]⟩
def cv_.F (n:Nat):Pat.Ts cv_.d.ps→Option aa_:=fun (a0,_)=>cv_ n a0
def bz_.p5:OD:=⟨[(1,.k),(3,.box [.k,.k,.k,.view .iJson,.view .str]),(5,.box [.k,.k,.k,.view .iJson,.view .str]),(6,.box [.k,.k,.k,.k,.k]),(7,.box [.k,.k,.k,.own .s .iJson,.own .d .str]),(8,.k),(9,.k)],[.s,.pb 1 0,.pb 2 0,.pb 3 0,.pb 4 0,.b,.i .i64],[.ext,.box (aa_.p .v),.box (aa_.p .v),.box [.i .i64,.i .i64,.s,.nils,.nils],.box [.i .i64,.i .i64,.s,.rt 5,.rt 6],.arr .s .iJson 2,.arr .d .str 2]⟩
def bz_.o0:OD:=⟨[(1,.k),(5,.box [.k,.k,.k,.view .iJson,.view .str]),(6,.box [.k,.k,.k,.k,.k]),(7,.box [.k,.k,.k,.own .s .iJson,.own .d .str]),(8,.k)],[.s,.pb 1 0,.pb 2 0,.pb 3 0,.b],[.ext,.box (aa_.p .v),.box [.i .i64,.i .i64,.s,.nils,.nils],.box [.i .i64,.i .i64,.s,.rt 4,.rt 5],.arr .s .iJson 2,.arr .d .str 2]⟩
def bz_.d:FD aa_:=⟨138,83,1,[.ag (aa_.p .v),.s,.ag (aa_.p .v)],[.ag [.i .i64,.i .i64,.s,.sl .s .iJson,.sl .d .str]],fun (a0,_)=>(aa_.of a0),fun r=>(aa_.to r,()),[.ag [.v,.v,.v,.v,.v],.v,.ag [.v,.v,.v,.v,.v]],[.ag [.v,.v,.v,.o,.o]],[.ag [.k,.k,.k,.own .s .iJson,.own .d .str]],[.cell 6 45],[],[(5,bz_.p5)],[],[(0,bz_.o0)]⟩
def bz_.F (n:Nat):Pat.Ts bz_.d.ps→Option aa_:=fun (a0,a1,a2,_)=>bz_ n (aa_.of a0) a1 (aa_.of a2)
def bg_.p4:OD:=⟨[(2,.k),(3,.box [.k,.view .iCond,.k,.k,.k,.view .int,.k,.k,.k]),(4,.box [.k,.view .int]),(6,.box [.k,.k,.k,.k,.k]),(7,.box [.k,.k,.k,.own .s .iJson,.own .d .str]),(8,.k)],[.i .i64,.pb 1 0,.pb 2 0,.pb 3 0,.pb 4 0,.i .i64],[.ext,.box (aT_.q1 .v),.box (TRow.p .v),.box [.i .i64,.i .i64,.s,.nils,.nils],.box [.i .i64,.i .i64,.s,.rt 5,.rt 6],.arr .s .iJson 2,.arr .d .str 2]⟩
def bg_.o0:OD:=⟨[(2,.k),(3,.box [.k,.view .iCond,.k,.k,.k,.view .int,.k,.k,.k]),(4,.box [.k,.view .int]),(6,.box [.k,.k,.k,.k,.k]),(7,.box [.k,.k,.k,.own .s .iJson,.own .d .str])],[.i .i64,.pb 1 0,.pb 2 0,.pb 3 0,.pb 4 0],[.ext,.box (aT_.q1 .v),.box (TRow.p .v),.box [.i .i64,.i .i64,.s,.nils,.nils],.box [.i .i64,.i .i64,.s,.rt 5,.rt 6],.arr .s .iJson 2,.arr .d .str 2]⟩
def bg_.d:FD aa_:=⟨90,46,1,[.ag (aT_.q1 .v),.ag (TRow.p .v),.i .i64],[.ag [.i .i64,.i .i64,.s,.sl .s .iJson,.sl .d .str]],fun (a0,_)=>(aa_.of a0),fun r=>(aa_.to r,()),[.ag [.v,.v,.v,.v,.v,.v,.v,.v,.v],.ag [.v,.v],.v],[.ag [.v,.v,.v,.o,.o]],[.ag [.k,.k,.k,.own .s .iJson,.own .d .str]],[.cell 6 45],[],[(4,bg_.p4)],[],[(0,bg_.o0)]⟩
def bg_.F (n:Nat):Pat.Ts bg_.d.ps→Option aa_:=fun (a0,a1,a2,_)=>bg_ n (aT_.of a0) (TRow.of a1) a2
def bj_.p3:OD:=⟨[(0,.k),(3,.k)],[.s,.i .i64],[.ext]⟩
def bj_.o0:OD:=⟨[(0,.k)],[.s],[.ext]⟩
def bj_.d:FD Bool:=⟨167,23,1,[.s],[.b],fun (a0,_)=>a0,fun r=>(r,()),[.v],[.v],[.k],[.tmp 2],[],[(3,bj_.p3)],[],[(0,bj_.o0)]⟩
def bj_.F (n:Nat):Pat.Ts bj_.d.ps→Option Bool:=fun (a0,_)=>bj_ n a0
def ag_.p6:OD:=⟨[(1,.box [.k,.k,.k,.view .iJson,.view .str]),(3,.k)],[.pb 1 0,.i .i64],[.ext,.box (aa_.p .v)]⟩
def ag_.o0:OD:=⟨[(1,.box [.k,.k,.k,.view .iJson,.view .str])],[.pb 1 0],[.ext,.box (aa_.p .v)]⟩
def ag_.d:FD Bool:=⟨168,50,1,[.ag (aa_.p .v)],[.b],fun (a0,_)=>a0,fun r=>(r,()),[.ag [.v,.v,.v,.v,.v]],[.v],[.k],[.tmp 2],[],[(6,ag_.p6)],[],[(0,ag_.o0)]⟩
def ag_.F (n:Nat):Pat.Ts ag_.d.ps→Option Bool:=fun (a0,_)=>ag_ n (aa_.of a0)
def aG_.p23:OD:=⟨[(1,.k),(2,.box [.k,.k,.k,.view .iJson,.view .str]),(5,.k),(6,.k),(7,.k)],[.i .i64,.pb 1 0,.i .i64,.i .i64,.i .i64],[.ext,.box (aa_.p .v)]⟩
def aG_.o1:OD:=⟨[(2,.box [.k,.k,.k,.view .iJson,.view .str]),(5,.k),(6,.k)],[.pb 1 0,.i .i64,.i .i64],[.ext,.box (aa_.p .v)]⟩
def aG_.d:FD Int:=⟨135,106,1,[.ag (aa_.p .v),.i .i64],[.i .i64],fun (a0,_)=>a0,fun r=>(r,()),[.ag [.v,.v,.v,.v,.v],.v],[.v],[.k],[.tmp 4],[],[(23,aG_.p23)],[],[(1,aG_.o1)]⟩
def aG_.F (n:Nat):Pat.Ts aG_.d.ps→Option Int:=fun (a0,a1,_)=>aG_ n (aa_.of a0) a1
def ch_.d:FD Bool:=⟨87,6,1,[.ag (aa_.p .v)],[.b],fun (a0,_)=>a0,fun r=>(r,()),[.ag [.v,.v,.v,.v,.v]],[.v],[.k],[.tmp 2],[],[],[],[]⟩
def ch_.F (n:Nat):Pat.Ts ch_.d.ps→Option Bool:=fun (a0,_)=>ch_ n (aa_.of a0)
def cf_.d:FD aa_:=⟨91,8,1,[.ag (aa_.p .v)],[.ag (aa_.p .v)],fun (a0,_)=>(aa_.of a0),fun r=>(aa_.to r,()),[.ag [.v,.v,.v,.v,.v]],[.ag [.v,.v,.v,.v,.v]],[.ag [.k,.k,.k,.view .iJson,.view .str]],[.cell 2 45],[],[],[],[]⟩
def cf_.F (n:Nat):Pat.Ts cf_.d.ps→Option aa_:=fun (a0,_)=>cf_ n (aa_.of a0)
def bH_.p4:OD:=⟨[(1,.view .iRow),(2,.view .int),(3,.box [.k,.view .iCond,.k,.k,.k,.view .int,.k,.k,.k]),(6,.box [.k,.k,.k,.k,.k]),(7,.box [.k,.k,.k,.own .s .iJson,.k]),(8,.k)],[.sl .v .iRow,.sl .v .int,.pb 1 0,.pb 2 0,.pb 3 0,.i .i64],[.ext,.box (aT_.q1 .v),.box [.i .i64,.i .i64,.s,.nils,.nils],.box [.i .i64,.i .i64,.s,.rt 4,.nils],.arr .s .iJson 2]⟩
def bH_.o0:OD:=⟨[(1,.view .iRow),(6,.box [.k,.k,.k,.k,.k]),(7,.box [.k,.k,.k,.own .s .iJson,.k])],[.sl .v .iRow,.pb 1 0,.pb 2 0],[.ext,.box [.i .i64,.i .i64,.s,.nils,.nils],.box [.i .i64,.i .i64,.s,.rt 3,.nils],.arr .s .iJson 2]⟩
def bH_.d:FD aa_:=⟨41,47,1,[.ag (aT_.q1 .v),.sl .v .iRow,.sl .v .int],[.ag (aa_.p .v)],fun (a0,_)=>(aa_.of a0),fun r=>(aa_.to r,()),[.ag [.v,.v,.v,.v,.v,.v,.v,.v,.v],.v,.v],[.ag [.v,.v,.v,.v,.v]],[.ag [.k,.k,.k,.view .iJson,.view .str]],[.cell 6 45],[],[(4,bH_.p4)],[],[(0,bH_.o0)]⟩
def bH_.F (n:Nat):Pat.Ts bH_.d.ps→Option aa_:=fun (a0,a1,a2,_)=>bH_ n (aT_.of a0) a1 a2
def ct_.d:FD aa_:=⟨17,10,1,[.ag (bB_.q1 .v)],[.ag (aa_.p .v)],fun (a0,_)=>(aa_.of a0),fun r=>(aa_.to r,()),[.ag [.v,.v,.v,.v,.v,.v,.v,.v,.v,.v,.v]],[.ag [.v,.v,.v,.v,.v]],[.ag [.k,.k,.k,.view .iJson,.view .str]],[.cell 2 45],[],[],[],[]⟩
def ct_.F (n:Nat):Pat.Ts ct_.d.ps→Option aa_:=fun (a0,_)=>ct_ n (bB_.of a0)
def al_.p6:OD:=⟨[(2,.box [.k,.k,.k,.view .iJson,.view .str]),(3,.box [.k,.k,.k,.view .iJson,.view .str]),(5,.k)],[.pb 1 0,.pb 2 0,.i .i64],[.ext,.box (aa_.p .v),.box (aa_.p .v)]⟩
def al_.p14:OD:=⟨[(2,.box [.k,.k,.k,.view .iJson,.view .str]),(3,.box [.k,.k,.k,.view .iJson,.view .str]),(6,.k)],[.pb 1 0,.pb 2 0,.i .i64],[.ext,.box (aa_.p .v),.box (aa_.p .v)]⟩
def al_.o0:OD:=⟨[(2,.box [.k,.k,.k,.view .iJson,.view .str]),(3,.box [.k,.k,.k,.view .iJson,.view .str])],[.pb 1 0,.pb 2 0],[.ext,.box (aa_.p .v),.box (aa_.p .v)]⟩
def al_.o2:OD:=⟨[],[],[.ext]⟩
def al_.d:FD Bool:=⟨88,81,1,[.ag (aa_.p .v),.ag (aa_.p .v)],[.b],fun (a0,_)=>a0,fun r=>(r,()),[.ag [.v,.v,.v,.v,.v],.ag [.v,.v,.v,.v,.v]],[.v],[.k],[.tmp 4],[],[(6,al_.p6),(14,al_.p14)],[],[(0,al_.o0),(2,al_.o2)]⟩
def al_.F (n:Nat):Pat.Ts al_.d.ps→Option Bool:=fun (a0,a1,_)=>al_ n (aa_.of a0) (aa_.of a1)
def cy_.d:FD Bool:=⟨40,16,1,[.ag (aa_.p .v),.ag (aa_.p .v)],[.b],fun (a0,_)=>a0,fun r=>(r,()),[.ag [.v,.v,.v,.v,.v],.ag [.v,.v,.v,.v,.v]],[.v],[.k],[.tmp 4],[],[],[],[]⟩
def cy_.F (n:Nat):Pat.Ts cy_.d.ps→Option Bool:=fun (a0,a1,_)=>cy_ n (aa_.of a0) (aa_.of a1)
def cP_.d:FD Bool:=⟨16,16,1,[.ag (bZ_.q1 .v)],[.b],fun (a0,_)=>a0,fun r=>(r,()),[.ag [.v,.v,.v,.v,.v,.v,.v,.v,.v,.v,.v,.v,.v,.v,.v,.v,.v,.v,.v,.v,.v,.v,.v,.v,.v]],[.v],[.k],[.tmp 2],[],[],[],[]⟩
def cP_.F (n:Nat):Pat.Ts cP_.d.ps→Option Bool:=fun (a0,_)=>cP_ n (bZ_.of a0)
def bd_.p3:OD:=⟨[(0,.view .iCond),(1,.view .iCond),(5,.k)],[.sl .v .iCond,.sl .v .iCond,.i .i64],[.ext]⟩
def bd_.o0:OD:=⟨[(0,.view .iCond),(1,.view .iCond)],[.sl .v .iCond,.sl .v .iCond],[.ext]⟩
def bd_.d:FD Bool:=⟨96,32,1,[.sl .v .iCond,.sl .v .iCond],[.b],fun (a0,_)=>a0,fun r=>(r,()),[.v,.v],[.v],[.k],[.tmp 4],[],[(3,bd_.p3)],[],[(0,bd_.o0)]⟩
def bd_.F (n:Nat):Pat.Ts bd_.d.ps→Option Bool:=fun (a0,a1,_)=>bd_ n a0 a1
def bu_.p3:OD:=⟨[(0,.view .int),(1,.view .int),(5,.k)],[.sl .v .int,.sl .v .int,.i .i64],[.ext]⟩
def bu_.o0:OD:=⟨[(0,.view .int),(1,.view .int)],[.sl .v .int,.sl .v .int],[.ext]⟩
def bu_.d:FD Bool:=⟨97,32,1,[.sl .v .int,.sl .v .int],[.b],fun (a0,_)=>a0,fun r=>(r,()),[.v,.v],[.v],[.k],[.tmp 4],[],[(3,bu_.p3)],[],[(0,bu_.o0)]⟩
def bu_.F (n:Nat):Pat.Ts bu_.d.ps→Option Bool:=fun (a0,a1,_)=>bu_ n a0 a1
def b8_.d:FD Bool:=⟨45,66,1,[.ag (aT_.q1 .v),.ag (aT_.q1 .v)],[.b],fun (a0,_)=>a0,fun r=>(r,()),[.ag [.v,.v,.v,.v,.v,.v,.v,.v,.v],.ag [.v,.v,.v,.v,.v,.v,.v,.v,.v]],[.v],[.k],[.tmp 4],[],[],[],[]⟩
def b8_.F (n:Nat):Pat.Ts b8_.d.ps→Option Bool:=fun (a0,a1,_)=>b8_ n (aT_.of a0) (aT_.of a1)
def dC_.d:FD aa_:=⟨46,11,1,[.i .i64],[.ag (aa_.p .d)],fun (a0,_)=>(aa_.of a0),fun r=>(aa_.to r,()),[.v],[.ag [.v,.v,.v,.o,.o]],[.ag [.k,.k,.k,.own .d .iJson,.own .d .str]],[.cell 2 45],[],[],[],[]⟩
def dC_.F (n:Nat):Pat.Ts dC_.d.ps→Option aa_:=fun (a0,_)=>dC_ n a0
def de_.d:FD aa_:=⟨98,12,1,[.ag (aT_.q1 .v),.ag (TRow.p .v),.i .i64],[.ag (aa_.p .v)],fun (a0,_)=>(aa_.of a0),fun r=>(aa_.to r,()),[.ag [.v,.v,.v,.v,.v,.v,.v,.v,.v],.ag [.v,.v],.v],[.ag [.v,.v,.v,.v,.v]],[.ag [.k,.k,.k,.view .iJson,.view .str]],[.cell 6 45],[],[],[],[]⟩
def de_.F (n:Nat):Pat.Ts de_.d.ps→Option aa_:=fun (a0,a1,a2,_)=>de_ n (aT_.of a0) (TRow.of a1) a2
def a2_.p5:OD:=⟨[(1,.box [.k,.view .iCond,.k,.k,.k,.view .int,.k,.k,.k,.view .iRow,.view .iKid]),(4,.own .s .iJson),(5,.own .d .int),(6,.k)],[.pb 1 0,.rt 2,.rt 3,.i .i64],[.ext,.box (bB_.q1 .v),.arr .s .iJson 2,.arr .d .int 2]⟩
def a2_.o0:OD:=⟨[(4,.own .s .iJson),(5,.own .d .int)],[.rt 1,.rt 2],[.ext,.arr .s .iJson 2,.arr .d .int 2]⟩
def a2_.d:FD ((List aa_) × (List Int)):=⟨47,49,1,[.ag (bB_.q1 .v)],[.sl .s .iJson,.sl .d .int],fun (a0,a1,_)=>(a0,a1),fun (a0,a1)=>(a0,a1,()),[.ag [.v,.v,.v,.v,.v,.v,.v,.v,.v,.v,.v]],[.o,.o],[.own .s .iJson,.own .d .int],[.tmp 2,.tmp 3],[],[(5,a2_.p5)],[],[(0,a2_.o0)]⟩
def a2_.F (n:Nat):Pat.Ts a2_.d.ps→Option ((List aa_) × (List Int)):=fun (a0,_)=>a2_ n (bB_.of a0)
def bM_.p3:OD:=⟨[(0,.view .int),(1,.k),(5,.k)],[.sl .v .int,.i .i64,.i .i64],[.ext]⟩
def bM_.o0:OD:=⟨[],[],[.ext]⟩
def bM_.d:FD Int:=⟨145,19,1,[.sl .v .int,.i .i64],[.i .i64],fun (a0,_)=>a0,fun r=>(r,()),[.v,.v],[.v],[.k],[.tmp 4],[],[(3,bM_.p3)],[],[(0,bM_.o0)]⟩
def bM_.F (n:Nat):Pat.Ts bM_.d.ps→Option Int:=fun (a0,a1,_)=>bM_ n a0 a1
def aD_.p3:OD:=⟨[(0,.view .int),(1,.view .iJson),(5,.k)],[.sl .v .int,.sl .v .iJson,.i .i64],[.ext]⟩
def aD_.p11:OD:=⟨[(0,.view .int),(1,.view .iJson),(6,.k)],[.sl .v .int,.sl .v .iJson,.i .i64],[.ext]⟩
def aD_.o0:OD:=⟨[(0,.view .int),(1,.view .iJson)],[.sl .v .int,.sl .v .iJson],[.ext]⟩
def aD_.o2:OD:=⟨[(0,.view .int),(1,.view .iJson)],[.sl .v .int,.sl .v .iJson],[.ext]⟩
def aD_.d:FD Bool:=⟨100,39,1,[.sl .v .int,.sl .v .iJson],[.b],fun (a0,_)=>a0,fun r=>(r,()),[.v,.v],[.v],[.k],[.tmp 4],[],[(3,aD_.p3),(11,aD_.p11)],[],[(0,aD_.o0),(2,aD_.o2)]⟩
def aD_.F (n:Nat):Pat.Ts aD_.d.ps→Option Bool:=fun (a0,a1,_)=>aD_ n a0 a1
def b0_.d:FD (List Int):=⟨146,15,1,[.sl .v .int,.i .i64],[.sl .d .int],fun (a0,_)=>a0,fun r=>(r,()),[.v,.v],[.o],[.own .d .int],[.tmp 4],[],[],[],[]⟩
def b0_.F (n:Nat):Pat.Ts b0_.d.ps→Option (List Int):=fun (a0,a1,_)=>b0_ n a0 a1
def a7_.p4:OD:=⟨[(1,.box [.k,.k,.k,.view .iJson,.view .str]),(2,.box [.k,.k,.k,.k,.k]),(3,.box [.k,.k,.k,.own .d .iJson,.own .d .str]),(4,.k)],[.pb 1 0,.pb 2 0,.pb 3 0,.i .i64],[.ext,.box (aa_.p .v),.box [.i .i64,.i .i64,.s,.nils,.nils],.box [.i .i64,.i .i64,.s,.rt 4,.rt 5],.arr .d .iJson 2,.arr .d .str 2]⟩
def a7_.o0:OD:=⟨[(2,.box [.k,.k,.k,.k,.k]),(3,.box [.k,.k,.k,.own .d .iJson,.own .d .str])],[.pb 1 0,.pb 2 0],[.ext,.box [.i .i64,.i .i64,.s,.nils,.nils],.box [.i .i64,.i .i64,.s,.rt 3,.rt 4],.arr .d .iJson 2,.arr .d .str 2]⟩
def a7_.d:FD aa_:=⟨99,35,1,[.ag (aa_.p .v)],[.ag (aa_.p .d)],fun (a0,_)=>(aa_.of a0),fun r=>(aa_.to r,()),[.ag [.v,.v,.v,.v,.v]],[.ag [.v,.v,.v,.o,.o]],[.ag [.k,.k,.k,.own .d .iJson,.own .d .str]],[.cell 2 45],[],[(4,a7_.p4)],[],[(0,a7_.o0)]⟩
def a7_.F (n:Nat):Pat.Ts a7_.d.ps→Option aa_:=fun (a0,_)=>a7_ n (aa_.of a0)
def ck_.d:FD (List Int):=⟨147,22,1,[.sl .v .int,.i .i64,.i .i64],[.sl .d .int],fun (a0,_)=>a0,fun r=>(r,()),[.v,.v,.v],[.o],[.own .d .int],[.tmp 6],[],[],[],[]⟩
def ck_.F (n:Nat):Pat.Ts ck_.d.ps→Option (List Int):=fun (a0,a1,a2,_)=>ck_ n a0 a1 a2
def aA_.p5:OD:=⟨[(0,.view .iJson),(1,.view .int),(2,.view .iJson),(3,.view .int),(9,.own .d .iOp),(10,.own .d .int),(11,.k)],[.sl .v .iJson,.sl .v .int,.sl .v .iJson,.sl .v .int,.rt 1,.rt 2,.i .i64],[.ext,.arr .d .iOp 2,.arr .d .int 2]⟩
def aA_.p13:OD:=⟨[(0,.view .iJson),(1,.view .int),(2,.view .iJson),(3,.view .int),(9,.own .d .iOp),(10,.own .d .int),(12,.k)],[.sl .v .iJson,.sl .v .int,.sl .v .iJson,.sl .v .int,.rt 1,.rt 2,.i .i64],[.ext,.arr .d .iOp 2,.arr .d .int 2]⟩
def aA_.o0:OD:=⟨[(0,.view .iJson),(1,.view .int),(2,.view .iJson),(3,.view .int),(9,.own .d .iOp),(10,.own .d .int)],[.sl .v .iJson,.sl .v .int,.sl .v .iJson,.sl .v .int,.rt 1,.rt 2],[.ext,.arr .d .iOp 2,.arr .d .int 2]⟩
def aA_.o2:OD:=⟨[(9,.own .d .iOp)],[.rt 1],[.ext,.arr .d .iOp 2]⟩
def aA_.d:FD (List TOp):=⟨101,116,1,[.sl .v .iJson,.sl .v .int,.sl .v .iJson,.sl .v .int],[.sl .d .iOp],fun (a0,_)=>a0,fun r=>(r,()),[.v,.v,.v,.v],[.o],[.own .d .iOp],[.tmp 8],[],[(5,aA_.p5),(13,aA_.p13)],[],[(0,aA_.o0),(2,aA_.o2)]⟩
def aA_.F (n:Nat):Pat.Ts aA_.d.ps→Option (List TOp):=fun (a0,a1,a2,a3,_)=>aA_ n a0 a1 a2 a3
def dP_.d:FD (List TOp):=⟨49,25,1,[.sl .v .iJson,.sl .v .int,.sl .v .iJson,.sl .v .int],[.sl .d .iOp],fun (a0,_)=>a0,fun r=>(r,()),[.v,.v,.v,.v],[.o],[.own .d .iOp],[.tmp 8],[],[],[],[]⟩
def dP_.F (n:Nat):Pat.Ts dP_.d.ps→Option (List TOp):=fun (a0,a1,a2,a3,_)=>dP_ n a0 a1 a2 a3
def bF_.p4:OD:=⟨[(0,.k),(1,.view .iOp),(5,.own .d .iOp),(6,.k)],[.s,.sl .v .iOp,.rt 1,.i .i64],[.ext,.arr .d .iOp 2]⟩
def bF_.o0:OD:=⟨[(5,.own .d .iOp)],[.rt 1],[.ext,.arr .d .iOp 2]⟩
def bF_.d:FD (List TOp):=⟨48,38,1,[.s,.sl .v .iOp],[.sl .d .iOp],fun (a0,_)=>a0,fun r=>(r,()),[.v,.v],[.o],[.own .d .iOp],[.tmp 4],[],[(4,bF_.p4)],[],[(0,bF_.o0)]⟩
def bF_.F (n:Nat):Pat.Ts bF_.d.ps→Option (List TOp):=fun (a0,a1,_)=>bF_ n a0 a1
def b1_.d:FD (List TOp):=⟨19,52,1,[.ag (bB_.q1 .v),.ag (bB_.q1 .v)],[.sl .d .iOp],fun (a0,_)=>a0,fun r=>(r,()),[.ag [.v,.v,.v,.v,.v,.v,.v,.v,.v,.v,.v],.ag [.v,.v,.v,.v,.v,.v,.v,.v,.v,.v,.v]],[.o],[.own .d .iOp],[.tmp 4],[],[],[],[]⟩
def b1_.F (n:Nat):Pat.Ts b1_.d.ps→Option (List TOp):=fun (a0,a1,_)=>b1_ n (bB_.of a0) (bB_.of a1)
def bN_.p6:OD:=⟨[(1,.box [.k,.view .str,.k,.k,.k,.view .iJson,.view .str]),(3,.k)],[.pb 1 0,.i .i64],[.ext,.box (TOp.p .v)]⟩
def bN_.o0:OD:=⟨[(1,.box [.k,.view .str,.k,.k,.k,.view .iJson,.view .str])],[.pb 1 0],[.ext,.box (TOp.p .v)]⟩
def bN_.d:FD Bool:=⟨141,43,1,[.ag (TOp.p .v)],[.b],fun (a0,_)=>a0,fun r=>(r,()),[.ag [.v,.v,.v,.v,.v,.v,.v]],[.v],[.k],[.tmp 2],[],[(6,bN_.p6)],[],[(0,bN_.o0)]⟩
def bN_.F (n:Nat):Pat.Ts bN_.d.ps→Option Bool:=fun (a0,_)=>bN_ n (TOp.of a0)
def cM_.d:FD (List Bs):=⟨142,2,1,[],[.sl .d .str],fun (a0,_)=>a0,fun r=>(r,()),[],[.o],[.own .d .str],[.tmp 0],[],[],[],[]⟩
def cM_.F (n:Nat):Pat.Ts cM_.d.ps→Option (List Bs):=fun _=>cM_ n ()
def aw_.p4:OD:=⟨[(0,.view .str),(3,.own .d .u8),(4,.k)],[.sl .v .str,.rt 1,.i .i64],[.ext,.arr .d .u8 2]⟩
def aw_.p10:OD:=⟨[(0,.view .str),(3,.own .d .u8),(4,.k),(5,.k)],[.sl .v .str,.rt 1,.i .i64,.i .i64],[.ext,.arr .d .u8 2]⟩
def aw_.o0:OD:=⟨[(3,.own .d .u8)],[.rt 1],[.ext,.arr .d .u8 2]⟩
def aw_.o2:OD:=⟨[(0,.view .str),(3,.own .d .u8),(4,.k)],[.sl .v .str,.rt 1,.i .i64],[.ext,.arr .d .u8 2]⟩
def aw_.d:FD Bs:=⟨143,52,1,[.sl .v .str],[.s],fun (a0,_)=>a0,fun r=>(r,()),[.v],[.v],[.k],[.tmp 2],[],[(10,aw_.p10),(4,aw_.p4)],[],[(0,aw_.o0),(2,aw_.o2)]⟩
def aw_.F (n:Nat):Pat.Ts aw_.d.ps→Option Bs:=fun (a0,_)=>aw_ n a0
def df_.d:FD aa_:=⟨94,34,1,[.ag (TOp.p .v)],[.ag [.i .i64,.i .i64,.s,.sl .s .iJson,.sl .d .str]],fun (a0,_)=>(aa_.of a0),fun r=>(aa_.to r,()),[.ag [.v,.v,.v,.v,.v,.v,.v]],[.ag [.v,.v,.v,.o,.o]],[.ag [.k,.k,.k,.own .s .iJson,.own .d .str]],[.cell 2 45],[],[],[],[]⟩
def df_.F (n:Nat):Pat.Ts df_.d.ps→Option aa_:=fun (a0,_)=>df_ n (TOp.of a0)
def a3_.p4:OD:=⟨[(0,.k),(3,.own .d .u8),(4,.k)],[.s,.rt 1,.i .i64],[.ext,.arr .d .u8 2]⟩
def a3_.o0:OD:=⟨[(3,.own .d .u8)],[.rt 1],[.ext,.arr .d .u8 2]⟩
def a3_.d:FD Bs:=⟨144,35,1,[.s],[.s],fun (a0,_)=>a0,fun r=>(r,()),[.v],[.v],[.k],[.tmp 2],[],[(4,a3_.p4)],[],[(0,a3_.o0)]⟩
def a3_.F (n:Nat):Pat.Ts a3_.d.ps→Option Bs:=fun (a0,_)=>a3_ n a0
def aE_.p17:OD:=⟨[(1,.box [.k,.k,.k,.view .iJson,.view .str]),(3,.k),(4,.k)],[.pb 1 0,.s,.i .i64],[.ext,.box (aa_.p .v)]⟩
def aE_.o1:OD:=⟨[(1,.box [.k,.k,.k,.view .iJson,.view .str]),(3,.k)],[.pb 1 0,.s],[.ext,.box (aa_.p .v)]⟩
def aE_.d:FD Bs:=⟨95,64,1,[.ag (aa_.p .v)],[.s],fun (a0,_)=>a0,fun r=>(r,()),[.ag [.v,.v,.v,.v,.v]],[.v],[.k],[.tmp 2],[],[(17,aE_.p17)],[],[(1,aE_.o1)]⟩
def aE_.F (n:Nat):Pat.Ts aE_.d.ps→Option Bs:=fun (a0,_)=>aE_ n (aa_.of a0)
def cX_.d:FD Bs:=⟨44,13,1,[.ag (aa_.p .v)],[.s],fun (a0,_)=>a0,fun r=>(r,()),[.ag [.v,.v,.v,.v,.v]],[.v],[.k],[.tmp 2],[],[],[],[]⟩
def cX_.F (n:Nat):Pat.Ts cX_.d.ps→Option Bs:=fun (a0,_)=>cX_ n (aa_.of a0)
def aJ_.p4:OD:=⟨[(0,.view .iOp),(3,.box [.k,.k,.k,.own .s .iJson,.k]),(4,.k)],[.sl .v .iOp,.pb 1 0,.i .i64],[.ext,.box [.i .i64,.i .i64,.s,.rt 2,.nils],.arr .s .iJson 2]⟩
def aJ_.o0:OD:=⟨[(3,.box [.k,.k,.k,.own .s .iJson,.k])],[.pb 1 0],[.ext,.box [.i .i64,.i .i64,.s,.rt 2,.nils],.arr .s .iJson 2]⟩
def aJ_.d:FD Int:=⟨43,34,1,[.sl .v .iOp],[.i .i64],fun (a0,_)=>a0,fun r=>(r,()),[.v],[.v],[.k],[.tmp 2],[],[(4,aJ_.p4)],[],[(0,aJ_.o0)]⟩
def aJ_.F (n:Nat):Pat.Ts aJ_.d.ps→Option Int:=fun (a0,_)=>aJ_ n a0
def cO_.d:FD Bool:=⟨18,27,1,[.ag (bB_.q1 .v),.ag (bB_.q1 .v)],[.b],fun (a0,_)=>a0,fun r=>(r,()),[.ag [.v,.v,.v,.v,.v,.v,.v,.v,.v,.v,.v],.ag [.v,.v,.v,.v,.v,.v,.v,.v,.v,.v,.v]],[.v],[.k],[.tmp 4],[],[],[],[]⟩
def cO_.F (n:Nat):Pat.Ts cO_.d.ps→Option Bool:=fun (a0,a1,_)=>cO_ n (bB_.of a0) (bB_.of a1)
def cx_.d:FD (bZ_ × cI_ × Bool):=⟨5,49,1,[.ag (bZ_.q1 .v)],[.ag (bZ_.q1 .d),.ag [.i .i64,.i .i64,.i .i64,.i .i64,.i .i64,.s,.sl .v .iJson,.sl .v .str,.sl .d .iOp],.b],fun (a0,a1,a2,_)=>((bZ_.of a0),(cI_.of a1),a2),fun (a0,a1,a2)=>(bZ_.to a0,cI_.to a1,a2,()),[.ag [.v,.v,.v,.v,.v,.v,.v,.v,.v,.v,.v,.v,.v,.v,.v,.v,.v,.v,.v,.v,.v,.v,.v,.v,.v]],[.ag [.v,.o,.v,.v,.v,.o,.v,.v,.v,.o,.o,.v,.v,.o,.v,.v,.v,.o,.v,.v,.v,.o,.o,.v,.v],.ag [.v,.v,.v,.v,.v,.v,.v,.v,.o],.v],[.ag [.k,.own .d .iCond,.k,.k,.k,.own .d .int,.k,.k,.k,.own .d .iRow,.own .d .iKid,.k,.k,.own .d .iCond,.k,.k,.k,.own .d .int,.k,.k,.k,.own .d .iRow,.own .d .iKid,.k,.k],.ag [.k,.k,.k,.k,.k,.k,.view .iJson,.view .str,.own .d .iOp],.k],[.cell 2 41,.cell 3 48,.tmp 4],[],[],[],[]⟩
def cx_.F (n:Nat):Pat.Ts cx_.d.ps→Option (bZ_ × cI_ × Bool):=fun (a0,_)=>cx_ n (bZ_.of a0)
def cr_.d:FD (List Int):=⟨125,6,1,[.sl .v .int],[.sl .d .int],fun (a0,_)=>a0,fun r=>(r,()),[.v],[.o],[.own .d .int],[.tmp 2],[],[],[],[]⟩
def cr_.F (n:Nat):Pat.Ts cr_.d.ps→Option (List Int):=fun (a0,_)=>cr_ n a0
def cc_.d:FD aT_:=⟨65,13,1,[.ag (aT_.q1 .v)],[.ag (aT_.q1 .d)],fun (a0,_)=>(aT_.of a0),fun r=>(aT_.to r,()),[.ag [.v,.v,.v,.v,.v,.v,.v,.v,.v]],[.ag [.v,.o,.v,.v,.v,.o,.v,.v,.v]],[.ag [.k,.own .d .iCond,.k,.k,.k,.own .d .int,.k,.k,.k]],[.cell 2 35],[],[],[],[]⟩
def cc_.F (n:Nat):Pat.Ts cc_.d.ps→Option aT_:=fun (a0,_)=>cc_ n (aT_.of a0)
def cU_.d:FD TRow:=⟨126,9,1,[.ag (TRow.p .v)],[.ag (TRow.p .d)],fun (a0,_)=>(TRow.of a0),fun r=>(TRow.to r,()),[.ag [.v,.v]],[.ag [.v,.o]],[.ag [.k,.own .d .int]],[.cell 2 108],[],[],[],[]⟩
def cU_.F (n:Nat):Pat.Ts cU_.d.ps→Option TRow:=fun (a0,_)=>cU_ n (TRow.of a0)
def aZ_.p4:OD:=⟨[(3,.own .d .iRow),(7,.view .iRow),(8,.k),(9,.k)],[.rt 1,.sl .v .iRow,.i .i64,.i .i64],[.ext,.arr .d .iRow 2]⟩
def aZ_.o0:OD:=⟨[(3,.own .d .iRow)],[.rt 1],[.ext,.arr .d .iRow 2]⟩
def aZ_.d:FD (List TRow):=⟨66,20,1,[.sl .v .iRow],[.sl .d .iRow],fun (a0,_)=>a0,fun r=>(r,()),[.v],[.o],[.own .d .iRow],[.tmp 2],[],[(4,aZ_.p4)],[],[(0,aZ_.o0)]⟩
def aZ_.F (n:Nat):Pat.Ts aZ_.d.ps→Option (List TRow):=fun (a0,_)=>aZ_ n a0
def bY_.d:FD bB_:=⟨27,14,1,[.ag (bB_.q1 .v)],[.ag (bB_.q1 .d)],fun (a0,_)=>(bB_.of a0),fun r=>(bB_.to r,()),[.ag [.v,.v,.v,.v,.v,.v,.v,.v,.v,.v,.v]],[.ag [.v,.o,.v,.v,.v,.o,.v,.v,.v,.o,.o]],[.ag [.k,.own .d .iCond,.k,.k,.k,.own .d .int,.k,.k,.k,.own .d .iRow,.own .d .iKid]],[.cell 2 39],[],[],[],[]⟩
def bY_.F (n:Nat):Pat.Ts bY_.d.ps→Option bB_:=fun (a0,_)=>bY_ n (bB_.of a0)
def cC_.d:FD bZ_:=⟨22,12,1,[.ag (bZ_.q1 .v)],[.ag (bZ_.q1 .d)],fun (a0,_)=>(bZ_.of a0),fun r=>(bZ_.to r,()),[.ag [.v,.v,.v,.v,.v,.v,.v,.v,.v,.v,.v,.v,.v,.v,.v,.v,.v,.v,.v,.v,.v,.v,.v,.v,.v]],[.ag [.v,.o,.v,.v,.v,.o,.v,.v,.v,.o,.o,.v,.v,.o,.v,.v,.v,.o,.v,.v,.v,.o,.o,.v,.v]],[.ag [.k,.own .d .iCond,.k,.k,.k,.own .d .int,.k,.k,.k,.own .d .iRow,.own .d .iKid,.k,.k,.own .d .iCond,.k,.k,.k,.own .d .int,.k,.k,.k,.own .d .iRow,.own .d .iKid,.k,.k]],[.cell 2 41],[],[],[],[]⟩
def cC_.F (n:Nat):Pat.Ts cC_.d.ps→Option bZ_:=fun (a0,_)=>cC_ n (bZ_.of a0)
def by_.p3:OD:=⟨[(1,.k),(8,.view .iKid),(9,.k),(10,.k)],[.i .i64,.sl .v .iKid,.i .i64,.i .i64],[.ext]⟩
def by_.o0:OD:=⟨[],[],[.ext]⟩
def by_.d:FD Int:=⟨113,21,1,[.ag (bB_.q1 .v),.i .i64],[.i .i64],fun (a0,_)=>a0,fun r=>(r,()),[.ag [.v,.v,.v,.v,.v,.v,.v,.v,.v,.v,.v],.v],[.v],[.k],[.tmp 4],[],[(3,by_.p3)],[],[(0,by_.o0)]⟩
def by_.F (n:Nat):Pat.Ts by_.d.ps→Option Int:=fun (a0,a1,_)=>by_ n (bB_.of a0) a1
def aF_.p4:OD:=⟨[(1,.box [.k,.view .iCond,.k,.k,.k,.view .int,.k,.k,.k,.view .iRow,.view .iKid]),(3,.own .d .int),(8,.view .iRow),(9,.k),(10,.k)],[.pb 1 0,.rt 2,.sl .v .iRow,.i .i64,.i .i64],[.ext,.box (bB_.q1 .v),.arr .d .int 2]⟩
def aF_.o0:OD:=⟨[(3,.own .d .int)],[.rt 1],[.ext,.arr .d .int 2]⟩
def aF_.d:FD (List Int):=⟨57,23,1,[.ag (bB_.q1 .v)],[.sl .d .int],fun (a0,_)=>a0,fun r=>(r,()),[.ag [.v,.v,.v,.v,.v,.v,.v,.v,.v,.v,.v]],[.o],[.own .d .int],[.tmp 2],[],[(4,aF_.p4)],[],[(0,aF_.o0)]⟩
def aF_.F (n:Nat):Pat.Ts aF_.d.ps→Option (List Int):=fun (a0,_)=>aF_ n (bB_.of a0)
def cT_.d:FD Int:=⟨152,14,1,[.ag (aT_.q1 .v),.i .i64],[.i .i64],fun (a0,_)=>a0,fun r=>(r,()),[.ag [.v,.v,.v,.v,.v,.v,.v,.v,.v],.v],[.v],[.k],[.tmp 4],[],[],[],[]⟩
def cT_.F (n:Nat):Pat.Ts cT_.d.ps→Option Int:=fun (a0,a1,_)=>cT_ n (aT_.of a0) a1
def aB_.p3:OD:=⟨[(0,.view .int),(1,.k),(7,.k),(8,.k)],[.sl .v .int,.i .i64,.i .i64,.i .i64],[.ext]⟩
def aB_.o0:OD:=⟨[],[],[.ext]⟩
def aB_.d:FD Int:=⟨180,19,1,[.sl .v .int,.i .i64],[.i .i64],fun (a0,_)=>a0,fun r=>(r,()),[.v,.v],[.v],[.k],[.tmp 4],[],[(3,aB_.p3)],[],[(0,aB_.o0)]⟩
def aB_.F (n:Nat):Pat.Ts aB_.d.ps→Option Int:=fun (a0,a1,_)=>aB_ n a0 a1
def br_.d:FD Bool:=⟨160,9,1,[.sl .v .int,.i .i64],[.b],fun (a0,_)=>a0,fun r=>(r,()),[.v,.v],[.v],[.k],[.tmp 4],[],[],[],[]⟩
def br_.F (n:Nat):Pat.Ts br_.d.ps→Option Bool:=fun (a0,a1,_)=>br_ n a0 a1
def strconv_Itoa.d:FD Bs:=⟨157,5,1,[.i .i64],[.s],fun (a0,_)=>a0,fun r=>(r,()),[.v],[],[],[.tmp 2],[],[],[],[]⟩
def strconv_Itoa.F (n:Nat):Pat.Ts strconv_Itoa.d.ps→Option Bs:=fun (a0,_)=>strconv_Itoa n a0
def dk_.d:FD Bs:=⟨170,5,1,[.i .i64],[.s],fun (a0,_)=>a0,fun r=>(r,()),[.v],[.v],[.k],[.tmp 2],[],[],[],[]⟩
def dk_.F (n:Nat):Pat.Ts dk_.d.ps→Option Bs:=fun (a0,_)=>dk_ n a0
def aY_.d:FD Bool:=⟨182,15,1,(aP_.p .v),[.b],fun (a0,_)=>a0,fun r=>(r,()),[.v,.v,.v],[.v],[.k],[.tmp 6],[],[],[],[]⟩
def aY_.F (n:Nat):Pat.Ts aY_.d.ps→Option Bool:=fun (a0,a1,a2,_)=>aY_ n a0 a1 a2
def dm_.d:FD Int:=⟨171,17,1,[.ag (TRow.p .v),.i .i64],[.i .i64],fun (a0,_)=>a0,fun r=>(r,()),[.ag [.v,.v],.v],[.v],[.k],[.tmp 4],[],[],[],[]⟩
def dm_.F (n:Nat):Pat.Ts dm_.d.ps→Option Int:=fun (a0,a1,_)=>dm_ n (TRow.of a0) a1
def bL_.d:FD Bool:=⟨208,6,1,[.s],[.b],fun (a0,_)=>a0,fun r=>(r,()),[.v],[.v],[.k],[.tmp 2],[],[],[],[]⟩
def bL_.F (n:Nat):Pat.Ts bL_.d.ps→Option Bool:=fun (a0,_)=>bL_ n a0
def bS_.d:FD Bool:=⟨195,17,1,[.s,.s],[.b],fun (a0,_)=>a0,fun r=>(r,()),[.v,.v],[.v],[.k],[.tmp 4],[],[],[],[]⟩
def bS_.F (n:Nat):Pat.Ts bS_.d.ps→Option Bool:=fun (a0,a1,_)=>bS_ n a0 a1
def bq_.d:FD Bool:=⟨196,6,1,[.s],[.b],fun (a0,_)=>a0,fun r=>(r,()),[.v],[.v],[.k],[.tmp 2],[],[],[],[]⟩
def bq_.F (n:Nat):Pat.Ts bq_.d.ps→Option Bool:=fun (a0,_)=>bq_ n a0
def af_.p4:OD:=⟨[(0,.view .str),(1,.k),(6,.k),(7,.k),(8,.k)],[.sl .v .str,.s,.i .i64,.i .i64,.i .i64],[.ext]⟩
def af_.o0:OD:=⟨[(0,.view .str),(1,.k),(6,.k),(7,.k)],[.sl .v .str,.s,.i .i64,.i .i64],[.ext]⟩
def af_.d:FD (Int × Bool):=⟨186,54,1,[.sl .v .str,.s],[.i .i64,.b],fun (a0,a1,_)=>(a0,a1),fun (a0,a1)=>(a0,a1,()),[.v,.v],[.v,.v],[.k,.k],[.tmp 4,.tmp 5],[],[(4,af_.p4)],[],[(0,af_.o0)]⟩
def af_.F (n:Nat):Pat.Ts af_.d.ps→Option (Int × Bool):=fun (a0,a1,_)=>af_ n a0 a1
def bK_.d:FD (List Bs):=⟨187,95,1,[.sl .d .str,.i .i64,.sl .d .str],[.sl .d .str],fun (a0,_)=>a0,fun r=>(r,()),[.o,.v,.o],[],[],[.tmp 6],[],[],[],[]⟩
def bK_.F (n:Nat):Pat.Ts bK_.d.ps→Option (List Bs):=fun (a0,a1,a2,_)=>bK_ n a0 a1 a2
def bR_.d:FD (List aa_):=⟨188,95,1,[.sl .d .iJson,.i .i64,.sl .d .iJson],[.sl .d .iJson],fun (a0,_)=>a0,fun r=>(r,()),[.o,.v,.o],[],[],[.tmp 6],[],[],[],[]⟩
def bR_.F (n:Nat):Pat.Ts bR_.d.ps→Option (List aa_):=fun (a0,a1,a2,_)=>bR_ n a0 a1 a2
def bC_.p4:OD:=⟨[(1,.view .int),(4,.box [.k,.k,.k,.k,.k]),(5,.box [.k,.k,.k,.own .d .iJson,.own .d .str]),(11,.view .str),(12,.k),(13,.k)],[.sl .v .int,.pb 1 0,.pb 2 0,.sl .v .str,.i .i64,.i .i64],[.ext,.box [.i .i64,.i .i64,.s,.nils,.nils],.box [.i .i64,.i .i64,.s,.rt 3,.rt 4],.arr .d .iJson 2,.arr .d .str 2]⟩
def bC_.o0:OD:=⟨[(4,.box [.k,.k,.k,.k,.k]),(5,.box [.k,.k,.k,.own .d .iJson,.own .d .str])],[.pb 1 0,.pb 2 0],[.ext,.box [.i .i64,.i .i64,.s,.nils,.nils],.box [.i .i64,.i .i64,.s,.rt 3,.rt 4],.arr .d .iJson 2,.arr .d .str 2]⟩
def bC_.d:FD aa_:=⟨172,45,1,[.sl .v .str,.sl .v .int],[.ag (aa_.p .d)],fun (a0,_)=>(aa_.of a0),fun r=>(aa_.to r,()),[.v,.v],[.ag [.v,.v,.v,.o,.o]],[.ag [.k,.k,.k,.own .d .iJson,.own .d .str]],[.cell 4 45],[],[(4,bC_.p4)],[],[(0,bC_.o0)]⟩
def bC_.F (n:Nat):Pat.Ts bC_.d.ps→Option aa_:=fun (a0,a1,_)=>bC_ n a0 a1
def bA_.d:FD Bool:=⟨183,5,1,[.i .i64],[.b],fun (a0,_)=>a0,fun r=>(r,()),[.v],[.v],[.k],[.tmp 2],[],[],[],[]⟩
def bA_.F (n:Nat):Pat.Ts bA_.d.ps→Option Bool:=fun (a0,_)=>bA_ n a0
def ax_.p3:OD:=⟨[(0,.k),(5,.k),(6,.k)],[.s,.i .i64,.i .i64],[.ext]⟩
def ax_.o0:OD:=⟨[(0,.k)],[.s],[.ext]⟩
def ax_.d:FD Bool:=⟨184,19,1,[.s],[.b],fun (a0,_)=>a0,fun r=>(r,()),[.v],[.v],[.k],[.tmp 2],[],[(3,ax_.p3)],[],[(0,ax_.o0)]⟩
def ax_.F (n:Nat):Pat.Ts ax_.d.ps→Option Bool:=fun (a0,_)=>ax_ n a0
def am_.p3:OD:=⟨[(0,.view .str),(5,.view .str),(6,.k),(7,.k)],[.sl .v .str,.sl .v .str,.i .i64,.i .i64],[.ext]⟩
def am_.o0:OD:=⟨[],[],[.ext]⟩
def am_.d:FD Bool:=⟨185,29,1,[.sl .v .str],[.b],fun (a0,_)=>a0,fun r=>(r,()),[.v],[.v],[.k],[.tmp 2],[],[(3,am_.p3)],[],[(0,am_.o0)]⟩
def am_.F (n:Nat):Pat.Ts am_.d.ps→Option Bool:=fun (a0,_)=>am_ n a0
def dH_.d:FD Bool:=⟨169,90,1,[.ag (aa_.p .v)],[.b],fun (a0,_)=>a0,fun r=>(r,()),[.ag [.v,.v,.v,.v,.v]],[.v],[.k],[.tmp 2],[],[],[],[]⟩
def dH_.F (n:Nat):Pat.Ts dH_.d.ps→Option Bool:=fun (a0,_)=>dH_ n (aa_.of a0)
def a8_.p7:OD:=⟨[(1,.k),(5,.k),(16,.view .iJson),(17,.k),(18,.k)],[.i .i64,.i .i64,.sl .v .iJson,.i .i64,.i .i64],[.ext]⟩
def a8_.o0:OD:=⟨[(5,.k)],[.i .i64],[.ext]⟩
def a8_.d:FD Int:=⟨149,32,1,[.ag (aa_.p .v),.i .i64],[.i .i64],fun (a0,_)=>a0,fun r=>(r,()),[.ag [.v,.v,.v,.v,.v],.v],[.v],[.k],[.tmp 4],[],[(7,a8_.p7)],[],[(0,a8_.o0)]⟩
def a8_.F (n:Nat):Pat.Ts a8_.d.ps→Option Int:=fun (a0,a1,_)=>a8_ n (aa_.of a0) a1
def cw_.d:FD Bool:=⟨107,6,1,[.ag (aa_.p .v)],[.b],fun (a0,_)=>a0,fun r=>(r,()),[.ag [.v,.v,.v,.v,.v]],[.v],[.k],[.tmp 2],[],[],[],[]⟩
def cw_.F (n:Nat):Pat.Ts cw_.d.ps→Option Bool:=fun (a0,_)=>cw_ n (aa_.of a0)
def cq_.d:FD aa_:=⟨112,8,3,[.ag (aa_.p .d)],[.ag (aa_.p .d)],fun (a0,_)=>(aa_.of a0),fun r=>(aa_.to r,()),[.ag [.v,.v,.v,.o,.o]],[.ag [.v,.v,.v,.o,.o]],[.ag [.k,.k,.k,.own .d .iJson,.own .d .str]],[.cell 2 45],[],[],[],[]⟩
def cq_.F (n:Nat):Pat.Ts cq_.d.ps→Option aa_:=fun (a0,_)=>cq_ n (aa_.of a0)
def bm_.p4:OD:=⟨[(2,.k),(3,.box [.k,.view .iCond,.k,.k,.k,.view .int,.k,.k,.k]),(4,.box [.k,.view .int]),(6,.box [.k,.k,.k,.k,.k]),(7,.own .d .str),(8,.own .d .int),(16,.view .int),(17,.k),(18,.k)],[.i .i64,.pb 1 0,.pb 2 0,.pb 3 0,.rt 4,.rt 5,.sl .v .int,.i .i64,.i .i64],[.ext,.box (aT_.q1 .v),.box (TRow.p .v),.box [.i .i64,.i .i64,.s,.nils,.nils],.arr .d .str 2,.arr .d .int 2]⟩
def bm_.o0:OD:=⟨[(2,.k),(3,.box [.k,.view .iCond,.k,.k,.k,.view .int,.k,.k,.k]),(6,.box [.k,.k,.k,.k,.k]),(7,.own .d .str),(8,.own .d .int)],[.i .i64,.pb 1 0,.pb 2 0,.rt 3,.rt 4],[.ext,.box (aT_.q1 .v),.box [.i .i64,.i .i64,.s,.nils,.nils],.arr .d .str 2,.arr .d .int 2]⟩
def bm_.d:FD aa_:=⟨153,55,1,[.ag (aT_.q1 .v),.ag (TRow.p .v),.i .i64],[.ag (aa_.p .d)],fun (a0,_)=>(aa_.of a0),fun r=>(aa_.to r,()),[.ag [.v,.v,.v,.v,.v,.v,.v,.v,.v],.ag [.v,.v],.v],[.ag [.v,.v,.v,.o,.o]],[.ag [.k,.k,.k,.own .d .iJson,.own .d .str]],[.cell 6 45],[],[(4,bm_.p4)],[],[(0,bm_.o0)]⟩
def bm_.F (n:Nat):Pat.Ts bm_.d.ps→Option aa_:=fun (a0,a1,a2,_)=>bm_ n (aT_.of a0) (TRow.of a1) a2
def a5_.p4:OD:=⟨[(2,.view .int),(3,.box [.k,.view .iCond,.k,.k,.k,.view .int,.k,.k,.k]),(7,.own .d .iJson),(17,.view .iRow),(18,.k),(19,.k)],[.sl .v .int,.pb 1 0,.rt 2,.sl .v .iRow,.i .i64,.i .i64],[.ext,.box (aT_.q1 .v),.arr .d .iJson 2]⟩
def a5_.o0:OD:=⟨[(7,.own .d .iJson)],[.rt 1],[.ext,.arr .d .iJson 2]⟩
def a5_.d:FD (List aa_):=⟨109,41,1,[.ag (aT_.q1 .v),.sl .v .iRow,.sl .v .int],[.sl .d .iJson],fun (a0,_)=>a0,fun r=>(r,()),[.ag [.v,.v,.v,.v,.v,.v,.v,.v,.v],.v,.v],[.o],[.own .d .iJson],[.tmp 6],[],[(4,a5_.p4)],[],[(0,a5_.o0)]⟩
def a5_.F (n:Nat):Pat.Ts a5_.d.ps→Option (List aa_):=fun (a0,a1,a2,_)=>a5_ n (aT_.of a0) a1 a2
def cE_.d:FD Bool:=⟨111,6,1,[.ag (aa_.p .v)],[.b],fun (a0,_)=>a0,fun r=>(r,()),[.ag [.v,.v,.v,.v,.v]],[.v],[.k],[.tmp 2],[],[],[],[]⟩
def cE_.F (n:Nat):Pat.Ts cE_.d.ps→Option Bool:=fun (a0,_)=>cE_ n (aa_.of a0)
def ac_.p3:OD:=⟨[(0,.view .iJson),(1,.k),(7,.k),(8,.k)],[.sl .v .iJson,.clo 111 [],.i .i64,.i .i64],[.ext]⟩
def ac_.o0:OD:=⟨[],[],[.ext]⟩
def ac_.d:FD Int:=⟨154,19,1,[.sl .v .iJson,.clo 111 []],[.i .i64],fun (a0,_)=>a0,fun r=>(r,()),[.v,.v],[.v],[.k],[.tmp 4],[],[(3,ac_.p3)],[],[(0,ac_.o0)]⟩
def ac_.F (n:Nat):Pat.Ts ac_.d.ps→Option Int:=fun (a0,_,_)=>ac_ n a0
def ak_.d:FD Bool:=⟨110,9,1,[.sl .v .iJson,.clo 111 []],[.b],fun (a0,_)=>a0,fun r=>(r,()),[.v,.v],[.v],[.k],[.tmp 4],[],[],[],[]⟩
def ak_.F (n:Nat):Pat.Ts ak_.d.ps→Option Bool:=fun (a0,_,_)=>ak_ n a0
def dJ_.d:FD aa_:=⟨56,26,1,[.ag (aT_.q1 .v),.sl .v .iRow,.sl .v .int],[.ag (aa_.p .d)],fun (a0,_)=>(aa_.of a0),fun r=>(aa_.to r,()),[.ag [.v,.v,.v,.v,.v,.v,.v,.v,.v],.v,.v],[.ag [.v,.v,.v,.o,.o]],[.ag [.k,.k,.k,.own .d .iJson,.own .d .str]],[.cell 6 45],[],[],[],[]⟩
def dJ_.F (n:Nat):Pat.Ts dJ_.d.ps→Option aa_:=fun (a0,a1,a2,_)=>dJ_ n (aT_.of a0) a1 a2
def cu_.d:FD aa_:=⟨24,10,1,[.ag (bB_.q1 .v)],[.ag (aa_.p .d)],fun (a0,_)=>(aa_.of a0),fun r=>(aa_.to r,()),[.ag [.v,.v,.v,.v,.v,.v,.v,.v,.v,.v,.v]],[.ag [.v,.v,.v,.o,.o]],[.ag [.k,.k,.k,.own .d .iJson,.own .d .str]],[.cell 2 45],[],[],[],[]⟩
def cu_.F (n:Nat):Pat.Ts cu_.d.ps→Option aa_:=fun (a0,_)=>cu_ n (bB_.of a0)
def aj_.p6:OD:=⟨[(0,.view .str),(1,.view .str),(12,.k),(13,.k)],[.sl .v .str,.sl .v .str,.i .i64,.i .i64],[.ext]⟩
def aj_.o0:OD:=⟨[],[],[.ext]⟩
def aj_.d:FD Bool:=⟨150,26,1,[.sl .v .str,.sl .v .str],[.b],fun (a0,_)=>a0,fun r=>(r,()),[.v,.v],[.v],[.k],[.tmp 4],[],[(6,aj_.p6)],[],[(0,aj_.o0)]⟩
def aj_.F (n:Nat):Pat.Ts aj_.d.ps→Option Bool:=fun (a0,a1,_)=>aj_ n a0 a1
def ad_.p6:OD:=⟨[(1,.view .iJson),(2,.k),(15,.view .iJson),(16,.k),(17,.k)],[.sl .v .iJson,.clo 108 [],.sl .v .iJson,.i .i64,.i .i64],[.ext]⟩
def ad_.o0:OD:=⟨[],[],[.ext]⟩
def ad_.d:FD Bool:=⟨151,32,1,[.sl .v .iJson,.sl .v .iJson,.clo 108 []],[.b],fun (a0,_)=>a0,fun r=>(r,()),[.v,.v,.v],[.v],[.k],[.tmp 6],[],[(6,ad_.p6)],[],[(0,ad_.o0)]⟩
def ad_.F (n:Nat):Pat.Ts ad_.d.ps→Option Bool:=fun (a0,a1,_,_)=>ad_ n a0 a1
def c1_.d:FD Bool:=⟨108,38,1,[.ag (aa_.p .v),.ag (aa_.p .v)],[.b],fun (a0,_)=>a0,fun r=>(r,()),[.ag [.v,.v,.v,.v,.v],.ag [.v,.v,.v,.v,.v]],[.v],[.k],[.tmp 4],[],[],[],[]⟩
def c1_.F (n:Nat):Pat.Ts c1_.d.ps→Option Bool:=fun (a0,a1,_)=>c1_ n (aa_.of a0) (aa_.of a1)
def cD_.d:FD Bool:=⟨55,16,1,[.ag (aa_.p .v),.ag (aa_.p .v)],[.b],fun (a0,_)=>a0,fun r=>(r,()),[.ag [.v,.v,.v,.v,.v],.ag [.v,.v,.v,.v,.v]],[.v],[.k],[.tmp 4],[],[],[],[]⟩
def cD_.F (n:Nat):Pat.Ts cD_.d.ps→Option Bool:=fun (a0,a1,_)=>cD_ n (aa_.of a0) (aa_.of a1)
def cW_.d:FD Bool:=⟨23,16,1,[.ag (bZ_.q1 .v)],[.b],fun (a0,_)=>a0,fun r=>(r,()),[.ag [.v,.v,.v,.v,.v,.v,.v,.v,.v,.v,.v,.v,.v,.v,.v,.v,.v,.v,.v,.v,.v,.v,.v,.v,.v]],[.v],[.k],[.tmp 2],[],[],[],[]⟩
def cW_.F (n:Nat):Pat.Ts cW_.d.ps→Option Bool:=fun (a0,_)=>cW_ n (bZ_.of a0)
def as_.p6:OD:=⟨[(0,.view .iCond),(1,.view .iCond),(12,.k),(13,.k)],[.sl .v .iCond,.sl .v .iCond,.i .i64,.i .i64],[.ext]⟩
def as_.o0:OD:=⟨[],[],[.ext]⟩
def as_.d:FD Bool:=⟨116,26,1,[.sl .v .iCond,.sl .v .iCond],[.b],fun (a0,_)=>a0,fun r=>(r,()),[.v,.v],[.v],[.k],[.tmp 4],[],[(6,as_.p6)],[],[(0,as_.o0)]⟩
def as_.F (n:Nat):Pat.Ts as_.d.ps→Option Bool:=fun (a0,a1,_)=>as_ n a0 a1
def aC_.p6:OD:=⟨[(0,.view .int),(1,.view .int),(12,.k),(13,.k)],[.sl .v .int,.sl .v .int,.i .i64,.i .i64],[.ext]⟩
def aC_.o0:OD:=⟨[],[],[.ext]⟩
def aC_.d:FD Bool:=⟨117,26,1,[.sl .v .int,.sl .v .int],[.b],fun (a0,_)=>a0,fun r=>(r,()),[.v,.v],[.v],[.k],[.tmp 4],[],[(6,aC_.p6)],[],[(0,aC_.o0)]⟩
def aC_.F (n:Nat):Pat.Ts aC_.d.ps→Option Bool:=fun (a0,a1,_)=>aC_ n a0 a1
def cd_.d:FD Bool:=⟨60,70,1,[.ag (aT_.q1 .v),.ag (aT_.q1 .v)],[.b],fun (a0,_)=>a0,fun r=>(r,()),[.ag [.v,.v,.v,.v,.v,.v,.v,.v,.v],.ag [.v,.v,.v,.v,.v,.v,.v,.v,.v]],[.v],[.k],[.tmp 4],[],[],[],[]⟩
def cd_.F (n:Nat):Pat.Ts cd_.d.ps→Option Bool:=fun (a0,a1,_)=>cd_ n (aT_.of a0) (aT_.of a1)
def dI_.d:FD aa_:=⟨61,6,1,[.i .i64],[.ag (aa_.p .d)],fun (a0,_)=>(aa_.of a0),fun r=>(aa_.to r,()),[.v],[.ag [.v,.v,.v,.o,.o]],[.ag [.k,.k,.k,.own .d .iJson,.own .d .str]],[.cell 2 45],[],[],[],[]⟩
def dI_.F (n:Nat):Pat.Ts dI_.d.ps→Option aa_:=fun (a0,_)=>dI_ n a0
def bD_.p5:OD:=⟨[(4,.own .d .iJson),(5,.own .d .int),(20,.view .iRow),(21,.k),(22,.k)],[.rt 1,.rt 2,.sl .v .iRow,.i .i64,.i .i64],[.ext,.arr .d .iJson 2,.arr .d .int 2]⟩
def bD_.o0:OD:=⟨[(4,.own .d .iJson),(5,.own .d .int)],[.rt 1,.rt 2],[.ext,.arr .d .iJson 2,.arr .d .int 2]⟩
def bD_.d:FD ((List aa_) × (List Int)):=⟨62,34,1,[.ag (bB_.q1 .v)],[.sl .d .iJson,.sl .d .int],fun (a0,a1,_)=>(a0,a1),fun (a0,a1)=>(a0,a1,()),[.ag [.v,.v,.v,.v,.v,.v,.v,.v,.v,.v,.v]],[.o,.o],[.own .d .iJson,.own .d .int],[.tmp 2,.tmp 3],[],[(5,bD_.p5)],[],[(0,bD_.o0)]⟩
def bD_.F (n:Nat):Pat.Ts bD_.d.ps→Option ((List aa_) × (List Int)):=fun (a0,_)=>bD_ n (bB_.of a0)
def bc_.p7:OD:=⟨[(1,.view .int),(6,.own .s .ikeyed),(15,.view .iJson),(16,.k),(17,.k)],[.sl .v .int,.rt 1,.sl .v .iJson,.i .i64,.i .i64],[.ext,.arr .s .ikeyed 2]⟩
def bc_.o0:OD:=⟨[(6,.own .s .ikeyed)],[.rt 1],[.ext,.arr .s .ikeyed 2]⟩
def bc_.d:FD ((List au_) × Bool):=⟨119,46,1,[.sl .v .iJson,.sl .v .int],[.sl .s .ikeyed,.b],fun (a0,a1,_)=>(a0,a1),fun (a0,a1)=>(a0,a1,()),[.v,.v],[.o,.v],[.own .s .ikeyed,.k],[.tmp 4,.tmp 5],[],[(7,bc_.p7)],[],[(0,bc_.o0)]⟩
def bc_.F (n:Nat):Pat.Ts bc_.d.ps→Option ((List au_) × Bool):=fun (a0,a1,_)=>bc_ n a0 a1
def cB_.d:FD Bool:=⟨162,8,1,[.ag (au_.p .v),.pc [.i .i64] 0],[.b],fun (a0,_)=>a0,fun r=>(r,()),[.ag [.v,.v,.v,.v,.v,.v],.v],[.v],[.k],[.tmp 3],[],[],[],[]⟩
def cB_.F (n:Nat):Pat.Ts cB_.d.ps→Option Bool:=fun (a0,(a1,_),_)=>cB_ n (au_.of a0) a1
def ab_.p3:OD:=⟨[(0,.view .ikeyed),(1,.k),(7,.k),(8,.k)],[.sl .v .ikeyed,.clo 162 [.pc [.i .i64] 0],.i .i64,.i .i64],[.ext]⟩
def ab_.o0:OD:=⟨[],[],[.ext]⟩
def ab_.d:FD Int:=⟨161,19,1,[.sl .v .ikeyed,.clo 162 [.pc [.i .i64] 0]],[.i .i64],fun (a0,_)=>a0,fun r=>(r,()),[.v,.v],[.v],[.k],[.tmp 4],[],[(3,ab_.p3)],[],[(0,ab_.o0)]⟩
def ab_.F (n:Nat):Pat.Ts ab_.d.ps→Option Int:=fun (a0,((a1,_),_),_)=>ab_ n a0 a1
def dw_.d:FD Int:=⟨120,8,1,[.sl .v .ikeyed,.i .i64],[.i .i64],fun (a0,_)=>a0,fun r=>(r,()),[.v,.v],[.v],[.k],[.tmp 4],[],[],[],[]⟩
def dw_.F (n:Nat):Pat.Ts dw_.d.ps→Option Int:=fun (a0,a1,_)=>dw_ n a0 a1
def c7_.d:FD (List Bs):=⟨121,6,1,[.i .i64],[.sl .d .str],fun (a0,_)=>a0,fun r=>(r,()),[.v],[.o],[.own .d .str],[.tmp 2],[],[],[],[]⟩
def c7_.F (n:Nat):Pat.Ts c7_.d.ps→Option (List Bs):=fun (a0,_)=>c7_ n a0
def bo_.d:FD (List au_):=⟨122,33,1,[.sl .s .ikeyed,.i .i64,.i .i64],[.sl .s .ikeyed],fun (a0,_)=>a0,fun r=>(r,()),[.o,.v,.v],[],[],[.tmp 6],[],[],[],[]⟩
def bo_.F (n:Nat):Pat.Ts bo_.d.ps→Option (List au_):=fun (a0,a1,a2,_)=>bo_ n a0 a1 a2
def bV_.d:FD (List Bs):=⟨159,6,1,[.sl .v .str],[.sl .d .str],fun (a0,_)=>a0,fun r=>(r,()),[.v],[.o],[.own .d .str],[.tmp 2],[],[],[],[]⟩
def bV_.F (n:Nat):Pat.Ts bV_.d.ps→Option (List Bs):=fun (a0,_)=>bV_ n a0
def aI_.p4:OD:=⟨[(2,.box [.k,.k,.k,.k,.k]),(3,.box [.k,.k,.k,.own .d .iJson,.own .d .str]),(17,.view .iJson),(18,.k),(19,.k)],[.pb 1 0,.pb 2 0,.sl .v .iJson,.i .i64,.i .i64],[.ext,.box [.i .i64,.i .i64,.s,.nils,.nils],.box [.i .i64,.i .i64,.s,.rt 3,.rt 4],.arr .d .iJson 2,.arr .d .str 2]⟩
def aI_.o0:OD:=⟨[(2,.box [.k,.k,.k,.k,.k]),(3,.box [.k,.k,.k,.own .d .iJson,.own .d .str])],[.pb 1 0,.pb 2 0],[.ext,.box [.i .i64,.i .i64,.s,.nils,.nils],.box [.i .i64,.i .i64,.s,.rt 3,.rt 4],.arr .d .iJson 2,.arr .d .str 2]⟩
def aI_.d:FD aa_:=⟨123,32,1,[.ag (aa_.p .v)],[.ag (aa_.p .d)],fun (a0,_)=>(aa_.of a0),fun r=>(aa_.to r,()),[.ag [.v,.v,.v,.v,.v]],[.ag [.v,.v,.v,.o,.o]],[.ag [.k,.k,.k,.own .d .iJson,.own .d .str]],[.cell 2 45],[],[(4,aI_.p4)],[],[(0,aI_.o0)]⟩
def aI_.F (n:Nat):Pat.Ts aI_.d.ps→Option aa_:=fun (a0,_)=>aI_ n (aa_.of a0)
def bn_.d:FD (List au_):=⟨124,95,1,[.sl .s .ikeyed,.i .i64,.sl .s .ikeyed],[.sl .s .ikeyed],fun (a0,_)=>a0,fun r=>(r,()),[.o,.v,.o],[],[],[.tmp 6],[],[],[],[]⟩
def bn_.F (n:Nat):Pat.Ts bn_.d.ps→Option (List au_):=fun (a0,a1,a2,_)=>bn_ n a0 a1 a2
def a1_.p9:OD:=⟨[(9,.own .s .ikeyed),(11,.own .s .ikeyed),(13,.own .d .iOp),(14,.k)],[.rt 1,.rt 2,.rt 3,.i .i64],[.ext,.arr .s .ikeyed 2,.arr .s .ikeyed 2,.arr .d .iOp 2]⟩
def a1_.p17:OD:=⟨[(9,.own .s .ikeyed),(13,.own .d .iOp),(64,.own .s .ikeyed),(65,.k),(66,.k)],[.rt 1,.rt 2,.rt 3,.i .i64,.i .i64],[.ext,.arr .s .ikeyed 2,.arr .d .iOp 2,.arr .s .ikeyed 2]⟩
def a1_.o0:OD:=⟨[(9,.own .s .ikeyed),(11,.own .s .ikeyed),(13,.own .d .iOp)],[.rt 1,.rt 2,.rt 3],[.ext,.arr .s .ikeyed 2,.arr .s .ikeyed 2,.arr .d .iOp 2]⟩
def a1_.o2:OD:=⟨[(13,.own .d .iOp)],[.rt 1],[.ext,.arr .d .iOp 2]⟩
def a1_.d:FD (List TOp):=⟨64,126,1,[.sl .v .iJson,.sl .v .int,.sl .v .iJson,.sl .v .int],[.sl .d .iOp],fun (a0,_)=>a0,fun r=>(r,()),[.v,.v,.v,.v],[.o],[.own .d .iOp],[.tmp 8],[],[(9,a1_.p9),(17,a1_.p17)],[],[(0,a1_.o0),(2,a1_.o2)]⟩
def a1_.F (n:Nat):Pat.Ts a1_.d.ps→Option (List TOp):=fun (a0,a1,a2,a3,_)=>a1_ n a0 a1 a2 a3
def dl_.d:FD TOp:=⟨118,12,1,[.ag (TOp.p .v)],[.ag (TOp.p .d)],fun (a0,_)=>(TOp.of a0),fun r=>(TOp.to r,()),[.ag [.v,.v,.v,.v,.v,.v,.v]],[.ag [.v,.o,.v,.v,.v,.o,.o]],[.ag [.k,.own .d .str,.k,.k,.k,.own .d .iJson,.own .d .str]],[.cell 2 80],[],[],[],[]⟩
def dl_.F (n:Nat):Pat.Ts dl_.d.ps→Option TOp:=fun (a0,_)=>dl_ n (TOp.of a0)
def bG_.p4:OD:=⟨[(0,.k),(5,.own .d .iOp),(9,.view .iOp),(10,.k),(11,.k)],[.s,.rt 1,.sl .v .iOp,.i .i64,.i .i64],[.ext,.arr .d .iOp 2]⟩
def bG_.o0:OD:=⟨[(5,.own .d .iOp)],[.rt 1],[.ext,.arr .d .iOp 2]⟩
def bG_.d:FD (List TOp):=⟨63,29,1,[.s,.sl .v .iOp],[.sl .d .iOp],fun (a0,_)=>a0,fun r=>(r,()),[.v,.v],[.o],[.own .d .iOp],[.tmp 4],[],[(4,bG_.p4)],[],[(0,bG_.o0)]⟩
def bG_.F (n:Nat):Pat.Ts bG_.d.ps→Option (List TOp):=fun (a0,a1,_)=>bG_ n a0 a1
def b4_.d:FD (List TOp):=⟨26,52,1,[.ag (bB_.q1 .v),.ag (bB_.q1 .v)],[.sl .d .iOp],fun (a0,_)=>a0,fun r=>(r,()),[.ag [.v,.v,.v,.v,.v,.v,.v,.v,.v,.v,.v],.ag [.v,.v,.v,.v,.v,.v,.v,.v,.v,.v,.v]],[.o],[.own .d .iOp],[.tmp 4],[],[],[],[]⟩
def b4_.F (n:Nat):Pat.Ts b4_.d.ps→Option (List TOp):=fun (a0,a1,_)=>b4_ n (bB_.of a0) (bB_.of a1)
def c5_.d:FD Bool:=⟨189,28,1,[.ag (aa_.p .v)],[.b],fun (a0,_)=>a0,fun r=>(r,()),[.ag [.v,.v,.v,.v,.v]],[.v],[.k],[.tmp 2],[],[],[],[]⟩
def c5_.F (n:Nat):Pat.Ts c5_.d.ps→Option Bool:=fun (a0,_)=>c5_ n (aa_.of a0)
def bO_.p3:OD:=⟨[(1,.box [.k,.view .str,.k,.k,.k,.view .iJson,.view .str]),(6,.view .str),(7,.k),(8,.k)],[.pb 1 0,.sl .v .str,.i .i64,.i .i64],[.ext,.box (TOp.p .v)]⟩
def bO_.o0:OD:=⟨[(1,.box [.k,.view .str,.k,.k,.k,.view .iJson,.view .str])],[.pb 1 0],[.ext,.box (TOp.p .v)]⟩
def bO_.d:FD Bool:=⟨173,40,1,[.ag (TOp.p .v)],[.b],fun (a0,_)=>a0,fun r=>(r,()),[.ag [.v,.v,.v,.v,.v,.v,.v]],[.v],[.k],[.tmp 2],[],[(3,bO_.p3)],[],[(0,bO_.o0)]⟩
def bO_.F (n:Nat):Pat.Ts bO_.d.ps→Option Bool:=fun (a0,_)=>bO_ n (TOp.of a0)
def cS_.d:FD (List Bs):=⟨174,2,1,[],[.sl .d .str],fun (a0,_)=>a0,fun r=>(r,()),[],[.o],[.own .d .str],[.tmp 0],[],[],[],[]⟩
def cS_.F (n:Nat):Pat.Ts cS_.d.ps→Option (List Bs):=fun _=>cS_ n ()
def strings_ReplaceAll.d:FD Bs:=⟨190,11,1,[.s,.s,.s],[.s],fun (a0,_)=>a0,fun r=>(r,()),[.v,.v,.v],[],[],[.tmp 6],[],[],[],[]⟩
def strings_ReplaceAll.F (n:Nat):Pat.Ts strings_ReplaceAll.d.ps→Option Bs:=fun (a0,a1,a2,_)=>strings_ReplaceAll n a0 a1 a2
def bf_.p4:OD:=⟨[(3,.k),(6,.view .str),(7,.k),(8,.k)],[.s,.sl .v .str,.i .i64,.i .i64],[.ext]⟩
def bf_.o0:OD:=⟨[(3,.k)],[.s],[.ext]⟩
def bf_.d:FD Bs:=⟨175,20,1,[.sl .v .str],[.s],fun (a0,_)=>a0,fun r=>(r,()),[.v],[.v],[.k],[.tmp 2],[],[(4,bf_.p4)],[],[(0,bf_.o0)]⟩
def bf_.F (n:Nat):Pat.Ts bf_.d.ps→Option Bs:=fun (a0,_)=>bf_ n a0
def dn_.d:FD aa_:=⟨155,41,1,[.ag (TOp.p .v)],[.ag (aa_.p .d)],fun (a0,_)=>(aa_.of a0),fun r=>(aa_.to r,()),[.ag [.v,.v,.v,.v,.v,.v,.v]],[.ag [.v,.v,.v,.o,.o]],[.ag [.k,.k,.k,.own .d .iJson,.own .d .str]],[.cell 2 45],[],[],[],[]⟩
def dn_.F (n:Nat):Pat.Ts dn_.d.ps→Option aa_:=fun (a0,_)=>dn_ n (TOp.of a0)
def a6_.p4:OD:=⟨[(2,.box [.k,.k,.k,.k,.k]),(4,.box [.k,.k,.k,.own .d .iJson,.k]),(9,.view .iOp),(10,.k),(11,.k)],[.pb 1 0,.pb 2 0,.sl .v .iOp,.i .i64,.i .i64],[.ext,.box [.i .i64,.i .i64,.s,.nils,.nils],.box [.i .i64,.i .i64,.s,.rt 3,.nils],.arr .d .iJson 2]⟩
def a6_.o0:OD:=⟨[(2,.box [.k,.k,.k,.k,.k]),(4,.box [.k,.k,.k,.own .d .iJson,.k])],[.pb 1 0,.pb 2 0],[.ext,.box [.i .i64,.i .i64,.s,.nils,.nils],.box [.i .i64,.i .i64,.s,.rt 3,.nils],.arr .d .iJson 2]⟩
def a6_.d:FD (aa_ × Bool):=⟨114,29,1,[.sl .v .iOp],[.ag (aa_.p .d),.b],fun (a0,a1,_)=>((aa_.of a0),a1),fun (a0,a1)=>(aa_.to a0,a1,()),[.v],[.ag [.v,.v,.v,.o,.o],.v],[.ag [.k,.k,.k,.own .d .iJson,.own .d .str],.k],[.cell 2 45,.tmp 3],[],[(4,a6_.p4)],[],[(0,a6_.o0)]⟩
def a6_.F (n:Nat):Pat.Ts a6_.d.ps→Option (aa_ × Bool):=fun (a0,_)=>a6_ n a0
def bt_.p4:OD:=⟨[(0,.k),(3,.own .d .u8),(7,.k),(8,.k)],[.s,.rt 1,.i .i64,.i .i64],[.ext,.arr .d .u8 2]⟩
def bt_.o0:OD:=⟨[(3,.own .d .u8)],[.rt 1],[.ext,.arr .d .u8 2]⟩
def bt_.d:FD Bs:=⟨156,35,1,[.s],[.s],fun (a0,_)=>a0,fun r=>(r,()),[.v],[.v],[.k],[.tmp 2],[],[(4,bt_.p4)],[],[(0,bt_.o0)]⟩
def bt_.F (n:Nat):Pat.Ts bt_.d.ps→Option Bs:=fun (a0,_)=>bt_ n a0
def strings_Join.d:FD Bs:=⟨158,75,1,[.sl .v .str,.s],[.s],fun (a0,_)=>a0,fun r=>(r,()),[.v,.v],[],[],[.tmp 4],[],[],[],[]⟩
def strings_Join.F (n:Nat):Pat.Ts strings_Join.d.ps→Option Bs:=fun (a0,a1,_)=>strings_Join n a0 a1
def aQ_.p4:OD:=⟨[(1,.box [.k,.k,.k,.view .iJson,.view .str]),(3,.own .d .str),(9,.view .iJson),(10,.k),(11,.k)],[.pb 1 0,.rt 2,.sl .v .iJson,.i .i64,.i .i64],[.ext,.box (aa_.p .v),.arr .d .str 2]⟩
def aQ_.o0:OD:=⟨[(1,.box [.k,.k,.k,.view .iJson,.view .str]),(3,.own .d .str)],[.pb 1 0,.rt 2],[.ext,.box (aa_.p .v),.arr .d .str 2]⟩
def aQ_.d:FD Bs:=⟨115,66,1,[.ag (aa_.p .v)],[.s],fun (a0,_)=>a0,fun r=>(r,()),[.ag [.v,.v,.v,.v,.v]],[.v],[.k],[.tmp 2],[],[(4,aQ_.p4)],[],[(0,aQ_.o0)]⟩
def aQ_.F (n:Nat):Pat.Ts aQ_.d.ps→Option Bs:=fun (a0,_)=>aQ_ n (aa_.of a0)
def c6_.d:FD Bs:=⟨59,13,1,[.ag (aa_.p .v)],[.s],fun (a0,_)=>a0,fun r=>(r,()),[.ag [.v,.v,.v,.v,.v]],[.v],[.k],[.tmp 2],[],[],[],[]⟩
def c6_.F (n:Nat):Pat.Ts c6_.d.ps→Option Bs:=fun (a0,_)=>c6_ n (aa_.of a0)
def ce_.d:FD Int:=⟨58,21,1,[.sl .v .iOp],[.i .i64],fun (a0,_)=>a0,fun r=>(r,()),[.v],[.v],[.k],[.tmp 2],[],[],[],[]⟩
def ce_.F (n:Nat):Pat.Ts ce_.d.ps→Option Int:=fun (a0,_)=>ce_ n a0
def cV_.d:FD Bool:=⟨25,27,1,[.ag (bB_.q1 .v),.ag (bB_.q1 .v)],[.b],fun (a0,_)=>a0,fun r=>(r,()),[.ag [.v,.v,.v,.v,.v,.v,.v,.v,.v,.v,.v],.ag [.v,.v,.v,.v,.v,.v,.v,.v,.v,.v,.v]],[.v],[.k],[.tmp 4],[],[],[],[]⟩
def cV_.F (n:Nat):Pat.Ts cV_.d.ps→Option Bool:=fun (a0,a1,_)=>cV_ n (bB_.of a0) (bB_.of a1)
def cs_.d:FD (bZ_ × cI_ × Bool):=⟨7,49,1,[.ag (bZ_.q1 .v)],[.ag (bZ_.q1 .d),.ag (cI_.p .d),.b],fun (a0,a1,a2,_)=>((bZ_.of a0),(cI_.of a1),a2),fun (a0,a1,a2)=>(bZ_.to a0,cI_.to a1,a2,()),[.ag [.v,.v,.v,.v,.v,.v,.v,.v,.v,.v,.v,.v,.v,.v,.v,.v,.v,.v,.v,.v,.v,.v,.v,.v,.v]],[.ag [.v,.o,.v,.v,.v,.o,.v,.v,.v,.o,.o,.v,.v,.o,.v,.v,.v,.o,.v,.v,.v,.o,.o,.v,.v],.ag [.v,.v,.v,.v,.v,.v,.o,.o,.o],.v],[.ag [.k,.own .d .iCond,.k,.k,.k,.own .d .int,.k,.k,.k,.own .d .iRow,.own .d .iKid,.k,.k,.own .d .iCond,.k,.k,.k,.own .d .int,.k,.k,.k,.own .d .iRow,.own .d .iKid,.k,.k],.ag [.k,.k,.k,.k,.k,.k,.own .d .iJson,.own .d .str,.own .d .iOp],.k],[.cell 2 41,.cell 3 48,.tmp 4],[],[],[],[]⟩
def cs_.F (n:Nat):Pat.Ts cs_.d.ps→Option (bZ_ × cI_ × Bool):=fun (a0,_)=>cs_ n (bZ_.of a0)
def dj_.d:FD Bool:=⟨165,20,1,[.ag (aP_.p .v),.ag (aP_.p .v)],[.b],fun (a0,_)=>a0,fun r=>(r,()),[.ag [.v,.v,.v],.ag [.v,.v,.v]],[.v],[.k],[.tmp 4],[],[],[],[]⟩
def dj_.F (n:Nat):Pat.Ts dj_.d.ps→Option Bool:=fun (a0,a1,_)=>dj_ n (aP_.of a0) (aP_.of a1)
def be_.p6:OD:=⟨[(0,.view .iCond),(1,.view .iCond),(5,.k)],[.sl .v .iCond,.sl .v .iCond,.i .i64],[.ext]⟩
def be_.o0:OD:=⟨[],[],[.ext]⟩
def be_.d:FD Bool:=⟨127,27,1,[.sl .v .iCond,.sl .v .iCond],[.b],fun (a0,_)=>a0,fun r=>(r,()),[.v,.v],[.v],[.k],[.tmp 4],[],[(6,be_.p6)],[],[(0,be_.o0)]⟩
def be_.F (n:Nat):Pat.Ts be_.d.ps→Option Bool:=fun (a0,a1,_)=>be_ n a0 a1
def bs_.p6:OD:=⟨[(0,.view .int),(1,.view .int),(5,.k)],[.sl .v .int,.sl .v .int,.i .i64],[.ext]⟩
def bs_.o0:OD:=⟨[],[],[.ext]⟩
def bs_.d:FD Bool:=⟨128,26,1,[.sl .v .int,.sl .v .int],[.b],fun (a0,_)=>a0,fun r=>(r,()),[.v,.v],[.v],[.k],[.tmp 4],[],[(6,bs_.p6)],[],[(0,bs_.o0)]⟩
def bs_.F (n:Nat):Pat.Ts bs_.d.ps→Option Bool:=fun (a0,a1,_)=>bs_ n a0 a1
def cR_.d:FD Bool:=⟨67,52,1,[.ag (aT_.q1 .v),.ag (aT_.q1 .v)],[.b],fun (a0,_)=>a0,fun r=>(r,()),[.ag [.v,.v,.v,.v,.v,.v,.v,.v,.v],.ag [.v,.v,.v,.v,.v,.v,.v,.v,.v]],[.v],[.k],[.tmp 4],[],[],[],[]⟩
def cR_.F (n:Nat):Pat.Ts cR_.d.ps→Option Bool:=fun (a0,a1,_)=>cR_ n (aT_.of a0) (aT_.of a1)
def dF_.d:FD Bool:=⟨129,16,1,[.ag (TRow.p .v),.ag (TRow.p .v)],[.b],fun (a0,_)=>a0,fun r=>(r,()),[.ag [.v,.v],.ag [.v,.v]],[.v],[.k],[.tmp 4],[],[],[],[]⟩
def dF_.F (n:Nat):Pat.Ts dF_.d.ps→Option Bool:=fun (a0,a1,_)=>dF_ n (TRow.of a0) (TRow.of a1)
def bw_.p6:OD:=⟨[(0,.view .iRow),(1,.view .iRow),(5,.k)],[.sl .v .iRow,.sl .v .iRow,.i .i64],[.ext]⟩
def bw_.o0:OD:=⟨[],[],[.ext]⟩
def bw_.d:FD Bool:=⟨68,27,1,[.sl .v .iRow,.sl .v .iRow],[.b],fun (a0,_)=>a0,fun r=>(r,()),[.v,.v],[.v],[.k],[.tmp 4],[],[(6,bw_.p6)],[],[(0,bw_.o0)]⟩
def bw_.F (n:Nat):Pat.Ts bw_.d.ps→Option Bool:=fun (a0,a1,_)=>bw_ n a0 a1
def dG_.d:FD Bool:=⟨130,15,1,[.ag (TKid.p .v),.ag (TKid.p .v)],[.b],fun (a0,_)=>a0,fun r=>(r,()),[.ag [.v,.v],.ag [.v,.v]],[.v],[.k],[.tmp 4],[],[],[],[]⟩
def dG_.F (n:Nat):Pat.Ts dG_.d.ps→Option Bool:=fun (a0,a1,_)=>dG_ n (TKid.of a0) (TKid.of a1)
def bx_.p6:OD:=⟨[(0,.view .iKid),(1,.view .iKid),(5,.k)],[.sl .v .iKid,.sl .v .iKid,.i .i64],[.ext]⟩
def bx_.o0:OD:=⟨[],[],[.ext]⟩
def bx_.d:FD Bool:=⟨69,27,1,[.sl .v .iKid,.sl .v .iKid],[.b],fun (a0,_)=>a0,fun r=>(r,()),[.v,.v],[.v],[.k],[.tmp 4],[],[(6,bx_.p6)],[],[(0,bx_.o0)]⟩
def bx_.F (n:Nat):Pat.Ts bx_.d.ps→Option Bool:=fun (a0,a1,_)=>bx_ n a0 a1
def c4_.d:FD Bool:=⟨28,23,1,[.ag (bB_.q1 .v),.ag (bB_.q1 .v)],[.b],fun (a0,_)=>a0,fun r=>(r,()),[.ag [.v,.v,.v,.v,.v,.v,.v,.v,.v,.v,.v],.ag [.v,.v,.v,.v,.v,.v,.v,.v,.v,.v,.v]],[.v],[.k],[.tmp 4],[],[],[],[]⟩
def c4_.F (n:Nat):Pat.Ts c4_.d.ps→Option Bool:=fun (a0,a1,_)=>c4_ n (bB_.of a0) (bB_.of a1)
def cL_.d:FD Bool:=⟨8,32,1,[.ag (bZ_.q1 .v),.ag (bZ_.q1 .v)],[.b],fun (a0,_)=>a0,fun r=>(r,()),[.ag [.v,.v,.v,.v,.v,.v,.v,.v,.v,.v,.v,.v,.v,.v,.v,.v,.v,.v,.v,.v,.v,.v,.v,.v,.v],.ag [.v,.v,.v,.v,.v,.v,.v,.v,.v,.v,.v,.v,.v,.v,.v,.v,.v,.v,.v,.v,.v,.v,.v,.v,.v]],[.v],[.k],[.tmp 4],[],[],[],[]⟩
def cL_.F (n:Nat):Pat.Ts cL_.d.ps→Option Bool:=fun (a0,a1,_)=>cL_ n (bZ_.of a0) (bZ_.of a1)
def bb_.p6:OD:=⟨[(0,.view .iJson),(1,.view .iJson),(5,.k)],[.sl .v .iJson,.sl .v .iJson,.i .i64],[.ext]⟩
def bb_.o0:OD:=⟨[],[],[.ext]⟩
def bb_.d:FD Bool:=⟨70,27,1,[.sl .v .iJson,.sl .v .iJson],[.b],fun (a0,_)=>a0,fun r=>(r,()),[.v,.v],[.v],[.k],[.tmp 4],[],[(6,bb_.p6)],[],[(0,bb_.o0)]⟩
def bb_.F (n:Nat):Pat.Ts bb_.d.ps→Option Bool:=fun (a0,a1,_)=>bb_ n a0 a1
def aM_.p6:OD:=⟨[(0,.view .str),(1,.view .str),(5,.k)],[.sl .v .str,.sl .v .str,.i .i64],[.ext]⟩
def aM_.o0:OD:=⟨[],[],[.ext]⟩
def aM_.d:FD Bool:=⟨71,26,1,[.sl .v .str,.sl .v .str],[.b],fun (a0,_)=>a0,fun r=>(r,()),[.v,.v],[.v],[.k],[.tmp 4],[],[(6,aM_.p6)],[],[(0,aM_.o0)]⟩
def aM_.F (n:Nat):Pat.Ts aM_.d.ps→Option Bool:=fun (a0,a1,_)=>aM_ n a0 a1
def b6_.d:FD Bool:=⟨29,32,1,[.ag (aa_.p .v),.ag (aa_.p .v)],[.b],fun (a0,_)=>a0,fun r=>(r,()),[.ag [.v,.v,.v,.v,.v],.ag [.v,.v,.v,.v,.v]],[.v],[.k],[.tmp 4],[],[],[],[]⟩
def b6_.F (n:Nat):Pat.Ts b6_.d.ps→Option Bool:=fun (a0,a1,_)=>b6_ n (aa_.of a0) (aa_.of a1)
def dS_.d:FD Bool:=⟨72,22,1,[.ag (TOp.p .v),.ag (TOp.p .v)],[.b],fun (a0,_)=>a0,fun r=>(r,()),[.ag [.v,.v,.v,.v,.v,.v,.v],.ag [.v,.v,.v,.v,.v,.v,.v]],[.v],[.k],[.tmp 4],[],[],[],[]⟩
def dS_.F (n:Nat):Pat.Ts dS_.d.ps→Option Bool:=fun (a0,a1,_)=>dS_ n (TOp.of a0) (TOp.of a1)
def bI_.p6:OD:=⟨[(0,.view .iOp),(1,.view .iOp),(5,.k)],[.sl .v .iOp,.sl .v .iOp,.i .i64],[.ext]⟩
def bI_.o0:OD:=⟨[],[],[.ext]⟩
def bI_.d:FD Bool:=⟨30,27,1,[.sl .v .iOp,.sl .v .iOp],[.b],fun (a0,_)=>a0,fun r=>(r,()),[.v,.v],[.v],[.k],[.tmp 4],[],[(6,bI_.p6)],[],[(0,bI_.o0)]⟩
def bI_.F (n:Nat):Pat.Ts bI_.d.ps→Option Bool:=fun (a0,a1,_)=>bI_ n a0 a1
def cH_.d:FD Bool:=⟨9,32,1,[.ag (cI_.p .v),.ag (cI_.p .v)],[.b],fun (a0,_)=>a0,fun r=>(r,()),[.ag [.v,.v,.v,.v,.v,.v,.v,.v,.v],.ag [.v,.v,.v,.v,.v,.v,.v,.v,.v]],[.v],[.k],[.tmp 4],[],[],[],[]⟩
def cH_.F (n:Nat):Pat.Ts cH_.d.ps→Option Bool:=fun (a0,a1,_)=>cH_ n (cI_.of a0) (cI_.of a1)
def aK_.p3:OD:=⟨[(0,.own .d .iCond),(1,.k),(5,.k)],[.rt 1,.i .i64,.i .i64],[.ext,.arr .d .iCond 2]⟩
def aK_.o0:OD:=⟨[(1,.k)],[.i .i64],[.ext,.arr .d .iCond 2]⟩
def aK_.d:FD (Int × (List aP_)):=⟨131,34,2,[.sl .d .iCond,.i .i64],[.i .i64,.sl .d .iCond],fun (a0,a1,_)=>(a0,a1),fun (a0,a1)=>(a0,a1,()),[.mu,.v],[.v,.o],[.k,.own .d .iCond],[.tmp 4],[.rt 1],[(3,aK_.p3)],[],[(0,aK_.o0)]⟩
def aK_.F (n:Nat):Pat.Ts aK_.d.ps→Option (Int × (List aP_)):=fun (a0,a1,_)=>aK_ n a0 a1
def aR_.p3:OD:=⟨[(0,.own .d .int),(1,.k),(5,.k)],[.rt 1,.i .i64,.i .i64],[.ext,.arr .d .int 2]⟩
def aR_.o0:OD:=⟨[(1,.k)],[.i .i64],[.ext,.arr .d .int 2]⟩
def aR_.d:FD (Int × (List Int)):=⟨132,19,2,[.sl .d .int,.i .i64],(TRow.p .d),fun (a0,a1,_)=>(a0,a1),fun (a0,a1)=>(a0,a1,()),[.mu,.v],[.v,.o],[.k,.own .d .int],[.tmp 4],[.rt 1],[(3,aR_.p3)],[],[(0,aR_.o0)]⟩
def aR_.F (n:Nat):Pat.Ts aR_.d.ps→Option (Int × (List Int)):=fun (a0,a1,_)=>aR_ n a0 a1
def b9_.d:FD (Int × (List aP_) × (List Int)):=⟨73,14,3,[.ag (aT_.q1 .d),.i .i64],[.i .i64,.sl .d .iCond,.sl .d .int],fun (a0,a1,a2,_)=>(a0,a1,a2),fun (a0,a1,a2)=>(a0,a1,a2,()),[.ag [.v,.mu,.v,.v,.v,.mu,.v,.v,.v],.v],[.v,.o,.o],[.k,.own .d .iCond,.own .d .int],[.tmp 4],[.rt 1,.rt 2],[],[],[]⟩
def b9_.F (n:Nat):Pat.Ts b9_.d.ps→Option (Int × (List aP_) × (List Int)):=fun (a0,a1,_)=>b9_ n (aT_.of a0) a1
def aU_.p3:OD:=⟨[(0,.own .d .iRow),(1,.k),(5,.k)],[.rt 1,.i .i64,.i .i64],[.ext,.arr .d .iRow 2]⟩
def aU_.o0:OD:=⟨[(1,.k)],[.i .i64],[.ext,.arr .d .iRow 2]⟩
def aU_.d:FD (Int × (List TRow)):=⟨74,27,2,[.sl .d .iRow,.i .i64],[.i .i64,.sl .d .iRow],fun (a0,a1,_)=>(a0,a1),fun (a0,a1)=>(a0,a1,()),[.mu,.v],[.v,.o],[.k,.own .d .iRow],[.tmp 4],[.rt 1],[(3,aU_.p3)],[],[(0,aU_.o0)]⟩
def aU_.F (n:Nat):Pat.Ts aU_.d.ps→Option (Int × (List TRow)):=fun (a0,a1,_)=>aU_ n a0 a1
def aV_.p3:OD:=⟨[(0,.own .d .iKid),(1,.k),(5,.k)],[.rt 1,.i .i64,.i .i64],[.ext,.arr .d .iKid 2]⟩
def aV_.o0:OD:=⟨[(1,.k)],[.i .i64],[.ext,.arr .d .iKid 2]⟩
def aV_.d:FD (Int × (List TKid)):=⟨75,27,2,[.sl .d .iKid,.i .i64],[.i .i64,.sl .d .iKid],fun (a0,a1,_)=>(a0,a1),fun (a0,a1)=>(a0,a1,()),[.mu,.v],[.v,.o],[.k,.own .d .iKid],[.tmp 4],[.rt 1],[(3,aV_.p3)],[],[(0,aV_.o0)]⟩
def aV_.F (n:Nat):Pat.Ts aV_.d.ps→Option (Int × (List TKid)):=fun (a0,a1,_)=>aV_ n a0 a1
def cm_.d:FD (Int × (List aP_) × (List Int) × (List TRow) × (List TKid)):=⟨31,18,5,[.ag (bB_.q1 .d),.i .i64],[.i .i64,.sl .d .iCond,.sl .d .int,.sl .d .iRow,.sl .d .iKid],fun (a0,a1,a2,a3,a4,_)=>(a0,a1,a2,a3,a4),fun (a0,a1,a2,a3,a4)=>(a0,a1,a2,a3,a4,()),[.ag [.v,.mu,.v,.v,.v,.mu,.v,.v,.v,.mu,.mu],.v],[.v,.o,.o,.o,.o],[.k,.own .d .iCond,.own .d .int,.own .d .iRow,.own .d .iKid],[.tmp 4],[.rt 1,.rt 2,.rt 3,.rt 4],[],[],[]⟩
def cm_.F (n:Nat):Pat.Ts cm_.d.ps→Option (Int × (List aP_) × (List Int) × (List TRow) × (List TKid)):=fun (a0,a1,_)=>cm_ n (bB_.of a0) a1
def cn_.d:FD (Int × (List aP_) × (List Int) × (List TRow) × (List TKid) × (List aP_) × (List Int) × (List TRow) × (List TKid)):=⟨10,14,9,[.ag (bZ_.q1 .d),.i .i64],[.i .i64,.sl .d .iCond,.sl .d .int,.sl .d .iRow,.sl .d .iKid,.sl .d .iCond,.sl .d .int,.sl .d .iRow,.sl .d .iKid],fun (a0,a1,a2,a3,a4,a5,a6,a7,a8,_)=>(a0,a1,a2,a3,a4,a5,a6,a7,a8),fun (a0,a1,a2,a3,a4,a5,a6,a7,a8)=>(a0,a1,a2,a3,a4,a5,a6,a7,a8,()),[.ag [.v,.mu,.v,.v,.v,.mu,.v,.v,.v,.mu,.mu,.v,.v,.mu,.v,.v,.v,.mu,.v,.v,.v,.mu,.mu,.v,.v],.v],[.v,.o,.o,.o,.o,.o,.o,.o,.o],[.k,.own .d .iCond,.own .d .int,.own .d .iRow,.own .d .iKid,.own .d .iCond,.own .d .int,.own .d .iRow,.own .d .iKid],[.tmp 4],[.rt 1,.rt 2,.rt 3,.rt 4,.rt 5,.rt 6,.rt 7,.rt 8],[],[],[]⟩
def cn_.F (n:Nat):Pat.Ts cn_.d.ps→Option (Int × (List aP_) × (List Int) × (List TRow) × (List TKid) × (List aP_) × (List Int) × (List TRow) × (List TKid)):=fun (a0,a1,_)=>cn_ n (bZ_.of a0) a1
def aH_.p6:OD:=⟨[(0,.k),(3,.k)],[.i .i64,.s],[.ext]⟩
def aH_.o0:OD:=⟨[(3,.k)],[.s],[.ext]⟩
def aH_.d:FD Bs:=⟨78,20,1,[.i .i64],[.s],fun (a0,_)=>a0,fun r=>(r,()),[.v],[.v],[.k],[.tmp 2],[],[(6,aH_.p6)],[],[(0,aH_.o0)]⟩
def aH_.F (n:Nat):Pat.Ts aH_.d.ps→Option Bs:=fun (a0,_)=>aH_ n a0
def aq_.p3:OD:=⟨[(0,.own .d .str),(1,.k),(5,.k)],[.rt 1,.i .i64,.i .i64],[.ext,.arr .d .str 2]⟩
def aq_.o0:OD:=⟨[(1,.k)],[.i .i64],[.ext,.arr .d .str 2]⟩
def aq_.d:FD (Int × (List Bs)):=⟨77,20,2,[.sl .d .str,.i .i64],[.i .i64,.sl .d .str],fun (a0,a1,_)=>(a0,a1),fun (a0,a1)=>(a0,a1,()),[.mu,.v],[.v,.o],[.k,.own .d .str],[.tmp 4],[.rt 1],[(3,aq_.p3)],[],[(0,aq_.o0)]⟩
def aq_.F (n:Nat):Pat.Ts aq_.d.ps→Option (Int × (List Bs)):=fun (a0,a1,_)=>aq_ n a0 a1
def ay_.p3:OD:=⟨[(0,.own .d .iJson),(1,.k),(5,.k)],[.rt 1,.i .i64,.i .i64],[.ext,.arr .d .iJson 2]⟩
def ay_.o0:OD:=⟨[(1,.k)],[.i .i64],[.ext,.arr .d .iJson 2]⟩
def ay_.d:FD (Int × (List aa_)):=⟨76,49,2,[.sl .d .iJson,.i .i64],[.i .i64,.sl .d .iJson],fun (a0,a1,_)=>(a0,a1),fun (a0,a1)=>(a0,a1,()),[.mu,.v],[.v,.o],[.k,.own .d .iJson],[.tmp 4],[.rt 1],[(3,ay_.p3)],[],[(0,ay_.o0)]⟩
def ay_.F (n:Nat):Pat.Ts ay_.d.ps→Option (Int × (List aa_)):=fun (a0,a1,_)=>ay_ n a0 a1
def cz_.d:FD (Int × (List aa_) × (List Bs)):=⟨32,14,3,[.ag (aa_.p .d),.i .i64],[.i .i64,.sl .d .iJson,.sl .d .str],fun (a0,a1,a2,_)=>(a0,a1,a2),fun (a0,a1,a2)=>(a0,a1,a2,()),[.ag [.v,.v,.v,.mu,.mu],.v],[.v,.o,.o],[.k,.own .d .iJson,.own .d .str],[.tmp 4],[.rt 1,.rt 2],[],[],[]⟩
def cz_.F (n:Nat):Pat.Ts cz_.d.ps→Option (Int × (List aa_) × (List Bs)):=fun (a0,a1,_)=>cz_ n (aa_.of a0) a1
def a9_.p3:OD:=⟨[(0,.own .d .iOp),(1,.k),(5,.k)],[.rt 1,.i .i64,.i .i64],[.ext,.arr .d .iOp 2]⟩
def a9_.o0:OD:=⟨[(1,.k)],[.i .i64],[.ext,.arr .d .iOp 2]⟩
def a9_.d:FD (Int × (List TOp)):=⟨33,68,2,[.sl .d .iOp,.i .i64],[.i .i64,.sl .d .iOp],fun (a0,a1,_)=>(a0,a1),fun (a0,a1)=>(a0,a1,()),[.mu,.v],[.v,.o],[.k,.own .d .iOp],[.tmp 4],[.rt 1],[(3,a9_.p3)],[],[(0,a9_.o0)]⟩
def a9_.F (n:Nat):Pat.Ts a9_.d.ps→Option (Int × (List TOp)):=fun (a0,a1,_)=>a9_ n a0 a1
def ca_.d:FD (Int × (List aa_) × (List Bs) × (List TOp)):=⟨11,14,4,[.ag (cI_.p .d),.i .i64],[.i .i64,.sl .d .iJson,.sl .d .str,.sl .d .iOp],fun (a0,a1,a2,a3,_)=>(a0,a1,a2,a3),fun (a0,a1,a2,a3)=>(a0,a1,a2,a3,()),[.ag [.v,.v,.v,.v,.v,.v,.mu,.mu,.mu],.v],[.v,.o,.o,.o],[.k,.own .d .iJson,.own .d .str,.own .d .iOp],[.tmp 4],[.rt 1,.rt 2,.rt 3],[],[],[]⟩
def ca_.F (n:Nat):Pat.Ts ca_.d.ps→Option (Int × (List aa_) × (List Bs) × (List TOp)):=fun (a0,a1,_)=>ca_ n (cI_.of a0) a1
def aL_.p3:OD:=⟨[(0,.view .iCond),(1,.k),(5,.k)],[.sl .v .iCond,.i .i64,.i .i64],[.ext]⟩
def aL_.o0:OD:=⟨[(1,.k)],[.i .i64],[.ext]⟩
def aL_.d:FD Int:=⟨133,40,1,[.sl .v .iCond,.i .i64],[.i .i64],fun (a0,_)=>a0,fun r=>(r,()),[.v,.v],[.v],[.k],[.tmp 4],[],[(3,aL_.p3)],[],[(0,aL_.o0)]⟩
def aL_.F (n:Nat):Pat.Ts aL_.d.ps→Option Int:=fun (a0,a1,_)=>aL_ n a0 a1
def aS_.p3:OD:=⟨[(0,.view .int),(1,.k),(5,.k)],[.sl .v .int,.i .i64,.i .i64],[.ext]⟩
def aS_.o0:OD:=⟨[(1,.k)],[.i .i64],[.ext]⟩
def aS_.d:FD Int:=⟨134,21,1,[.sl .v .int,.i .i64],[.i .i64],fun (a0,_)=>a0,fun r=>(r,()),[.v,.v],[.v],[.k],[.tmp 4],[],[(3,aS_.p3)],[],[(0,aS_.o0)]⟩
def aS_.F (n:Nat):Pat.Ts aS_.d.ps→Option Int:=fun (a0,a1,_)=>aS_ n a0 a1
def cb_.d:FD Int:=⟨79,18,1,[.ag (aT_.q1 .v),.i .i64],[.i .i64],fun (a0,_)=>a0,fun r=>(r,()),[.ag [.v,.v,.v,.v,.v,.v,.v,.v,.v],.v],[.v],[.k],[.tmp 4],[],[],[],[]⟩
def cb_.F (n:Nat):Pat.Ts cb_.d.ps→Option Int:=fun (a0,a1,_)=>cb_ n (aT_.of a0) a1
def aW_.p3:OD:=⟨[(0,.view .iRow),(1,.k),(5,.k)],[.sl .v .iRow,.i .i64,.i .i64],[.ext]⟩
def aW_.o0:OD:=⟨[(1,.k)],[.i .i64],[.ext]⟩
def aW_.d:FD Int:=⟨80,31,1,[.sl .v .iRow,.i .i64],[.i .i64],fun (a0,_)=>a0,fun r=>(r,()),[.v,.v],[.v],[.k],[.tmp 4],[],[(3,aW_.p3)],[],[(0,aW_.o0)]⟩
def aW_.F (n:Nat):Pat.Ts aW_.d.ps→Option Int:=fun (a0,a1,_)=>aW_ n a0 a1
def aX_.p3:OD:=⟨[(0,.view .iKid),(1,.k),(5,.k)],[.sl .v .iKid,.i .i64,.i .i64],[.ext]⟩
def aX_.o0:OD:=⟨[(1,.k)],[.i .i64],[.ext]⟩
def aX_.d:FD Int:=⟨81,31,1,[.sl .v .iKid,.i .i64],[.i .i64],fun (a0,_)=>a0,fun r=>(r,()),[.v,.v],[.v],[.k],[.tmp 4],[],[(3,aX_.p3)],[],[(0,aX_.o0)]⟩
def aX_.F (n:Nat):Pat.Ts aX_.d.ps→Option Int:=fun (a0,a1,_)=>aX_ n a0 a1
def co_.d:FD Int:=⟨34,24,1,[.ag (bB_.q1 .v),.i .i64],[.i .i64],fun (a0,_)=>a0,fun r=>(r,()),[.ag [.v,.v,.v,.v,.v,.v,.v,.v,.v,.v,.v],.v],[.v],[.k],[.tmp 4],[],[],[],[]⟩
def co_.F (n:Nat):Pat.Ts co_.d.ps→Option Int:=fun (a0,a1,_)=>co_ n (bB_.of a0) a1
def cp_.d:FD Int:=⟨12,18,1,[.ag (bZ_.q1 .v),.i .i64],[.i .i64],fun (a0,_)=>a0,fun r=>(r,()),[.ag [.v,.v,.v,.v,.v,.v,.v,.v,.v,.v,.v,.v,.v,.v,.v,.v,.v,.v,.v,.v,.v,.v,.v,.v,.v],.v],[.v],[.k],[.tmp 4],[],[],[],[]⟩
def cp_.F (n:Nat):Pat.Ts cp_.d.ps→Option Int:=fun (a0,a1,_)=>cp_ n (bZ_.of a0) a1
def ar_.p3:OD:=⟨[(0,.view .str),(1,.k),(5,.k)],[.sl .v .str,.i .i64,.i .i64],[.ext]⟩
def ar_.o0:OD:=⟨[(1,.k)],[.i .i64],[.ext]⟩
def ar_.d:FD Int:=⟨83,22,1,[.sl .v .str,.i .i64],[.i .i64],fun (a0,_)=>a0,fun r=>(r,()),[.v,.v],[.v],[.k],[.tmp 4],[],[(3,ar_.p3)],[],[(0,ar_.o0)]⟩
def ar_.F (n:Nat):Pat.Ts ar_.d.ps→Option Int:=fun (a0,a1,_)=>ar_ n a0 a1
def az_.p3:OD:=⟨[(0,.view .iJson),(1,.k),(5,.k)],[.sl .v .iJson,.i .i64,.i .i64],[.ext]⟩
def az_.o0:OD:=⟨[(1,.k)],[.i .i64],[.ext]⟩
def az_.d:FD Int:=⟨82,59,1,[.sl .v .iJson,.i .i64],[.i .i64],fun (a0,_)=>a0,fun r=>(r,()),[.v,.v],[.v],[.k],[.tmp 4],[],[(3,az_.p3)],[],[(0,az_.o0)]⟩
def az_.F (n:Nat):Pat.Ts az_.d.ps→Option Int:=fun (a0,a1,_)=>az_ n a0 a1
def cA_.d:FD Int:=⟨35,18,1,[.ag (aa_.p .v),.i .i64],[.i .i64],fun (a0,_)=>a0,fun r=>(r,()),[.ag [.v,.v,.v,.v,.v],.v],[.v],[.k],[.tmp 4],[],[],[],[]⟩
def cA_.F (n:Nat):Pat.Ts cA_.d.ps→Option Int:=fun (a0,a1,_)=>cA_ n (aa_.of a0) a1
def ba_.p3:OD:=⟨[(0,.view .iOp),(1,.k),(5,.k)],[.sl .v .iOp,.i .i64,.i .i64],[.ext]⟩
def ba_.o0:OD:=⟨[(1,.k)],[.i .i64],[.ext]⟩
def ba_.d:FD Int:=⟨36,82,1,[.sl .v .iOp,.i .i64],[.i .i64],fun (a0,_)=>a0,fun r=>(r,()),[.v,.v],[.v],[.k],[.tmp 4],[],[(3,ba_.p3)],[],[(0,ba_.o0)]⟩
def ba_.F (n:Nat):Pat.Ts ba_.d.ps→Option Int:=fun (a0,a1,_)=>ba_ n a0 a1
def b2_.d:FD Int:=⟨13,18,1,[.ag (cI_.p .v),.i .i64],[.i .i64],fun (a0,_)=>a0,fun r=>(r,()),[.ag [.v,.v,.v,.v,.v,.v,.v,.v,.v],.v],[.v],[.k],[.tmp 4],[],[],[],[]⟩
def b2_.F (n:Nat):Pat.Ts b2_.d.ps→Option Int:=fun (a0,a1,_)=>b2_ n (cI_.of a0) a1
def laws_FnExactSessTake.d:FD Bool:=⟨3,133,1,[.ag (bZ_.p .v)],[.b],fun (a0,_)=>a0,fun r=>(r,()),[.ag [.v,.v,.v,.v,.v,.v,.v,.v,.v,.v,.v,.v,.v,.v,.v,.v,.v,.v,.v,.v,.v,.v,.v,.v,.v]],[.v],[.k],[.tmp 2],[],[],[],[]⟩
def laws_FnExactSessTake.F (n:Nat):Pat.Ts laws_FnExactSessTake.d.ps→Option Bool:=fun (a0,_)=>laws_FnExactSessTake n (bZ_.of a0)
def KL (n:Nat):List (Nat × Hd):=[
 (3,⟨fun _=>laws_FnExactSessTake.d.K (laws_FnExactSessTake.F n)⟩),
 (4,⟨fun _=>dq_.d.K (dq_.F n)⟩),
 (5,⟨fun _=>cx_.d.K (cx_.F n)⟩),
 (6,⟨fun _=>cK_.d.K (cK_.F n)⟩),
 (7,⟨fun _=>cs_.d.K (cs_.F n)⟩),
 (8,⟨fun _=>cL_.d.K (cL_.F n)⟩),
 (9,⟨fun _=>cH_.d.K (cH_.F n)⟩),
 (10,⟨fun _=>cn_.d.K (cn_.F n)⟩),
 (11,⟨fun _=>ca_.d.K (ca_.F n)⟩),
 (12,⟨fun _=>cp_.d.K (cp_.F n)⟩),
 (13,⟨fun _=>b2_.d.K (b2_.F n)⟩),
 (14,⟨fun _=>dh_.d.K (dh_.F n)⟩),
 (15,⟨fun _=>cN_.d.K (cN_.F n)⟩),
 (16,⟨fun _=>cP_.d.K (cP_.F n)⟩),
 (17,⟨fun _=>ct_.d.K (ct_.F n)⟩),
 (18,⟨fun _=>cO_.d.K (cO_.F n)⟩),
 (19,⟨fun _=>b1_.d.K (b1_.F n)⟩),
 (20,⟨fun _=>cj_.d.K (cj_.F n)⟩),
 (21,⟨fun _=>c3_.d.K (c3_.F n)⟩),
 (22,⟨fun _=>cC_.d.K (cC_.F n)⟩),
 (23,⟨fun _=>cW_.d.K (cW_.F n)⟩),
 (24,⟨fun _=>cu_.d.K (cu_.F n)⟩),
 (25,⟨fun _=>cV_.d.K (cV_.F n)⟩),
 (26,⟨fun _=>b4_.d.K (b4_.F n)⟩),
 (27,⟨fun _=>bY_.d.K (bY_.F n)⟩),
 (28,⟨fun _=>c4_.d.K (c4_.F n)⟩),
 (29,⟨fun _=>b6_.d.K (b6_.F n)⟩),
 (30,⟨fun _=>bI_.d.K (bI_.F n)⟩),
 (31,⟨fun _=>cm_.d.K (cm_.F n)⟩),
 (32,⟨fun _=>cz_.d.K (cz_.F n)⟩),
 (33,⟨fun _=>a9_.d.K (a9_.F n)⟩),
 (34,⟨fun _=>co_.d.K (co_.F n)⟩),
 (35,⟨fun _=>cA_.d.K (cA_.F n)⟩),
 (36,⟨fun _=>ba_.d.K (ba_.F n)⟩),
 (37,⟨fun _=>cY_.d.K (cY_.F n)⟩),
 (38,⟨fun _=>bi_.d.K (bi_.F n)⟩),
 (39,⟨fun _=>dr_.d.K (dr_.F n)⟩),
 (40,⟨fun _=>cy_.d.K (cy_.F n)⟩),
 (41,⟨fun _=>bH_.d.K (bH_.F n)⟩),
 (42,⟨fun _=>aO_.d.K (aO_.F n)⟩),
 (43,⟨fun _=>aJ_.d.K (aJ_.F n)⟩),
 (44,⟨fun _=>cX_.d.K (cX_.F n)⟩),
 (45,⟨fun _=>b8_.d.K (b8_.F n)⟩),
 (46,⟨fun _=>dC_.d.K (dC_.F n)⟩),
 (47,⟨fun _=>a2_.d.K (a2_.F n)⟩),
 (48,⟨fun _=>bF_.d.K (bF_.F n)⟩),
 (49,⟨fun _=>dP_.d.K (dP_.F n)⟩),
 (50,⟨fun _=>db_.d.K (db_.F n)⟩),
 (51,⟨fun _=>bv_.d.K (bv_.F n)⟩),
 (52,⟨fun _=>cQ_.d.K (cQ_.F n)⟩),
 (53,⟨fun _=>bk_.d.K (bk_.F n)⟩),
 (54,⟨fun _=>bl_.d.K (bl_.F n)⟩),
 (55,⟨fun _=>cD_.d.K (cD_.F n)⟩),
 (56,⟨fun _=>dJ_.d.K (dJ_.F n)⟩),
 (57,⟨fun _=>aF_.d.K (aF_.F n)⟩),
 (58,⟨fun _=>ce_.d.K (ce_.F n)⟩),
 (59,⟨fun _=>c6_.d.K (c6_.F n)⟩),
 (60,⟨fun _=>cd_.d.K (cd_.F n)⟩),
 (61,⟨fun _=>dI_.d.K (dI_.F n)⟩),
 (62,⟨fun _=>bD_.d.K (bD_.F n)⟩),
 (63,⟨fun _=>bG_.d.K (bG_.F n)⟩),
 (64,⟨fun _=>a1_.d.K (a1_.F n)⟩),
 (65,⟨fun _=>cc_.d.K (cc_.F n)⟩),
 (66,⟨fun _=>aZ_.d.K (aZ_.F n)⟩),
 (67,⟨fun _=>cR_.d.K (cR_.F n)⟩),
 (68,⟨fun _=>bw_.d.K (bw_.F n)⟩),
 (69,⟨fun _=>bx_.d.K (bx_.F n)⟩),
 (70,⟨fun _=>bb_.d.K (bb_.F n)⟩),
 (71,⟨fun _=>aM_.d.K (aM_.F n)⟩),
 (72,⟨fun _=>dS_.d.K (dS_.F n)⟩),
 (73,⟨fun _=>b9_.d.K (b9_.F n)⟩),
 (74,⟨fun _=>aU_.d.K (aU_.F n)⟩),
 (75,⟨fun _=>aV_.d.K (aV_.F n)⟩),
 (76,⟨fun _=>ay_.d.K (ay_.F n)⟩),
 (77,⟨fun _=>aq_.d.K (aq_.F n)⟩),
 (78,⟨fun _=>aH_.d.K (aH_.F n)⟩),
 (79,⟨fun _=>cb_.d.K (cb_.F n)⟩),
 (80,⟨fun _=>aW_.d.K (aW_.F n)⟩),
 (81,⟨fun _=>aX_.d.K (aX_.F n)⟩),
 (82,⟨fun _=>az_.d.K (az_.F n)⟩),
 (83,⟨fun _=>ar_.d.K (ar_.F n)⟩),
 (84,⟨fun _=>cZ_.d.K (cZ_.F n)⟩),
 (85,⟨fun _=>di_.d.K (di_.F n)⟩),
 (86,⟨fun _=>dM_.d.K (dM_.F n)⟩),
 (87,⟨fun _=>ch_.d.K (ch_.F n)⟩),
 (88,⟨fun _=>al_.d.K (al_.F n)⟩),
 (89,⟨fun _=>cl_.d.K (cl_.F n)⟩),
 (90,⟨fun _=>bg_.d.K (bg_.F n)⟩),
 (91,⟨fun _=>cf_.d.K (cf_.F n)⟩),
 (92,⟨fun _=>cv_.d.K (cv_.F n)⟩),
 (93,⟨fun _=>bp_.d.K (bp_.F n)⟩),
 (94,⟨fun _=>df_.d.K (df_.F n)⟩),
 (95,⟨fun _=>aE_.d.K (aE_.F n)⟩),
 (96,⟨fun _=>bd_.d.K (bd_.F n)⟩),
 (97,⟨fun _=>bu_.d.K (bu_.F n)⟩),
 (98,⟨fun _=>de_.d.K (de_.F n)⟩),
 (99,⟨fun _=>a7_.d.K (a7_.F n)⟩),
 (100,⟨fun _=>aD_.d.K (aD_.F n)⟩),
 (101,⟨fun _=>aA_.d.K (aA_.F n)⟩),
 (102,⟨fun _=>dd_.d.K (dd_.F n)⟩),
 (103,⟨fun _=>a4_.d.K (a4_.F n)⟩),
 (104,⟨fun _=>bh_.d.K (bh_.F n)⟩),
 (105,⟨fun _=>dD_.d.K (dD_.F n)⟩),
 (106,⟨fun _=>dE_.d.K (dE_.F n)⟩),
 (107,⟨fun _=>cw_.d.K (cw_.F n)⟩),
 (108,⟨fun _=>c1_.d.K (c1_.F n)⟩),
 (109,⟨fun _=>a5_.d.K (a5_.F n)⟩),
 (110,⟨fun _=>ak_.d.K (ak_.F n)⟩),
 (111,⟨fun _=>cE_.d.K (cE_.F n)⟩),
 (112,⟨fun _=>cq_.d.K (cq_.F n)⟩),
 (113,⟨fun _=>by_.d.K (by_.F n)⟩),
 (114,⟨fun _=>a6_.d.K (a6_.F n)⟩),
 (115,⟨fun _=>aQ_.d.K (aQ_.F n)⟩),
 (116,⟨fun _=>as_.d.K (as_.F n)⟩),
 (117,⟨fun _=>aC_.d.K (aC_.F n)⟩),
 (118,⟨fun _=>dl_.d.K (dl_.F n)⟩),
 (119,⟨fun _=>bc_.d.K (bc_.F n)⟩),
 (120,⟨fun _=>dw_.d.K (dw_.F n)⟩),
 (121,⟨fun _=>c7_.d.K (c7_.F n)⟩),
 (122,⟨fun _=>bo_.d.K (bo_.F n)⟩),
 (123,⟨fun _=>aI_.d.K (aI_.F n)⟩),
 (124,⟨fun _=>bn_.d.K (bn_.F n)⟩),
 (125,⟨fun _=>cr_.d.K (cr_.F n)⟩),
 (126,⟨fun _=>cU_.d.K (cU_.F n)⟩),
 (127,⟨fun _=>be_.d.K (be_.F n)⟩),
 (128,⟨fun _=>bs_.d.K (bs_.F n)⟩),
 (129,⟨fun _=>dF_.d.K (dF_.F n)⟩),
 (130,⟨fun _=>dG_.d.K (dG_.F n)⟩),
 (131,⟨fun _=>aK_.d.K (aK_.F n)⟩),
 (132,⟨fun _=>aR_.d.K (aR_.F n)⟩),
 (133,⟨fun _=>aL_.d.K (aL_.F n)⟩),
 (134,⟨fun _=>aS_.d.K (aS_.F n)⟩),
 (135,⟨fun _=>aG_.d.K (aG_.F n)⟩),
 (136,⟨fun _=>dB_.d.K (dB_.F n)⟩),
 (137,⟨fun _=>dA_.d.K (dA_.F n)⟩),
 (138,⟨fun _=>bz_.d.K (bz_.F n)⟩),
 (139,⟨fun _=>aN_.d.K (aN_.F n)⟩),
 (140,⟨fun _=>dc_.d.K (dc_.F n)⟩),
 (141,⟨fun _=>bN_.d.K (bN_.F n)⟩),
 (142,⟨fun _=>cM_.d.K (cM_.F n)⟩),
 (143,⟨fun _=>aw_.d.K (aw_.F n)⟩),
 (144,⟨fun _=>a3_.d.K (a3_.F n)⟩),
 (145,⟨fun _=>bM_.d.K (bM_.F n)⟩),
 (146,⟨fun _=>b0_.d.K (b0_.F n)⟩),
 (147,⟨fun _=>ck_.d.K (ck_.F n)⟩),
 (148,⟨fun _=>dg_.d.K (dg_.F n)⟩),
 (149,⟨fun _=>a8_.d.K (a8_.F n)⟩),
 (150,⟨fun _=>aj_.d.K (aj_.F n)⟩),
 (151,⟨fun _=>ad_.d.K (ad_.F n)⟩),
 (152,⟨fun _=>cT_.d.K (cT_.F n)⟩),
 (153,⟨fun _=>bm_.d.K (bm_.F n)⟩),
 (154,⟨fun _=>ac_.d.K (ac_.F n)⟩),
 (155,⟨fun _=>dn_.d.K (dn_.F n)⟩),
 (156,⟨fun _=>bt_.d.K (bt_.F n)⟩),
 (157,⟨fun _=>strconv_Itoa.d.K (strconv_Itoa.F n)⟩),
 (158,⟨fun _=>strings_Join.d.K (strings_Join.F n)⟩),
 (159,⟨fun _=>bV_.d.K (bV_.F n)⟩),
 (160,⟨fun _=>br_.d.K (br_.F n)⟩),
 (161,⟨fun _=>ab_.d.K (ab_.F n)⟩),
 (162,⟨fun _=>cB_.d.K (cB_.F n)⟩),
 (165,⟨fun _=>dj_.d.K (dj_.F n)⟩),
 (166,⟨fun _=>dy_.d.K (dy_.F n)⟩),
 (167,⟨fun _=>bj_.d.K (bj_.F n)⟩),
 (168,⟨fun _=>ag_.d.K (ag_.F n)⟩),
 (169,⟨fun _=>dH_.d.K (dH_.F n)⟩),
 (170,⟨fun _=>dk_.d.K (dk_.F n)⟩),
 (171,⟨fun _=>dm_.d.K (dm_.F n)⟩),
 (172,⟨fun _=>bC_.d.K (bC_.F n)⟩),
 (173,⟨fun _=>bO_.d.K (bO_.F n)⟩),
 (174,⟨fun _=>cS_.d.K (cS_.F n)⟩),
 (175,⟨fun _=>bf_.d.K (bf_.F n)⟩),
 (180,⟨fun _=>aB_.d.K (aB_.F n)⟩),
 (182,⟨fun _=>aY_.d.K (aY_.F n)⟩),
 (183,⟨fun _=>bA_.d.K (bA_.F n)⟩),
 (184,⟨fun _=>ax_.d.K (ax_.F n)⟩),
 (185,⟨fun _=>am_.d.K (am_.F n)⟩),
 (186,⟨fun _=>af_.d.K (af_.F n)⟩),
 (187,⟨fun _=>bK_.d.K (bK_.F n)⟩),
 (188,⟨fun _=>bR_.d.K (bR_.F n)⟩),
 (189,⟨fun _=>c5_.d.K (c5_.F n)⟩),
 (190,⟨fun _=>strings_ReplaceAll.d.K (strings_ReplaceAll.F n)⟩),
 (195,⟨fun _=>bS_.d.K (bS_.F n)⟩),
 (196,⟨fun _=>bq_.d.K (bq_.F n)⟩),
 (208,⟨fun _=>bL_.d.K (bL_.F n)⟩)]
def sigL:List (Nat × List PS):=[
 (3,laws_FnExactSessTake.d.sig),
 (4,dq_.d.sig),
 (5,cx_.d.sig),
 (6,cK_.d.sig),
 (7,cs_.d.sig),
 (8,cL_.d.sig),
 (9,cH_.d.sig),
 (10,cn_.d.sig),
 (11,ca_.d.sig),
 (12,cp_.d.sig),
 (13,b2_.d.sig),
 (14,dh_.d.sig),
 (15,cN_.d.sig),
 (16,cP_.d.sig),
 (17,ct_.d.sig),
 (18,cO_.d.sig),
 (19,b1_.d.sig),
 (20,cj_.d.sig),
 (21,c3_.d.sig),
 (22,cC_.d.sig),
 (23,cW_.d.sig),
 (24,cu_.d.sig),
 (25,cV_.d.sig),
 (26,b4_.d.sig),
 (27,bY_.d.sig),
 (28,c4_.d.sig),
 (29,b6_.d.sig),
 (30,bI_.d.sig),
 (31,cm_.d.sig),
 (32,cz_.d.sig),
 (33,a9_.d.sig),
 (34,co_.d.sig),
 (35,cA_.d.sig),
 (36,ba_.d.sig),
 (37,cY_.d.sig),
 (38,bi_.d.sig),
 (39,dr_.d.sig),
 (40,cy_.d.sig),
 (41,bH_.d.sig),
 (42,aO_.d.sig),
 (43,aJ_.d.sig),
 (44,cX_.d.sig),
 (45,b8_.d.sig),
 (46,dC_.d.sig),
 (47,a2_.d.sig),
 (48,bF_.d.sig),
 (49,dP_.d.sig),
 (50,db_.d.sig),
 (51,bv_.d.sig),
 (52,cQ_.d.sig),
 (53,bk_.d.sig),
 (54,bl_.d.sig),
 (55,cD_.d.sig),
 (56,dJ_.d.sig),
 (57,aF_.d.sig),
 (58,ce_.d.sig),
 (59,c6_.d.sig),
 (60,cd_.d.sig),
 (61,dI_.d.sig),
 (62,bD_.d.sig),
 (63,bG_.d.sig),
 (64,a1_.d.sig),
 (65,cc_.d.sig),
 (66,aZ_.d.sig),
 (67,cR_.d.sig),
 (68,bw_.d.sig),
 (69,bx_.d.sig),
 (70,bb_.d.sig),
 (71,aM_.d.sig),
 (72,dS_.d.sig),
 (73,b9_.d.sig),
 (74,aU_.d.sig),
 (75,aV_.d.sig),
 (76,ay_.d.sig),
 (77,aq_.d.sig),
 (78,aH_.d.sig),
 (79,cb_.d.sig),
 (80,aW_.d.sig),
 (81,aX_.d.sig),
 (82,az_.d.sig),
 (83,ar_.d.sig),
 (84,cZ_.d.sig),
 (85,di_.d.sig),
 (86,dM_.d.sig),
 (87,ch_.d.sig),
 (88,al_.d.sig),
 (89,cl_.d.sig),
 (90,bg_.d.sig),
 (91,cf_.d.sig),
 (92,cv_.d.sig),
 (93,bp_.d.sig),
 (94,df_.d.sig),
 (95,aE_.d.sig),
 (96,bd_.d.sig),
 (97,bu_.d.sig),
 (98,de_.d.sig),
 (99,a7_.d.sig),
 (100,aD_.d.sig),
 (101,aA_.d.sig),
 (102,dd_.d.sig),
 (103,a4_.d.sig),
 (104,bh_.d.sig),
 (105,dD_.d.sig),
 (106,dE_.d.sig),
 (107,cw_.d.sig),
 (108,c1_.d.sig),
 (109,a5_.d.sig),
 (110,ak_.d.sig),
 (111,cE_.d.sig),
 (112,cq_.d.sig),
 (113,by_.d.sig),
 (114,a6_.d.sig),
 (115,aQ_.d.sig),
 (116,as_.d.sig),
 (117,aC_.d.sig),
 (118,dl_.d.sig),
 (119,bc_.d.sig),
 (120,dw_.d.sig),
 (121,c7_.d.sig),
 (122,bo_.d.sig),
 (123,aI_.d.sig),
 (124,bn_.d.sig),
 (125,cr_.d.sig),
 (126,cU_.d.sig),
 (127,be_.d.sig),
 (128,bs_.d.sig),
 (129,dF_.d.sig),
 (130,dG_.d.sig),
 (131,aK_.d.sig),
 (132,aR_.d.sig),
 (133,aL_.d.sig),
 (134,aS_.d.sig),
 (135,aG_.d.sig),
 (136,dB_.d.sig),
 (137,dA_.d.sig),
 (138,bz_.d.sig),
 (139,aN_.d.sig),
 (140,dc_.d.sig),
 (141,bN_.d.sig),
 (142,cM_.d.sig),
 (143,aw_.d.sig),
 (144,a3_.d.sig),
 (145,bM_.d.sig),
 (146,b0_.d.sig),
 (147,ck_.d.sig),
 (148,dg_.d.sig),
 (149,a8_.d.sig),
 (150,aj_.d.sig),
 (151,ad_.d.sig),
 (152,cT_.d.sig),
 (153,bm_.d.sig),
 (154,ac_.d.sig),
 (155,dn_.d.sig),
 (156,bt_.d.sig),
 (157,strconv_Itoa.d.sig),
 (158,strings_Join.d.sig),
 (159,bV_.d.sig),
 (160,br_.d.sig),
 (161,ab_.d.sig),
 (162,cB_.d.sig),
 (165,dj_.d.sig),
 (166,dy_.d.sig),
 (167,bj_.d.sig),
 (168,ag_.d.sig),
 (169,dH_.d.sig),
 (170,dk_.d.sig),
 (171,dm_.d.sig),
 (172,bC_.d.sig),
 (173,bO_.d.sig),
 (174,cS_.d.sig),
 (175,bf_.d.sig),
 (180,aB_.d.sig),
 (182,aY_.d.sig),
 (183,bA_.d.sig),
 (184,ax_.d.sig),
 (185,am_.d.sig),
 (186,af_.d.sig),
 (187,bK_.d.sig),
 (188,bR_.d.sig),
 (189,c5_.d.sig),
 (190,strings_ReplaceAll.d.sig),
 (195,bS_.d.sig),
 (196,bq_.d.sig),
 (208,bL_.d.sig)]
def fzL:List Nat:=[5,17,41,47,90,91,94,98,119,122,124,138]
def cx (n nt:Nat):Cx:=⟨nt,tt,fun f=>g4_ sigL f,KH (KL n),fun f=>fzL.any (Nat.beq f)⟩
end Go.Pi
end
section
namespace Go.Pi
open Go.Proofs
noncomputable def cZ_.fs (n:Nat):cZ_.d.Fs:=()
theorem cZ_.ok (n:Nat):CxOk E (cx n cZ_.d.nt)→KPar (cx n cZ_.d.nt)→cZ_.d.Ok E (cZ_.F (n+1)) :=
 FD.ok (fs:=cZ_.fs n) av_ Tryz.func84 (by kernel_rfl) (by kernel_rfl) (by kernel_rfl) (by kernel_rfl) (fun _=>by kernel_rfl) (by kernel_rfl) (fun x=>by kernel_rfl) (.nil)
noncomputable def di_.fs (n:Nat):di_.d.Fs:=()
theorem di_.ok (n:Nat):CxOk E (cx n di_.d.nt)→KPar (cx n di_.d.nt)→di_.d.Ok E (di_.F (n+1)) :=
 FD.ok (fs:=di_.fs n) av_ Tryz.func85 (by kernel_rfl) (by kernel_rfl) (by kernel_rfl) (by kernel_rfl) (fun _=>by kernel_rfl) (by kernel_rfl) (fun x=>by kernel_rfl) (.nil)
noncomputable def cY_.fs (n:Nat):cY_.d.Fs:=()
theorem cY_.ok (n:Nat):CxOk E (cx n cY_.d.nt)→KPar (cx n cY_.d.nt)→cY_.d.Ok E (cY_.F (n+1)) :=
 FD.ok (fs:=cY_.fs n) av_ Tryz.func37 (by kernel_rfl) (by kernel_rfl) (by kernel_rfl) (by kernel_rfl) (fun _=>by kernel_rfl) (by kernel_rfl) (fun x=>by kernel_rfl) (.nil)
noncomputable def dM_.fs (n:Nat):dM_.d.Fs:=()
theorem dM_.ok (n:Nat):CxOk E (cx n dM_.d.nt)→KPar (cx n dM_.d.nt)→dM_.d.Ok E (dM_.F (n+1)) :=
 FD.ok (fs:=dM_.fs n) av_ Tryz.func86 (by kernel_rfl) (by kernel_rfl) (by kernel_rfl) (by kernel_rfl) (fun _=>by kernel_rfl) (by kernel_rfl) (fun x=>by kernel_rfl) (.nil)
noncomputable def bi_.fs (n:Nat):bi_.d.Fs:=(fun _ κe=>bi_.loop7 n (bi_.o0.k (κe 0)) n,())
theorem bi_.r7 (n:Nat):bi_.d.Round (bi_.fs n) (cx n bi_.d.nt) (b5_ Tryz.f38) 7 bi_.p7 (fun κe=>bi_.step7 n (bi_.o0.k (κe 0))):=fun κ κe x y=>by kernel_rfl
theorem bi_.ok (n:Nat):CxOk E (cx n bi_.d.nt)→KPar (cx n bi_.d.nt)→bi_.d.Ok E (bi_.F (n+1)) :=
 FD.ok (fs:=bi_.fs n) av_ Tryz.func38 (by kernel_rfl) (by kernel_rfl) (by kernel_rfl) (by kernel_rfl) (fun _=>by kernel_rfl) (by kernel_rfl) (fun x=>by kernel_rfl) (.cons (FD.lp n (bi_.r7 n) (by kernel_rfl) fun _ _=>by kernel_rfl) (.nil))
noncomputable def dr_.fs (n:Nat):dr_.d.Fs:=()
theorem dr_.ok (n:Nat):CxOk E (cx n dr_.d.nt)→KPar (cx n dr_.d.nt)→dr_.d.Ok E (dr_.F (n+1)) :=
 FD.ok (fs:=dr_.fs n) av_ Tryz.func39 (by kernel_rfl) (by kernel_rfl) (by kernel_rfl) (by kernel_rfl) (fun _=>by kernel_rfl) (by kernel_rfl) (fun x=>by kernel_rfl) (.nil)
noncomputable def dh_.fs (n:Nat):dh_.d.Fs:=()
theorem dh_.ok (n:Nat):CxOk E (cx n dh_.d.nt)→KPar (cx n dh_.d.nt)→dh_.d.Ok E (dh_.F (n+1)) :=
 FD.ok (fs:=dh_.fs n) av_ Tryz.func14 (by kernel_rfl) (by kernel_rfl) (by kernel_rfl) (by kernel_rfl) (fun _=>by kernel_rfl) (by kernel_rfl) (fun x=>by kernel_rfl) (.nil)
noncomputable def dq_.fs (n:Nat):dq_.d.Fs:=()
theorem dq_.ok (n:Nat):CxOk E (cx n dq_.d.nt)→KPar (cx n dq_.d.nt)→dq_.d.Ok E (dq_.F (n+1)) :=
 FD.ok (fs:=dq_.fs n) av_ Tryz.func4 (by kernel_rfl) (by kernel_rfl) (by kernel_rfl) (by kernel_rfl) (fun _=>by kernel_rfl) (by kernel_rfl) (fun x=>by kernel_rfl) (.nil)
noncomputable def dg_.fs (n:Nat):dg_.d.Fs:=()
theorem dg_.ok (n:Nat):CxOk E (cx n dg_.d.nt)→KPar (cx n dg_.d.nt)→dg_.d.Ok E (dg_.F (n+1)) :=
 FD.ok (fs:=dg_.fs n) av_ Tryz.func148 (by kernel_rfl) (by kernel_rfl) (by kernel_rfl) (by kernel_rfl) (fun _=>by kernel_rfl) (by kernel_rfl) (fun x=>by kernel_rfl) (.nil)
noncomputable def a4_.fs (n:Nat):a4_.d.Fs:=(fun _ κe=>a4_.loop4 n (a4_.o0.k (κe 0)) n,())
theorem a4_.r4 (n:Nat):a4_.d.Round (a4_.fs n) (cx n a4_.d.nt) (b5_ Tryz.f103) 4 a4_.p4 (fun κe=>a4_.step4 n (a4_.o0.k (κe 0))):=fun κ κe x y=>by kernel_rfl
theorem a4_.ok (n:Nat):CxOk E (cx n a4_.d.nt)→KPar (cx n a4_.d.nt)→a4_.d.Ok E (a4_.F (n+1)) :=
 FD.ok (fs:=a4_.fs n) av_ Tryz.func103 (by kernel_rfl) (by kernel_rfl) (by kernel_rfl) (by kernel_rfl) (fun _=>by kernel_rfl) (by kernel_rfl) (fun x=>by kernel_rfl) (.cons (FD.lp n (a4_.r4 n) (by kernel_rfl) fun _ _=>by kernel_rfl) (.nil))
noncomputable def bh_.fs (n:Nat):bh_.d.Fs:=(fun _ κe=>bh_.loop4 n (bh_.o0.k (κe 0)) n,())
theorem bh_.r4 (n:Nat):bh_.d.Round (bh_.fs n) (cx n bh_.d.nt) (b5_ Tryz.f104) 4 bh_.p4 (fun κe=>bh_.step4 n (bh_.o0.k (κe 0))):=fun κ κe x y=>by kernel_rfl
theorem bh_.ok (n:Nat):CxOk E (cx n bh_.d.nt)→KPar (cx n bh_.d.nt)→bh_.d.Ok E (bh_.F (n+1)) :=
 FD.ok (fs:=bh_.fs n) av_ Tryz.func104 (by kernel_rfl) (by kernel_rfl) (by kernel_rfl) (by kernel_rfl) (fun _=>by kernel_rfl) (by kernel_rfl) (fun x=>by kernel_rfl) (.cons (FD.lp n (bh_.r4 n) (by kernel_rfl) fun _ _=>by kernel_rfl) (.nil))
noncomputable def cQ_.fs (n:Nat):cQ_.d.Fs:=()
theorem cQ_.ok (n:Nat):CxOk E (cx n cQ_.d.nt)→KPar (cx n cQ_.d.nt)→cQ_.d.Ok E (cQ_.F (n+1)) :=
 FD.ok (fs:=cQ_.fs n) av_ Tryz.func52 (by kernel_rfl) (by kernel_rfl) (by kernel_rfl) (by kernel_rfl) (fun _=>by kernel_rfl) (by kernel_rfl) (fun x=>by kernel_rfl) (.nil)
noncomputable def dD_.fs (n:Nat):dD_.d.Fs:=()
theorem dD_.ok (n:Nat):CxOk E (cx n dD_.d.nt)→KPar (cx n dD_.d.nt)→dD_.d.Ok E (dD_.F (n+1)) :=
 FD.ok (fs:=dD_.fs n) av_ Tryz.func105 (by kernel_rfl) (by kernel_rfl) (by kernel_rfl) (by kernel_rfl) (fun _=>by kernel_rfl) (by kernel_rfl) (fun x=>by kernel_rfl) (.nil)
noncomputable def bk_.fs (n:Nat):bk_.d.Fs:=(fun _ κe=>bk_.loop4 n (bk_.o0.k (κe 0)) n,())
theorem bk_.r4 (n:Nat):bk_.d.Round (bk_.fs n) (cx n bk_.d.nt) (b5_ Tryz.f53) 4 bk_.p4 (fun κe=>bk_.step4 n (bk_.o0.k (κe 0))):=fun κ κe x y=>by kernel_rfl
theorem bk_.ok (n:Nat):CxOk E (cx n bk_.d.nt)→KPar (cx n bk_.d.nt)→bk_.d.Ok E (bk_.F (n+1)) :=
 FD.ok (fs:=bk_.fs n) av_ Tryz.func53 (by kernel_rfl) (by kernel_rfl) (by kernel_rfl) (by kernel_rfl) (fun _=>by kernel_rfl) (by kernel_rfl) (fun x=>by kernel_rfl) (.cons (FD.lp n (bk_.r4 n) (by kernel_rfl) fun _ _=>by kernel_rfl) (.nil))
noncomputable def dE_.fs (n:Nat):dE_.d.Fs:=()
theorem dE_.ok (n:Nat):CxOk E (cx n dE_.d.nt)→KPar (cx n dE_.d.nt)→dE_.d.Ok E (dE_.F (n+1)) :=
 FD.ok (fs:=dE_.fs n) av_ Tryz.func106 (by kernel_rfl) (by kernel_rfl) (by kernel_rfl) (by kernel_rfl) (fun _=>by kernel_rfl) (by kernel_rfl) (fun x=>by kernel_rfl) (.nil)
noncomputable def bl_.fs (n:Nat):bl_.d.Fs:=(fun _ κe=>bl_.loop4 n (bl_.o0.k (κe 0)) n,())
theorem bl_.r4 (n:Nat):bl_.d.Round (bl_.fs n) (cx n bl_.d.nt) (b5_ Tryz.f54) 4 bl_.p4 (fun κe=>bl_.step4 n (bl_.o0.k (κe 0))):=fun κ κe x y=>by kernel_rfl
theorem bl_.ok (n:Nat):CxOk E (cx n bl_.d.nt)→KPar (cx n bl_.d.nt)→bl_.d.Ok E (bl_.F (n+1)) :=
 FD.ok (fs:=bl_.fs n) av_ Tryz.func54 (by kernel_rfl) (by kernel_rfl) (by kernel_rfl) (by kernel_rfl) (fun _=>by kernel_rfl) (by kernel_rfl) (fun x=>by kernel_rfl) (.cons (FD.lp n (bl_.r4 n) (by kernel_rfl) fun _ _=>by kernel_rfl) (.nil))
noncomputable def c3_.fs (n:Nat):c3_.d.Fs:=()
theorem c3_.ok (n:Nat):CxOk E (cx n c3_.d.nt)→KPar (cx n c3_.d.nt)→c3_.d.Ok E (c3_.F (n+1)) :=
 FD.ok (fs:=c3_.fs n) av_ Tryz.func21 (by kernel_rfl) (by kernel_rfl) (by kernel_rfl) (by kernel_rfl) (fun _=>by kernel_rfl) (by kernel_rfl) (fun x=>by kernel_rfl) (.nil)
noncomputable def cK_.fs (n:Nat):cK_.d.Fs:=()
theorem cK_.ok (n:Nat):CxOk E (cx n cK_.d.nt)→KPar (cx n cK_.d.nt)→cK_.d.Ok E (cK_.F (n+1)) :=
 FD.ok (fs:=cK_.fs n) av_ Tryz.func6 (by kernel_rfl) (by kernel_rfl) (by kernel_rfl) (by kernel_rfl) (fun _=>by kernel_rfl) (by kernel_rfl) (fun x=>by kernel_rfl) (.nil)
noncomputable def db_.fs (n:Nat):db_.d.Fs:=()
theorem db_.ok (n:Nat):CxOk E (cx n db_.d.nt)→KPar (cx n db_.d.nt)→db_.d.Ok E (db_.F (n+1)) :=
 FD.ok (fs:=db_.fs n) av_ Tryz.func50 (by kernel_rfl) (by kernel_rfl) (by kernel_rfl) (by kernel_rfl) (fun _=>by kernel_rfl) (by kernel_rfl) (fun x=>by kernel_rfl) (.nil)
noncomputable def dd_.fs (n:Nat):dd_.d.Fs:=()
theorem dd_.ok (n:Nat):CxOk E (cx n dd_.d.nt)→KPar (cx n dd_.d.nt)→dd_.d.Ok E (dd_.F (n+1)) :=
 FD.ok (fs:=dd_.fs n) av_ Tryz.func102 (by kernel_rfl) (by kernel_rfl) (by kernel_rfl) (by kernel_rfl) (fun _=>by kernel_rfl) (by kernel_rfl) (fun x=>by kernel_rfl) (.nil)
noncomputable def bv_.fs (n:Nat):bv_.d.Fs:=(fun _ κe=>bv_.loop4 n (bv_.o0.k (κe 0)) n,())
theorem bv_.r4 (n:Nat):bv_.d.Round (bv_.fs n) (cx n bv_.d.nt) (b5_ Tryz.f51) 4 bv_.p4 (fun κe=>bv_.step4 n (bv_.o0.k (κe 0))):=fun κ κe x y=>by kernel_rfl
theorem bv_.ok (n:Nat):CxOk E (cx n bv_.d.nt)→KPar (cx n bv_.d.nt)→bv_.d.Ok E (bv_.F (n+1)) :=
 FD.ok (fs:=bv_.fs n) av_ Tryz.func51 (by kernel_rfl) (by kernel_rfl) (by kernel_rfl) (by kernel_rfl) (fun _=>by kernel_rfl) (by kernel_rfl) (fun x=>by kernel_rfl) (.cons (FD.lp n (bv_.r4 n) (by kernel_rfl) fun _ _=>by kernel_rfl) (.nil))
noncomputable def cj_.fs (n:Nat):cj_.d.Fs:=()
theorem cj_.ok (n:Nat):CxOk E (cx n cj_.d.nt)→KPar (cx n cj_.d.nt)→cj_.d.Ok E (cj_.F (n+1)) :=
 FD.ok (fs:=cj_.fs n) av_ Tryz.func20 (by kernel_rfl) (by kernel_rfl) (by kernel_rfl) (by kernel_rfl) (fun _=>by kernel_rfl) (by kernel_rfl) (fun x=>by kernel_rfl) (.nil)
noncomputable def cN_.fs (n:Nat):cN_.d.Fs:=()
theorem cN_.ok (n:Nat):CxOk E (cx n cN_.d.nt)→KPar (cx n cN_.d.nt)→cN_.d.Ok E (cN_.F (n+1)) :=
 FD.ok (fs:=cN_.fs n) av_ Tryz.func15 (by kernel_rfl) (by kernel_rfl) (by kernel_rfl) (by kernel_rfl) (fun _=>by kernel_rfl) (by kernel_rfl) (fun x=>by kernel_rfl) (.nil)
noncomputable def bp_.fs (n:Nat):bp_.d.Fs:=(fun _ κe=>bp_.loop3 n (bp_.o0.k (κe 0)) n,())
theorem bp_.r3 (n:Nat):bp_.d.Round (bp_.fs n) (cx n bp_.d.nt) (b5_ Tryz.f93) 3 bp_.p3 (fun κe=>bp_.step3 n (bp_.o0.k (κe 0))):=fun κ κe x y=>by kernel_rfl
theorem bp_.ok (n:Nat):CxOk E (cx n bp_.d.nt)→KPar (cx n bp_.d.nt)→bp_.d.Ok E (bp_.F (n+1)) :=
 FD.ok (fs:=bp_.fs n) av_ Tryz.func93 (by kernel_rfl) (by kernel_rfl) (by kernel_rfl) (by kernel_rfl) (fun _=>by kernel_rfl) (by kernel_rfl) (fun x=>by kernel_rfl) (.cons (FD.lp n (bp_.r3 n) (by kernel_rfl) fun _ _=>by kernel_rfl) (.nil))
noncomputable def aO_.fs (n:Nat):aO_.d.Fs:=(fun _ κe=>aO_.loop4 n (aO_.o0.k (κe 0)) n,())
theorem aO_.r4 (n:Nat):aO_.d.Round (aO_.fs n) (cx n aO_.d.nt) (b5_ Tryz.f42) 4 aO_.p4 (fun κe=>aO_.step4 n (aO_.o0.k (κe 0))):=fun κ κe x y=>by kernel_rfl
theorem aO_.ok (n:Nat):CxOk E (cx n aO_.d.nt)→KPar (cx n aO_.d.nt)→aO_.d.Ok E (aO_.F (n+1)) :=
 FD.ok (fs:=aO_.fs n) av_ Tryz.func42 (by kernel_rfl) (by kernel_rfl) (by kernel_rfl) (by kernel_rfl) (fun _=>by kernel_rfl) (by kernel_rfl) (fun x=>by kernel_rfl) (.cons (FD.lp n (aO_.r4 n) (by kernel_rfl) fun _ _=>by kernel_rfl) (.nil))
noncomputable def dA_.fs (n:Nat):dA_.d.Fs:=()
theorem dA_.ok (n:Nat):CxOk E (cx n dA_.d.nt)→KPar (cx n dA_.d.nt)→dA_.d.Ok E (dA_.F (n+1)) :=
 FD.ok (fs:=dA_.fs n) av_ Tryz.func137 (by kernel_rfl) (by kernel_rfl) (by kernel_rfl) (by kernel_rfl) (fun _=>by kernel_rfl) (by kernel_rfl) (fun x=>by kernel_rfl) (.nil)
noncomputable def dB_.fs (n:Nat):dB_.d.Fs:=()
theorem dB_.ok (n:Nat):CxOk E (cx n dB_.d.nt)→KPar (cx n dB_.d.nt)→dB_.d.Ok E (dB_.F (n+1)) :=
 FD.ok (fs:=dB_.fs n) av_ Tryz.func136 (by kernel_rfl) (by kernel_rfl) (by kernel_rfl) (by kernel_rfl) (fun _=>by kernel_rfl) (by kernel_rfl) (fun x=>by kernel_rfl) (.nil)
noncomputable def cl_.fs (n:Nat):cl_.d.Fs:=()
theorem cl_.ok (n:Nat):CxOk E (cx n cl_.d.nt)→KPar (cx n cl_.d.nt)→cl_.d.Ok E (cl_.F (n+1)) :=
 FD.ok (fs:=cl_.fs n) av_ Tryz.func89 (by kernel_rfl) (by kernel_rfl) (by kernel_rfl) (by kernel_rfl) (fun _=>by kernel_rfl) (by kernel_rfl) (fun x=>by kernel_rfl) (.nil)
noncomputable def aN_.fs (n:Nat):aN_.d.Fs:=(fun _ κe=>aN_.loop7 n (aN_.o0.k (κe 0)) n,())
theorem aN_.r7 (n:Nat):aN_.d.Round (aN_.fs n) (cx n aN_.d.nt) (b5_ Tryz.f139) 7 aN_.p7 (fun κe=>aN_.step7 n (aN_.o0.k (κe 0))):=fun κ κe x y=>by kernel_rfl
theorem aN_.ok (n:Nat):CxOk E (cx n aN_.d.nt)→KPar (cx n aN_.d.nt)→aN_.d.Ok E (aN_.F (n+1)) :=
 FD.ok (fs:=aN_.fs n) av_ Tryz.func139 (by kernel_rfl) (by kernel_rfl) (by kernel_rfl) (by kernel_rfl) (fun _=>by kernel_rfl) (by kernel_rfl) (fun x=>by kernel_rfl) (.cons (FD.lp n (aN_.r7 n) (by kernel_rfl) fun _ _=>by kernel_rfl) (.nil))
noncomputable def dy_.fs (n:Nat):dy_.d.Fs:=()
theorem dy_.ok (n:Nat):CxOk E (cx n dy_.d.nt)→KPar (cx n dy_.d.nt)→dy_.d.Ok E (dy_.F (n+1)) :=
 FD.ok (fs:=dy_.fs n) av_ Tryz.func166 (by kernel_rfl) (by kernel_rfl) (by kernel_rfl) (by kernel_rfl) (fun _=>by kernel_rfl) (by kernel_rfl) (fun x=>by kernel_rfl) (.nil)
noncomputable def dc_.fs (n:Nat):dc_.d.Fs:=()
theorem dc_.ok (n:Nat):CxOk E (cx n dc_.d.nt)→KPar (cx n dc_.d.nt)→dc_.d.Ok E (dc_.F (n+1)) :=
 FD.ok (fs:=dc_.fs n) av_ Tryz.func140 (by kernel_rfl) (by kernel_rfl) (by kernel_rfl) (by kernel_rfl) (fun _=>by kernel_rfl) (by kernel_rfl) (fun x=>by kernel_rfl) (.nil)
noncomputable def cv_.fs (n:Nat):cv_.d.Fs:=()
theorem cv_.ok (n:Nat):CxOk E (cx n cv_.d.nt)→KPar (cx n cv_.d.nt)→cv_.d.Ok E (cv_.F (n+1)) :=
 FD.ok (fs:=cv_.fs n) av_ Tryz.func92 (by kernel_rfl) (by kernel_rfl) (by kernel_rfl) (by kernel_rfl) (fun _=>by kernel_rfl) (by kernel_rfl) (fun x=>by kernel_rfl) (.nil)
noncomputable def bz_.fs (n:Nat):bz_.d.Fs:=(fun _ κe=>bz_.loop5 n (bz_.o0.k (κe 0)) n,())
theorem bz_.r5 (n:Nat):bz_.d.Round (bz_.fs n) (cx n bz_.d.nt) (b5_ Tryz.f138) 5 bz_.p5 (fun κe=>bz_.step5 n (bz_.o0.k (κe 0))):=fun κ κe x y=>by kernel_rfl
theorem bz_.ok (n:Nat):CxOk E (cx n bz_.d.nt)→KPar (cx n bz_.d.nt)→bz_.d.Ok E (bz_.F (n+1)) :=
 FD.ok (fs:=bz_.fs n) av_ Tryz.func138 (by kernel_rfl) (by kernel_rfl) (by kernel_rfl) (by kernel_rfl) (fun _=>by kernel_rfl) (by kernel_rfl) (fun x=>by kernel_rfl) (.cons (FD.lp n (bz_.r5 n) (by kernel_rfl) fun _ _=>by kernel_rfl) (.nil))
noncomputable def bg_.fs (n:Nat):bg_.d.Fs:=(fun _ κe=>bg_.loop4 n (bg_.o0.k (κe 0)) n,())
theorem bg_.r4 (n:Nat):bg_.d.Round (bg_.fs n) (cx n bg_.d.nt) (b5_ Tryz.f90) 4 bg_.p4 (fun κe=>bg_.step4 n (bg_.o0.k (κe 0))):=fun κ κe x y=>by kernel_rfl
theorem bg_.ok (n:Nat):CxOk E (cx n bg_.d.nt)→KPar (cx n bg_.d.nt)→bg_.d.Ok E (bg_.F (n+1)) :=
 FD.ok (fs:=bg_.fs n) av_ Tryz.func90 (by kernel_rfl) (by kernel_rfl) (by kernel_rfl) (by kernel_rfl) (fun _=>by kernel_rfl) (by kernel_rfl) (fun x=>by kernel_rfl) (.cons (FD.lp n (bg_.r4 n) (by kernel_rfl) fun _ _=>by kernel_rfl) (.nil))
noncomputable def bj_.fs (n:Nat):bj_.d.Fs:=(fun _ κe=>bj_.loop3 n (bj_.o0.k (κe 0)) n,())
theorem bj_.r3 (n:Nat):bj_.d.Round (bj_.fs n) (cx n bj_.d.nt) (b5_ Tryz.f167) 3 bj_.p3 (fun κe=>bj_.step3 n (bj_.o0.k (κe 0))):=fun κ κe x y=>by kernel_rfl
theorem bj_.ok (n:Nat):CxOk E (cx n bj_.d.nt)→KPar (cx n bj_.d.nt)→bj_.d.Ok E (bj_.F (n+1)) :=
 FD.ok (fs:=bj_.fs n) av_ Tryz.func167 (by kernel_rfl) (by kernel_rfl) (by kernel_rfl) (by kernel_rfl) (fun _=>by kernel_rfl) (by kernel_rfl) (fun x=>by kernel_rfl) (.cons (FD.lp n (bj_.r3 n) (by kernel_rfl) fun _ _=>by kernel_rfl) (.nil))
noncomputable def ag_.fs (n:Nat):ag_.d.Fs:=(fun _ κe=>ag_.loop6 n (ag_.o0.k (κe 0)) n,())
theorem ag_.r6 (n:Nat):ag_.d.Round (ag_.fs n) (cx n ag_.d.nt) (b5_ Tryz.f168) 6 ag_.p6 (fun κe=>ag_.step6 n (ag_.o0.k (κe 0))):=fun κ κe x y=>by kernel_rfl
theorem ag_.ok (n:Nat):CxOk E (cx n ag_.d.nt)→KPar (cx n ag_.d.nt)→ag_.d.Ok E (ag_.F (n+1)) :=
 FD.ok (fs:=ag_.fs n) av_ Tryz.func168 (by kernel_rfl) (by kernel_rfl) (by kernel_rfl) (by kernel_rfl) (fun _=>by kernel_rfl) (by kernel_rfl) (fun x=>by kernel_rfl) (.cons (FD.lp n (ag_.r6 n) (by kernel_rfl) fun _ _=>by kernel_rfl) (.nil))
noncomputable def aG_.fs (n:Nat):aG_.d.Fs:=(fun _ κe=>aG_.loop23 n (aG_ n) (aG_.o1.k (κe 1)) n,())
theorem aG_.r23 (n:Nat):aG_.d.Round (aG_.fs n) (cx n aG_.d.nt) (b5_ Tryz.f135) 23 aG_.p23 (fun κe=>aG_.step23 n (aG_ n) (aG_.o1.k (κe 1))):=fun κ κe x y=>by kernel_rfl
theorem aG_.ok (n:Nat):CxOk E (cx n aG_.d.nt)→KPar (cx n aG_.d.nt)→aG_.d.Ok E (aG_.F (n+1)) :=
 FD.ok (fs:=aG_.fs n) av_ Tryz.func135 (by kernel_rfl) (by kernel_rfl) (by kernel_rfl) (by kernel_rfl) (fun _=>by kernel_rfl) (by kernel_rfl) (fun x=>by kernel_rfl) (.cons (FD.lp n (aG_.r23 n) (by kernel_rfl) fun _ _=>by kernel_rfl) (.nil))
noncomputable def ch_.fs (n:Nat):ch_.d.Fs:=()
theorem ch_.ok (n:Nat):CxOk E (cx n ch_.d.nt)→KPar (cx n ch_.d.nt)→ch_.d.Ok E (ch_.F (n+1)) :=
 FD.ok (fs:=ch_.fs n) av_ Tryz.func87 (by kernel_rfl) (by kernel_rfl) (by kernel_rfl) (by kernel_rfl) (fun _=>by kernel_rfl) (by kernel_rfl) (fun x=>by kernel_rfl) (.nil)
noncomputable def cf_.fs (n:Nat):cf_.d.Fs:=()
theorem cf_.ok (n:Nat):CxOk E (cx n cf_.d.nt)→KPar (cx n cf_.d.nt)→cf_.d.Ok E (cf_.F (n+1)) :=
 FD.ok (fs:=cf_.fs n) av_ Tryz.func91 (by kernel_rfl) (by kernel_rfl) (by kernel_rfl) (by kernel_rfl) (fun _=>by kernel_rfl) (by kernel_rfl) (fun x=>by kernel_rfl) (.nil)
noncomputable def bH_.fs (n:Nat):bH_.d.Fs:=(fun _ κe=>bH_.loop4 n (bH_.o0.k (κe 0)) n,())
theorem bH_.r4 (n:Nat):bH_.d.Round (bH_.fs n) (cx n bH_.d.nt) (b5_ Tryz.f41) 4 bH_.p4 (fun κe=>bH_.step4 n (bH_.o0.k (κe 0))):=fun κ κe x y=>by kernel_rfl
theorem bH_.ok (n:Nat):CxOk E (cx n bH_.d.nt)→KPar (cx n bH_.d.nt)→bH_.d.Ok E (bH_.F (n+1)) :=
 FD.ok (fs:=bH_.fs n) av_ Tryz.func41 (by kernel_rfl) (by kernel_rfl) (by kernel_rfl) (by kernel_rfl) (fun _=>by kernel_rfl) (by kernel_rfl) (fun x=>by kernel_rfl) (.cons (FD.lp n (bH_.r4 n) (by kernel_rfl) fun _ _=>by kernel_rfl) (.nil))
noncomputable def ct_.fs (n:Nat):ct_.d.Fs:=()
theorem ct_.ok (n:Nat):CxOk E (cx n ct_.d.nt)→KPar (cx n ct_.d.nt)→ct_.d.Ok E (ct_.F (n+1)) :=
 FD.ok (fs:=ct_.fs n) av_ Tryz.func17 (by kernel_rfl) (by kernel_rfl) (by kernel_rfl) (by kernel_rfl) (fun _=>by kernel_rfl) (by kernel_rfl) (fun x=>by kernel_rfl) (.nil)
noncomputable def al_.fs (n:Nat):al_.d.Fs:=(fun _ κe=>al_.loop6 n (al_ n) (al_.o0.k (κe 0)) n,fun _ κe=>al_.loop14 n (al_ n) (al_.o2.k (κe 2)) n,())
theorem al_.r14 (n:Nat):al_.d.Round (al_.fs n) (cx n al_.d.nt) (b5_ Tryz.f88) 14 al_.p14 (fun κe=>al_.step14 n (al_ n) (al_.o2.k (κe 2))):=fun κ κe x y=>by kernel_rfl
theorem al_.r6 (n:Nat):al_.d.Round (al_.fs n) (cx n al_.d.nt) (b5_ Tryz.f88) 6 al_.p6 (fun κe=>al_.step6 n (al_ n) (al_.o0.k (κe 0))):=fun κ κe x y=>by kernel_rfl
theorem al_.ok (n:Nat):CxOk E (cx n al_.d.nt)→KPar (cx n al_.d.nt)→al_.d.Ok E (al_.F (n+1)) :=
 FD.ok (fs:=al_.fs n) av_ Tryz.func88 (by kernel_rfl) (by kernel_rfl) (by kernel_rfl) (by kernel_rfl) (fun _=>by kernel_rfl) (by kernel_rfl) (fun x=>by kernel_rfl) (.cons (FD.lp n (al_.r6 n) (by kernel_rfl) fun _ _=>by kernel_rfl) (.cons (FD.lp n (al_.r14 n) (by kernel_rfl) fun _ _=>by kernel_rfl) (.nil)))
noncomputable def cy_.fs (n:Nat):cy_.d.Fs:=()
theorem cy_.ok (n:Nat):CxOk E (cx n cy_.d.nt)→KPar (cx n cy_.d.nt)→cy_.d.Ok E (cy_.F (n+1)) :=
 FD.ok (fs:=cy_.fs n) av_ Tryz.func40 (by kernel_rfl) (by kernel_rfl) (by kernel_rfl) (by kernel_rfl) (fun _=>by kernel_rfl) (by kernel_rfl) (fun x=>by kernel_rfl) (.nil)
noncomputable def cP_.fs (n:Nat):cP_.d.Fs:=()
theorem cP_.ok (n:Nat):CxOk E (cx n cP_.d.nt)→KPar (cx n cP_.d.nt)→cP_.d.Ok E (cP_.F (n+1)) :=
 FD.ok (fs:=cP_.fs n) av_ Tryz.func16 (by kernel_rfl) (by kernel_rfl) (by kernel_rfl) (by kernel_rfl) (fun _=>by kernel_rfl) (by kernel_rfl) (fun x=>by kernel_rfl) (.nil)
noncomputable def bd_.fs (n:Nat):bd_.d.Fs:=(fun _ κe=>bd_.loop3 n (bd_.o0.k (κe 0)) n,())
theorem bd_.r3 (n:Nat):bd_.d.Round (bd_.fs n) (cx n bd_.d.nt) (b5_ Tryz.f96) 3 bd_.p3 (fun κe=>bd_.step3 n (bd_.o0.k (κe 0))):=fun κ κe x y=>by kernel_rfl
theorem bd_.ok (n:Nat):CxOk E (cx n bd_.d.nt)→KPar (cx n bd_.d.nt)→bd_.d.Ok E (bd_.F (n+1)) :=
 FD.ok (fs:=bd_.fs n) av_ Tryz.func96 (by kernel_rfl) (by kernel_rfl) (by kernel_rfl) (by kernel_rfl) (fun _=>by kernel_rfl) (by kernel_rfl) (fun x=>by kernel_rfl) (.cons (FD.lp n (bd_.r3 n) (by kernel_rfl) fun _ _=>by kernel_rfl) (.nil))
noncomputable def bu_.fs (n:Nat):bu_.d.Fs:=(fun _ κe=>bu_.loop3 n (bu_.o0.k (κe 0)) n,())
theorem bu_.r3 (n:Nat):bu_.d.Round (bu_.fs n) (cx n bu_.d.nt) (b5_ Tryz.f97) 3 bu_.p3 (fun κe=>bu_.step3 n (bu_.o0.k (κe 0))):=fun κ κe x y=>by kernel_rfl
theorem bu_.ok (n:Nat):CxOk E (cx n bu_.d.nt)→KPar (cx n bu_.d.nt)→bu_.d.Ok E (bu_.F (n+1)) :=
 FD.ok (fs:=bu_.fs n) av_ Tryz.func97 (by kernel_rfl) (by kernel_rfl) (by kernel_rfl) (by kernel_rfl) (fun _=>by kernel_rfl) (by kernel_rfl) (fun x=>by kernel_rfl) (.cons (FD.lp n (bu_.r3 n) (by kernel_rfl) fun _ _=>by kernel_rfl) (.nil))
noncomputable def b8_.fs (n:Nat):b8_.d.Fs:=()
theorem b8_.ok (n:Nat):CxOk E (cx n b8_.d.nt)→KPar (cx n b8_.d.nt)→b8_.d.Ok E (b8_.F (n+1)) :=
 FD.ok (fs:=b8_.fs n) av_ Tryz.func45 (by kernel_rfl) (by kernel_rfl) (by kernel_rfl) (by kernel_rfl) (fun _=>by kernel_rfl) (by kernel_rfl) (fun x=>by kernel_rfl) (.nil)
noncomputable def dC_.fs (n:Nat):dC_.d.Fs:=()
theorem dC_.ok (n:Nat):CxOk E (cx n dC_.d.nt)→KPar (cx n dC_.d.nt)→dC_.d.Ok E (dC_.F (n+1)) :=
 FD.ok (fs:=dC_.fs n) av_ Tryz.func46 (by kernel_rfl) (by kernel_rfl) (by kernel_rfl) (by kernel_rfl) (fun _=>by kernel_rfl) (by kernel_rfl) (fun x=>by kernel_rfl) (.nil)
noncomputable def de_.fs (n:Nat):de_.d.Fs:=()
theorem de_.ok (n:Nat):CxOk E (cx n de_.d.nt)→KPar (cx n de_.d.nt)→de_.d.Ok E (de_.F (n+1)) :=
 FD.ok (fs:=de_.fs n) av_ Tryz.func98 (by kernel_rfl) (by kernel_rfl) (by kernel_rfl) (by kernel_rfl) (fun _=>by kernel_rfl) (by kernel_rfl) (fun x=>by kernel_rfl) (.nil)
noncomputable def a2_.fs (n:Nat):a2_.d.Fs:=(fun _ κe=>a2_.loop5 n (a2_.o0.k (κe 0)) n,())
theorem a2_.r5 (n:Nat):a2_.d.Round (a2_.fs n) (cx n a2_.d.nt) (b5_ Tryz.f47) 5 a2_.p5 (fun κe=>a2_.step5 n (a2_.o0.k (κe 0))):=fun κ κe x y=>by kernel_rfl
theorem a2_.ok (n:Nat):CxOk E (cx n a2_.d.nt)→KPar (cx n a2_.d.nt)→a2_.d.Ok E (a2_.F (n+1)) :=
 FD.ok (fs:=a2_.fs n) av_ Tryz.func47 (by kernel_rfl) (by kernel_rfl) (by kernel_rfl) (by kernel_rfl) (fun _=>by kernel_rfl) (by kernel_rfl) (fun x=>by kernel_rfl) (.cons (FD.lp n (a2_.r5 n) (by kernel_rfl) fun _ _=>by kernel_rfl) (.nil))
noncomputable def bM_.fs (n:Nat):bM_.d.Fs:=(fun _ κe=>bM_.loop3 n (bM_.o0.k (κe 0)) n,())
theorem bM_.r3 (n:Nat):bM_.d.Round (bM_.fs n) (cx n bM_.d.nt) (b5_ Tryz.f145) 3 bM_.p3 (fun κe=>bM_.step3 n (bM_.o0.k (κe 0))):=fun κ κe x y=>by kernel_rfl
theorem bM_.ok (n:Nat):CxOk E (cx n bM_.d.nt)→KPar (cx n bM_.d.nt)→bM_.d.Ok E (bM_.F (n+1)) :=
 FD.ok (fs:=bM_.fs n) av_ Tryz.func145 (by kernel_rfl) (by kernel_rfl) (by kernel_rfl) (by kernel_rfl) (fun _=>by kernel_rfl) (by kernel_rfl) (fun x=>by kernel_rfl) (.cons (FD.lp n (bM_.r3 n) (by kernel_rfl) fun _ _=>by kernel_rfl) (.nil))
noncomputable def aD_.fs (n:Nat):aD_.d.Fs:=(fun _ κe=>aD_.loop3 n (aD_.o0.k (κe 0)) n,fun _ κe=>aD_.loop11 n (aD_.o2.k (κe 2)) n,())
theorem aD_.r11 (n:Nat):aD_.d.Round (aD_.fs n) (cx n aD_.d.nt) (b5_ Tryz.f100) 11 aD_.p11 (fun κe=>aD_.step11 n (aD_.o2.k (κe 2))):=fun κ κe x y=>by kernel_rfl
theorem aD_.r3 (n:Nat):aD_.d.Round (aD_.fs n) (cx n aD_.d.nt) (b5_ Tryz.f100) 3 aD_.p3 (fun κe=>aD_.step3 n (aD_.o0.k (κe 0))):=fun κ κe x y=>by kernel_rfl
theorem aD_.ok (n:Nat):CxOk E (cx n aD_.d.nt)→KPar (cx n aD_.d.nt)→aD_.d.Ok E (aD_.F (n+1)) :=
 FD.ok (fs:=aD_.fs n) av_ Tryz.func100 (by kernel_rfl) (by kernel_rfl) (by kernel_rfl) (by kernel_rfl) (fun _=>by kernel_rfl) (by kernel_rfl) (fun x=>by kernel_rfl) (.cons (FD.lp n (aD_.r3 n) (by kernel_rfl) fun _ _=>by kernel_rfl) (.cons (FD.lp n (aD_.r11 n) (by kernel_rfl) fun _ _=>by kernel_rfl) (.nil)))
noncomputable def b0_.fs (n:Nat):b0_.d.Fs:=()
theorem b0_.ok (n:Nat):CxOk E (cx n b0_.d.nt)→KPar (cx n b0_.d.nt)→b0_.d.Ok E (b0_.F (n+1)) :=
 FD.ok (fs:=b0_.fs n) av_ Tryz.func146 (by kernel_rfl) (by kernel_rfl) (by kernel_rfl) (by kernel_rfl) (fun _=>by kernel_rfl) (by kernel_rfl) (fun x=>by kernel_rfl) (.nil)
noncomputable def a7_.fs (n:Nat):a7_.d.Fs:=(fun _ κe=>a7_.loop4 n (a7_ n) (a7_.o0.k (κe 0)) n,())
theorem a7_.r4 (n:Nat):a7_.d.Round (a7_.fs n) (cx n a7_.d.nt) (b5_ Tryz.f99) 4 a7_.p4 (fun κe=>a7_.step4 n (a7_ n) (a7_.o0.k (κe 0))):=fun κ κe x y=>by kernel_rfl
theorem a7_.ok (n:Nat):CxOk E (cx n a7_.d.nt)→KPar (cx n a7_.d.nt)→a7_.d.Ok E (a7_.F (n+1)) :=
 FD.ok (fs:=a7_.fs n) av_ Tryz.func99 (by kernel_rfl) (by kernel_rfl) (by kernel_rfl) (by kernel_rfl) (fun _=>by kernel_rfl) (by kernel_rfl) (fun x=>by kernel_rfl) (.cons (FD.lp n (a7_.r4 n) (by kernel_rfl) fun _ _=>by kernel_rfl) (.nil))
noncomputable def ck_.fs (n:Nat):ck_.d.Fs:=()
theorem ck_.ok (n:Nat):CxOk E (cx n ck_.d.nt)→KPar (cx n ck_.d.nt)→ck_.d.Ok E (ck_.F (n+1)) :=
 FD.ok (fs:=ck_.fs n) av_ Tryz.func147 (by kernel_rfl) (by kernel_rfl) (by kernel_rfl) (by kernel_rfl) (fun _=>by kernel_rfl) (by kernel_rfl) (fun x=>by kernel_rfl) (.nil)
noncomputable def aA_.fs (n:Nat):aA_.d.Fs:=(fun _ κe=>aA_.loop5 n (aA_.o0.k (κe 0)) n,fun _ κe=>aA_.loop13 n (aA_.o2.k (κe 2)) n,())
theorem aA_.r13 (n:Nat):aA_.d.Round (aA_.fs n) (cx n aA_.d.nt) (b5_ Tryz.f101) 13 aA_.p13 (fun κe=>aA_.step13 n (aA_.o2.k (κe 2))):=fun κ κe x y=>by kernel_rfl
theorem aA_.r5 (n:Nat):aA_.d.Round (aA_.fs n) (cx n aA_.d.nt) (b5_ Tryz.f101) 5 aA_.p5 (fun κe=>aA_.step5 n (aA_.o0.k (κe 0))):=fun κ κe x y=>by kernel_rfl
theorem aA_.ok (n:Nat):CxOk E (cx n aA_.d.nt)→KPar (cx n aA_.d.nt)→aA_.d.Ok E (aA_.F (n+1)) :=
 FD.ok (fs:=aA_.fs n) av_ Tryz.func101 (by kernel_rfl) (by kernel_rfl) (by kernel_rfl) (by kernel_rfl) (fun _=>by kernel_rfl) (by kernel_rfl) (fun x=>by kernel_rfl) (.cons (FD.lp n (aA_.r5 n) (by kernel_rfl) fun _ _=>by kernel_rfl) (.cons (FD.lp n (aA_.r13 n) (by kernel_rfl) fun _ _=>by kernel_rfl) (.nil)))
noncomputable def dP_.fs (n:Nat):dP_.d.Fs:=()
theorem dP_.ok (n:Nat):CxOk E (cx n dP_.d.nt)→KPar (cx n dP_.d.nt)→dP_.d.Ok E (dP_.F (n+1)) :=
 FD.ok (fs:=dP_.fs n) av_ Tryz.func49 (by kernel_rfl) (by kernel_rfl) (by kernel_rfl) (by kernel_rfl) (fun _=>by kernel_rfl) (by kernel_rfl) (fun x=>by kernel_rfl) (.nil)
noncomputable def bF_.fs (n:Nat):bF_.d.Fs:=(fun _ κe=>bF_.loop4 n (bF_.o0.k (κe 0)) n,())
theorem bF_.r4 (n:Nat):bF_.d.Round (bF_.fs n) (cx n bF_.d.nt) (b5_ Tryz.f48) 4 bF_.p4 (fun κe=>bF_.step4 n (bF_.o0.k (κe 0))):=fun κ κe x y=>by kernel_rfl
theorem bF_.ok (n:Nat):CxOk E (cx n bF_.d.nt)→KPar (cx n bF_.d.nt)→bF_.d.Ok E (bF_.F (n+1)) :=
 FD.ok (fs:=bF_.fs n) av_ Tryz.func48 (by kernel_rfl) (by kernel_rfl) (by kernel_rfl) (by kernel_rfl) (fun _=>by kernel_rfl) (by kernel_rfl) (fun x=>by kernel_rfl) (.cons (FD.lp n (bF_.r4 n) (by kernel_rfl) fun _ _=>by kernel_rfl) (.nil))
noncomputable def b1_.fs (n:Nat):b1_.d.Fs:=()
theorem b1_.ok (n:Nat):CxOk E (cx n b1_.d.nt)→KPar (cx n b1_.d.nt)→b1_.d.Ok E (b1_.F (n+1)) :=
 FD.ok (fs:=b1_.fs n) av_ Tryz.func19 (by kernel_rfl) (by kernel_rfl) (by kernel_rfl) (by kernel_rfl) (fun _=>by kernel_rfl) (by kernel_rfl) (fun x=>by kernel_rfl) (.nil)
noncomputable def bN_.fs (n:Nat):bN_.d.Fs:=(fun _ κe=>bN_.loop6 n (bN_.o0.k (κe 0)) n,())
theorem bN_.r6 (n:Nat):bN_.d.Round (bN_.fs n) (cx n bN_.d.nt) (b5_ Tryz.f141) 6 bN_.p6 (fun κe=>bN_.step6 n (bN_.o0.k (κe 0))):=fun κ κe x y=>by kernel_rfl
theorem bN_.ok (n:Nat):CxOk E (cx n bN_.d.nt)→KPar (cx n bN_.d.nt)→bN_.d.Ok E (bN_.F (n+1)) :=
 FD.ok (fs:=bN_.fs n) av_ Tryz.func141 (by kernel_rfl) (by kernel_rfl) (by kernel_rfl) (by kernel_rfl) (fun _=>by kernel_rfl) (by kernel_rfl) (fun x=>by kernel_rfl) (.cons (FD.lp n (bN_.r6 n) (by kernel_rfl) fun _ _=>by kernel_rfl) (.nil))
noncomputable def cM_.fs (n:Nat):cM_.d.Fs:=()
theorem cM_.ok (n:Nat):CxOk E (cx n cM_.d.nt)→KPar (cx n cM_.d.nt)→cM_.d.Ok E (cM_.F (n+1)) :=
 FD.ok (fs:=cM_.fs n) av_ Tryz.func142 (by kernel_rfl) (by kernel_rfl) (by kernel_rfl) (by kernel_rfl) (fun _=>by kernel_rfl) (by kernel_rfl) (fun x=>by kernel_rfl) (.nil)
noncomputable def aw_.fs (n:Nat):aw_.d.Fs:=(fun _ κe=>aw_.loop10 n (aw_.o2.k (κe 2)) n,fun _ κe=>aw_.loop4 n (aw_.o0.k (κe 0)) n,())
theorem aw_.r4 (n:Nat):aw_.d.Round (aw_.fs n) (cx n aw_.d.nt) (b5_ Tryz.f143) 4 aw_.p4 (fun κe=>aw_.step4 n (aw_.o0.k (κe 0))):=fun κ κe x y=>by kernel_rfl
theorem aw_.r10 (n:Nat):aw_.d.Round (aw_.fs n) (cx n aw_.d.nt) (b5_ Tryz.f143) 10 aw_.p10 (fun κe=>aw_.step10 n (aw_.o2.k (κe 2))):=fun κ κe x y=>by kernel_rfl
theorem aw_.ok (n:Nat):CxOk E (cx n aw_.d.nt)→KPar (cx n aw_.d.nt)→aw_.d.Ok E (aw_.F (n+1)) :=
 FD.ok (fs:=aw_.fs n) av_ Tryz.func143 (by kernel_rfl) (by kernel_rfl) (by kernel_rfl) (by kernel_rfl) (fun _=>by kernel_rfl) (by kernel_rfl) (fun x=>by kernel_rfl) (.cons (FD.lp n (aw_.r10 n) (by kernel_rfl) fun _ _=>by kernel_rfl) (.cons (FD.lp n (aw_.r4 n) (by kernel_rfl) fun _ _=>by kernel_rfl) (.nil)))
noncomputable def df_.fs (n:Nat):df_.d.Fs:=()
theorem df_.ok (n:Nat):CxOk E (cx n df_.d.nt)→KPar (cx n df_.d.nt)→df_.d.Ok E (df_.F (n+1)) :=
 FD.ok (fs:=df_.fs n) av_ Tryz.func94 (by kernel_rfl) (by kernel_rfl) (by kernel_rfl) (by kernel_rfl) (fun _=>by kernel_rfl) (by kernel_rfl) (fun x=>by kernel_rfl) (.nil)
noncomputable def a3_.fs (n:Nat):a3_.d.Fs:=(fun _ κe=>a3_.loop4 n (a3_.o0.k (κe 0)) n,())
theorem a3_.r4 (n:Nat):a3_.d.Round (a3_.fs n) (cx n a3_.d.nt) (b5_ Tryz.f144) 4 a3_.p4 (fun κe=>a3_.step4 n (a3_.o0.k (κe 0))):=fun κ κe x y=>by kernel_rfl
theorem a3_.ok (n:Nat):CxOk E (cx n a3_.d.nt)→KPar (cx n a3_.d.nt)→a3_.d.Ok E (a3_.F (n+1)) :=
 FD.ok (fs:=a3_.fs n) av_ Tryz.func144 (by kernel_rfl) (by kernel_rfl) (by kernel_rfl) (by kernel_rfl) (fun _=>by kernel_rfl) (by kernel_rfl) (fun x=>by kernel_rfl) (.cons (FD.lp n (a3_.r4 n) (by kernel_rfl) fun _ _=>by kernel_rfl) (.nil))
noncomputable def aE_.fs (n:Nat):aE_.d.Fs:=(fun _ κe=>aE_.loop17 n (aE_ n) (aE_.o1.k (κe 1)) n,())
theorem aE_.r17 (n:Nat):aE_.d.Round (aE_.fs n) (cx n aE_.d.nt) (b5_ Tryz.f95) 17 aE_.p17 (fun κe=>aE_.step17 n (aE_ n) (aE_.o1.k (κe 1))):=fun κ κe x y=>by kernel_rfl
theorem aE_.ok (n:Nat):CxOk E (cx n aE_.d.nt)→KPar (cx n aE_.d.nt)→aE_.d.Ok E (aE_.F (n+1)) :=
 FD.ok (fs:=aE_.fs n) av_ Tryz.func95 (by kernel_rfl) (by kernel_rfl) (by kernel_rfl) (by kernel_rfl) (fun _=>by kernel_rfl) (by kernel_rfl) (fun x=>by kernel_rfl) (.cons (FD.lp n (aE_.r17 n) (by kernel_rfl) fun _ _=>by kernel_rfl) (.nil))
noncomputable def cX_.fs (n:Nat):cX_.d.Fs:=()
theorem cX_.ok (n:Nat):CxOk E (cx n cX_.d.nt)→KPar (cx n cX_.d.nt)→cX_.d.Ok E (cX_.F (n+1)) :=
 FD.ok (fs:=cX_.fs n) av_ Tryz.func44 (by kernel_rfl) (by kernel_rfl) (by kernel_rfl) (by kernel_rfl) (fun _=>by kernel_rfl) (by kernel_rfl) (fun x=>by kernel_rfl) (.nil)
noncomputable def aJ_.fs (n:Nat):aJ_.d.Fs:=(fun _ κe=>aJ_.loop4 n (aJ_.o0.k (κe 0)) n,())
theorem aJ_.r4 (n:Nat):aJ_.d.Round (aJ_.fs n) (cx n aJ_.d.nt) (b5_ Tryz.f43) 4 aJ_.p4 (fun κe=>aJ_.step4 n (aJ_.o0.k (κe 0))):=fun κ κe x y=>by kernel_rfl
theorem aJ_.ok (n:Nat):CxOk E (cx n aJ_.d.nt)→KPar (cx n aJ_.d.nt)→aJ_.d.Ok E (aJ_.F (n+1)) :=
 FD.ok (fs:=aJ_.fs n) av_ Tryz.func43 (by kernel_rfl) (by kernel_rfl) (by kernel_rfl) (by kernel_rfl) (fun _=>by kernel_rfl) (by kernel_rfl) (fun x=>by kernel_rfl) (.cons (FD.lp n (aJ_.r4 n) (by kernel_rfl) fun _ _=>by kernel_rfl) (.nil))
noncomputable def cO_.fs (n:Nat):cO_.d.Fs:=()
theorem cO_.ok (n:Nat):CxOk E (cx n cO_.d.nt)→KPar (cx n cO_.d.nt)→cO_.d.Ok E (cO_.F (n+1)) :=
 FD.ok (fs:=cO_.fs n) av_ Tryz.func18 (by kernel_rfl) (by kernel_rfl) (by kernel_rfl) (by kernel_rfl) (fun _=>by kernel_rfl) (by kernel_rfl) (fun x=>by kernel_rfl) (.nil)
noncomputable def cx_.fs (n:Nat):cx_.d.Fs:=()
theorem cx_.ok (n:Nat):CxOk E (cx n cx_.d.nt)→KPar (cx n cx_.d.nt)→cx_.d.Ok E (cx_.F (n+1)) :=
 FD.ok (fs:=cx_.fs n) av_ Tryz.func5 (by kernel_rfl) (by kernel_rfl) (by kernel_rfl) (by kernel_rfl) (fun _=>by kernel_rfl) (by kernel_rfl) (fun x=>by kernel_rfl) (.nil)
noncomputable def cr_.fs (n:Nat):cr_.d.Fs:=()
theorem cr_.ok (n:Nat):CxOk E (cx n cr_.d.nt)→KPar (cx n cr_.d.nt)→cr_.d.Ok E (cr_.F (n+1)) :=
 FD.ok (fs:=cr_.fs n) av_ Tryz.func125 (by kernel_rfl) (by kernel_rfl) (by kernel_rfl) (by kernel_rfl) (fun _=>by kernel_rfl) (by kernel_rfl) (fun x=>by kernel_rfl) (.nil)
noncomputable def cc_.fs (n:Nat):cc_.d.Fs:=()
theorem cc_.ok (n:Nat):CxOk E (cx n cc_.d.nt)→KPar (cx n cc_.d.nt)→cc_.d.Ok E (cc_.F (n+1)) :=
 FD.ok (fs:=cc_.fs n) av_ Tryz.func65 (by kernel_rfl) (by kernel_rfl) (by kernel_rfl) (by kernel_rfl) (fun _=>by kernel_rfl) (by kernel_rfl) (fun x=>by kernel_rfl) (.nil)
noncomputable def cU_.fs (n:Nat):cU_.d.Fs:=()
theorem cU_.ok (n:Nat):CxOk E (cx n cU_.d.nt)→KPar (cx n cU_.d.nt)→cU_.d.Ok E (cU_.F (n+1)) :=
 FD.ok (fs:=cU_.fs n) av_ Tryz.func126 (by kernel_rfl) (by kernel_rfl) (by kernel_rfl) (by kernel_rfl) (fun _=>by kernel_rfl) (by kernel_rfl) (fun x=>by kernel_rfl) (.nil)
noncomputable def aZ_.fs (n:Nat):aZ_.d.Fs:=(fun _ κe=>aZ_.loop4 n (aZ_.o0.k (κe 0)) n,())
theorem aZ_.r4 (n:Nat):aZ_.d.Round (aZ_.fs n) (cx n aZ_.d.nt) (b5_ Tryz.f66) 4 aZ_.p4 (fun κe=>aZ_.step4 n (aZ_.o0.k (κe 0))):=fun κ κe x y=>by kernel_rfl
theorem aZ_.ok (n:Nat):CxOk E (cx n aZ_.d.nt)→KPar (cx n aZ_.d.nt)→aZ_.d.Ok E (aZ_.F (n+1)) :=
 FD.ok (fs:=aZ_.fs n) av_ Tryz.func66 (by kernel_rfl) (by kernel_rfl) (by kernel_rfl) (by kernel_rfl) (fun _=>by kernel_rfl) (by kernel_rfl) (fun x=>by kernel_rfl) (.cons (FD.lp n (aZ_.r4 n) (by kernel_rfl) fun _ _=>by kernel_rfl) (.nil))
noncomputable def bY_.fs (n:Nat):bY_.d.Fs:=()
theorem bY_.ok (n:Nat):CxOk E (cx n bY_.d.nt)→KPar (cx n bY_.d.nt)→bY_.d.Ok E (bY_.F (n+1)) :=
 FD.ok (fs:=bY_.fs n) av_ Tryz.func27 (by kernel_rfl) (by kernel_rfl) (by kernel_rfl) (by kernel_rfl) (fun _=>by kernel_rfl) (by kernel_rfl) (fun x=>by kernel_rfl) (.nil)
noncomputable def cC_.fs (n:Nat):cC_.d.Fs:=()
theorem cC_.ok (n:Nat):CxOk E (cx n cC_.d.nt)→KPar (cx n cC_.d.nt)→cC_.d.Ok E (cC_.F (n+1)) :=
 FD.ok (fs:=cC_.fs n) av_ Tryz.func22 (by kernel_rfl) (by kernel_rfl) (by kernel_rfl) (by kernel_rfl) (fun _=>by kernel_rfl) (by kernel_rfl) (fun x=>by kernel_rfl) (.nil)
noncomputable def by_.fs (n:Nat):by_.d.Fs:=(fun _ κe=>by_.loop3 n (by_.o0.k (κe 0)) n,())
theorem by_.r3 (n:Nat):by_.d.Round (by_.fs n) (cx n by_.d.nt) (b5_ Tryz.f113) 3 by_.p3 (fun κe=>by_.step3 n (by_.o0.k (κe 0))):=fun κ κe x y=>by kernel_rfl
theorem by_.ok (n:Nat):CxOk E (cx n by_.d.nt)→KPar (cx n by_.d.nt)→by_.d.Ok E (by_.F (n+1)) :=
 FD.ok (fs:=by_.fs n) av_ Tryz.func113 (by kernel_rfl) (by kernel_rfl) (by kernel_rfl) (by kernel_rfl) (fun _=>by kernel_rfl) (by kernel_rfl) (fun x=>by kernel_rfl) (.cons (FD.lp n (by_.r3 n) (by kernel_rfl) fun _ _=>by kernel_rfl) (.nil))
noncomputable def aF_.fs (n:Nat):aF_.d.Fs:=(fun _ κe=>aF_.loop4 n (aF_.o0.k (κe 0)) n,())
theorem aF_.r4 (n:Nat):aF_.d.Round (aF_.fs n) (cx n aF_.d.nt) (b5_ Tryz.f57) 4 aF_.p4 (fun κe=>aF_.step4 n (aF_.o0.k (κe 0))):=fun κ κe x y=>by kernel_rfl
theorem aF_.ok (n:Nat):CxOk E (cx n aF_.d.nt)→KPar (cx n aF_.d.nt)→aF_.d.Ok E (aF_.F (n+1)) :=
 FD.ok (fs:=aF_.fs n) av_ Tryz.func57 (by kernel_rfl) (by kernel_rfl) (by kernel_rfl) (by kernel_rfl) (fun _=>by kernel_rfl) (by kernel_rfl) (fun x=>by kernel_rfl) (.cons (FD.lp n (aF_.r4 n) (by kernel_rfl) fun _ _=>by kernel_rfl) (.nil))
noncomputable def cT_.fs (n:Nat):cT_.d.Fs:=()
theorem cT_.ok (n:Nat):CxOk E (cx n cT_.d.nt)→KPar (cx n cT_.d.nt)→cT_.d.Ok E (cT_.F (n+1)) :=
 FD.ok (fs:=cT_.fs n) av_ Tryz.func152 (by kernel_rfl) (by kernel_rfl) (by kernel_rfl) (by kernel_rfl) (fun _=>by kernel_rfl) (by kernel_rfl) (fun x=>by kernel_rfl) (.nil)
noncomputable def aB_.fs (n:Nat):aB_.d.Fs:=(fun _ κe=>aB_.loop3 n (aB_.o0.k (κe 0)) n,())
theorem aB_.r3 (n:Nat):aB_.d.Round (aB_.fs n) (cx n aB_.d.nt) (b5_ Tryz.f180) 3 aB_.p3 (fun κe=>aB_.step3 n (aB_.o0.k (κe 0))):=fun κ κe x y=>by kernel_rfl
theorem aB_.ok (n:Nat):CxOk E (cx n aB_.d.nt)→KPar (cx n aB_.d.nt)→aB_.d.Ok E (aB_.F (n+1)) :=
 FD.ok (fs:=aB_.fs n) av_ Tryz.func180 (by kernel_rfl) (by kernel_rfl) (by kernel_rfl) (by kernel_rfl) (fun _=>by kernel_rfl) (by kernel_rfl) (fun x=>by kernel_rfl) (.cons (FD.lp n (aB_.r3 n) (by kernel_rfl) fun _ _=>by kernel_rfl) (.nil))
noncomputable def br_.fs (n:Nat):br_.d.Fs:=()
theorem br_.ok (n:Nat):CxOk E (cx n br_.d.nt)→KPar (cx n br_.d.nt)→br_.d.Ok E (br_.F (n+1)) :=
 FD.ok (fs:=br_.fs n) av_ Tryz.func160 (by kernel_rfl) (by kernel_rfl) (by kernel_rfl) (by kernel_rfl) (fun _=>by kernel_rfl) (by kernel_rfl) (fun x=>by kernel_rfl) (.nil)
noncomputable def dk_.fs (n:Nat):dk_.d.Fs:=()
theorem dk_.ok (n:Nat):CxOk E (cx n dk_.d.nt)→KPar (cx n dk_.d.nt)→dk_.d.Ok E (dk_.F (n+1)) :=
 FD.ok (fs:=dk_.fs n) av_ Tryz.func170 (by kernel_rfl) (by kernel_rfl) (by kernel_rfl) (by kernel_rfl) (fun _=>by kernel_rfl) (by kernel_rfl) (fun x=>by kernel_rfl) (.nil)
noncomputable def aY_.fs (n:Nat):aY_.d.Fs:=()
theorem aY_.ok (n:Nat):CxOk E (cx n aY_.d.nt)→KPar (cx n aY_.d.nt)→aY_.d.Ok E (aY_.F (n+1)) :=
 FD.ok (fs:=aY_.fs n) av_ Tryz.func182 (by kernel_rfl) (by kernel_rfl) (by kernel_rfl) (by kernel_rfl) (fun _=>by kernel_rfl) (by kernel_rfl) (fun x=>by kernel_rfl) (.nil)
noncomputable def dm_.fs (n:Nat):dm_.d.Fs:=()
theorem dm_.ok (n:Nat):CxOk E (cx n dm_.d.nt)→KPar (cx n dm_.d.nt)→dm_.d.Ok E (dm_.F (n+1)) :=
 FD.ok (fs:=dm_.fs n) av_ Tryz.func171 (by kernel_rfl) (by kernel_rfl) (by kernel_rfl) (by kernel_rfl) (fun _=>by kernel_rfl) (by kernel_rfl) (fun x=>by kernel_rfl) (.nil)
noncomputable def bL_.fs (n:Nat):bL_.d.Fs:=()
theorem bL_.ok (n:Nat):CxOk E (cx n bL_.d.nt)→KPar (cx n bL_.d.nt)→bL_.d.Ok E (bL_.F (n+1)) :=
 FD.ok (fs:=bL_.fs n) av_ Tryz.func208 (by kernel_rfl) (by kernel_rfl) (by kernel_rfl) (by kernel_rfl) (fun _=>by kernel_rfl) (by kernel_rfl) (fun x=>by kernel_rfl) (.nil)
noncomputable def bS_.fs (n:Nat):bS_.d.Fs:=()
theorem bS_.ok (n:Nat):CxOk E (cx n bS_.d.nt)→KPar (cx n bS_.d.nt)→bS_.d.Ok E (bS_.F (n+1)) :=
 FD.ok (fs:=bS_.fs n) av_ Tryz.func195 (by kernel_rfl) (by kernel_rfl) (by kernel_rfl) (by kernel_rfl) (fun _=>by kernel_rfl) (by kernel_rfl) (fun x=>by kernel_rfl) (.nil)
noncomputable def bq_.fs (n:Nat):bq_.d.Fs:=()
theorem bq_.ok (n:Nat):CxOk E (cx n bq_.d.nt)→KPar (cx n bq_.d.nt)→bq_.d.Ok E (bq_.F (n+1)) :=
 FD.ok (fs:=bq_.fs n) av_ Tryz.func196 (by kernel_rfl) (by kernel_rfl) (by kernel_rfl) (by kernel_rfl) (fun _=>by kernel_rfl) (by kernel_rfl) (fun x=>by kernel_rfl) (.nil)
noncomputable def af_.fs (n:Nat):af_.d.Fs:=(fun _ κe=>af_.loop4 n (af_.o0.k (κe 0)) n,())
theorem af_.r4 (n:Nat):af_.d.Round (af_.fs n) (cx n af_.d.nt) (b5_ Tryz.f186) 4 af_.p4 (fun κe=>af_.step4 n (af_.o0.k (κe 0))):=fun κ κe x y=>by kernel_rfl
theorem af_.ok (n:Nat):CxOk E (cx n af_.d.nt)→KPar (cx n af_.d.nt)→af_.d.Ok E (af_.F (n+1)) :=
 FD.ok (fs:=af_.fs n) av_ Tryz.func186 (by kernel_rfl) (by kernel_rfl) (by kernel_rfl) (by kernel_rfl) (fun _=>by kernel_rfl) (by kernel_rfl) (fun x=>by kernel_rfl) (.cons (FD.lp n (af_.r4 n) (by kernel_rfl) fun _ _=>by kernel_rfl) (.nil))
noncomputable def bC_.fs (n:Nat):bC_.d.Fs:=(fun _ κe=>bC_.loop4 n (bC_.o0.k (κe 0)) n,())
theorem bC_.r4 (n:Nat):bC_.d.Round (bC_.fs n) (cx n bC_.d.nt) (b5_ Tryz.f172) 4 bC_.p4 (fun κe=>bC_.step4 n (bC_.o0.k (κe 0))):=fun κ κe x y=>by kernel_rfl
theorem bC_.ok (n:Nat):CxOk E (cx n bC_.d.nt)→KPar (cx n bC_.d.nt)→bC_.d.Ok E (bC_.F (n+1)) :=
 FD.ok (fs:=bC_.fs n) av_ Tryz.func172 (by kernel_rfl) (by kernel_rfl) (by kernel_rfl) (by kernel_rfl) (fun _=>by kernel_rfl) (by kernel_rfl) (fun x=>by kernel_rfl) (.cons (FD.lp n (bC_.r4 n) (by kernel_rfl) fun _ _=>by kernel_rfl) (.nil))
noncomputable def bA_.fs (n:Nat):bA_.d.Fs:=()
theorem bA_.ok (n:Nat):CxOk E (cx n bA_.d.nt)→KPar (cx n bA_.d.nt)→bA_.d.Ok E (bA_.F (n+1)) :=
 FD.ok (fs:=bA_.fs n) av_ Tryz.func183 (by kernel_rfl) (by kernel_rfl) (by kernel_rfl) (by kernel_rfl) (fun _=>by kernel_rfl) (by kernel_rfl) (fun x=>by kernel_rfl) (.nil)
noncomputable def ax_.fs (n:Nat):ax_.d.Fs:=(fun _ κe=>ax_.loop3 n (ax_.o0.k (κe 0)) n,())
theorem ax_.r3 (n:Nat):ax_.d.Round (ax_.fs n) (cx n ax_.d.nt) (b5_ Tryz.f184) 3 ax_.p3 (fun κe=>ax_.step3 n (ax_.o0.k (κe 0))):=fun κ κe x y=>by kernel_rfl
theorem ax_.ok (n:Nat):CxOk E (cx n ax_.d.nt)→KPar (cx n ax_.d.nt)→ax_.d.Ok E (ax_.F (n+1)) :=
 FD.ok (fs:=ax_.fs n) av_ Tryz.func184 (by kernel_rfl) (by kernel_rfl) (by kernel_rfl) (by kernel_rfl) (fun _=>by kernel_rfl) (by kernel_rfl) (fun x=>by kernel_rfl) (.cons (FD.lp n (ax_.r3 n) (by kernel_rfl) fun _ _=>by kernel_rfl) (.nil))
noncomputable def am_.fs (n:Nat):am_.d.Fs:=(fun _ κe=>am_.loop3 n (am_.o0.k (κe 0)) n,())
theorem am_.r3 (n:Nat):am_.d.Round (am_.fs n) (cx n am_.d.nt) (b5_ Tryz.f185) 3 am_.p3 (fun κe=>am_.step3 n (am_.o0.k (κe 0))):=fun κ κe x y=>by kernel_rfl
theorem am_.ok (n:Nat):CxOk E (cx n am_.d.nt)→KPar (cx n am_.d.nt)→am_.d.Ok E (am_.F (n+1)) :=
 FD.ok (fs:=am_.fs n) av_ Tryz.func185 (by kernel_rfl) (by kernel_rfl) (by kernel_rfl) (by kernel_rfl) (fun _=>by kernel_rfl) (by kernel_rfl) (fun x=>by kernel_rfl) (.cons (FD.lp n (am_.r3 n) (by kernel_rfl) fun _ _=>by kernel_rfl) (.nil))
noncomputable def dH_.fs (n:Nat):dH_.d.Fs:=()
theorem dH_.ok (n:Nat):CxOk E (cx n dH_.d.nt)→KPar (cx n dH_.d.nt)→dH_.d.Ok E (dH_.F (n+1)) :=
 FD.ok (fs:=dH_.fs n) av_ Tryz.func169 (by kernel_rfl) (by kernel_rfl) (by kernel_rfl) (by kernel_rfl) (fun _=>by kernel_rfl) (by kernel_rfl) (fun x=>by kernel_rfl) (.nil)
noncomputable def a8_.fs (n:Nat):a8_.d.Fs:=(fun _ κe=>a8_.loop7 n (a8_ n) (a8_.o0.k (κe 0)) n,())
theorem a8_.r7 (n:Nat):a8_.d.Round (a8_.fs n) (cx n a8_.d.nt) (b5_ Tryz.f149) 7 a8_.p7 (fun κe=>a8_.step7 n (a8_ n) (a8_.o0.k (κe 0))):=fun κ κe x y=>by kernel_rfl
theorem a8_.ok (n:Nat):CxOk E (cx n a8_.d.nt)→KPar (cx n a8_.d.nt)→a8_.d.Ok E (a8_.F (n+1)) :=
 FD.ok (fs:=a8_.fs n) av_ Tryz.func149 (by kernel_rfl) (by kernel_rfl) (by kernel_rfl) (by kernel_rfl) (fun _=>by kernel_rfl) (by kernel_rfl) (fun x=>by kernel_rfl) (.cons (FD.lp n (a8_.r7 n) (by kernel_rfl) fun _ _=>by kernel_rfl) (.nil))
noncomputable def cw_.fs (n:Nat):cw_.d.Fs:=()
theorem cw_.ok (n:Nat):CxOk E (cx n cw_.d.nt)→KPar (cx n cw_.d.nt)→cw_.d.Ok E (cw_.F (n+1)) :=
 FD.ok (fs:=cw_.fs n) av_ Tryz.func107 (by kernel_rfl) (by kernel_rfl) (by kernel_rfl) (by kernel_rfl) (fun _=>by kernel_rfl) (by kernel_rfl) (fun x=>by kernel_rfl) (.nil)
noncomputable def cq_.fs (n:Nat):cq_.d.Fs:=()
theorem cq_.ok (n:Nat):CxOk E (cx n cq_.d.nt)→KPar (cx n cq_.d.nt)→cq_.d.Ok E (cq_.F (n+1)) :=
 FD.ok (fs:=cq_.fs n) av_ Tryz.func112 (by kernel_rfl) (by kernel_rfl) (by kernel_rfl) (by kernel_rfl) (fun _=>by kernel_rfl) (by kernel_rfl) (fun x=>by kernel_rfl) (.nil)
noncomputable def bm_.fs (n:Nat):bm_.d.Fs:=(fun _ κe=>bm_.loop4 n (bm_.o0.k (κe 0)) n,())
theorem bm_.r4 (n:Nat):bm_.d.Round (bm_.fs n) (cx n bm_.d.nt) (b5_ Tryz.f153) 4 bm_.p4 (fun κe=>bm_.step4 n (bm_.o0.k (κe 0))):=fun κ κe x y=>by kernel_rfl
theorem bm_.ok (n:Nat):CxOk E (cx n bm_.d.nt)→KPar (cx n bm_.d.nt)→bm_.d.Ok E (bm_.F (n+1)) :=
 FD.ok (fs:=bm_.fs n) av_ Tryz.func153 (by kernel_rfl) (by kernel_rfl) (by kernel_rfl) (by kernel_rfl) (fun _=>by kernel_rfl) (by kernel_rfl) (fun x=>by kernel_rfl) (.cons (FD.lp n (bm_.r4 n) (by kernel_rfl) fun _ _=>by kernel_rfl) (.nil))
noncomputable def a5_.fs (n:Nat):a5_.d.Fs:=(fun _ κe=>a5_.loop4 n (a5_.o0.k (κe 0)) n,())
theorem a5_.r4 (n:Nat):a5_.d.Round (a5_.fs n) (cx n a5_.d.nt) (b5_ Tryz.f109) 4 a5_.p4 (fun κe=>a5_.step4 n (a5_.o0.k (κe 0))):=fun κ κe x y=>by kernel_rfl
theorem a5_.ok (n:Nat):CxOk E (cx n a5_.d.nt)→KPar (cx n a5_.d.nt)→a5_.d.Ok E (a5_.F (n+1)) :=
 FD.ok (fs:=a5_.fs n) av_ Tryz.func109 (by kernel_rfl) (by kernel_rfl) (by kernel_rfl) (by kernel_rfl) (fun _=>by kernel_rfl) (by kernel_rfl) (fun x=>by kernel_rfl) (.cons (FD.lp n (a5_.r4 n) (by kernel_rfl) fun _ _=>by kernel_rfl) (.nil))
noncomputable def cE_.fs (n:Nat):cE_.d.Fs:=()
theorem cE_.ok (n:Nat):CxOk E (cx n cE_.d.nt)→KPar (cx n cE_.d.nt)→cE_.d.Ok E (cE_.F (n+1)) :=
 FD.ok (fs:=cE_.fs n) av_ Tryz.func111 (by kernel_rfl) (by kernel_rfl) (by kernel_rfl) (by kernel_rfl) (fun _=>by kernel_rfl) (by kernel_rfl) (fun x=>by kernel_rfl) (.nil)
noncomputable def ac_.fs (n:Nat):ac_.d.Fs:=(fun _ κe=>ac_.loop3 n (ac_.o0.k (κe 0)) n,())
theorem ac_.r3 (n:Nat):ac_.d.Round (ac_.fs n) (cx n ac_.d.nt) (b5_ Tryz.f154) 3 ac_.p3 (fun κe=>ac_.step3 n (ac_.o0.k (κe 0))):=fun κ κe x y=>by kernel_rfl
theorem ac_.ok (n:Nat):CxOk E (cx n ac_.d.nt)→KPar (cx n ac_.d.nt)→ac_.d.Ok E (ac_.F (n+1)) :=
 FD.ok (fs:=ac_.fs n) av_ Tryz.func154 (by kernel_rfl) (by kernel_rfl) (by kernel_rfl) (by kernel_rfl) (fun _=>by kernel_rfl) (by kernel_rfl) (fun x=>by kernel_rfl) (.cons (FD.lp n (ac_.r3 n) (by kernel_rfl) fun _ _=>by kernel_rfl) (.nil))
noncomputable def ak_.fs (n:Nat):ak_.d.Fs:=()
theorem ak_.ok (n:Nat):CxOk E (cx n ak_.d.nt)→KPar (cx n ak_.d.nt)→ak_.d.Ok E (ak_.F (n+1)) :=
 FD.ok (fs:=ak_.fs n) av_ Tryz.func110 (by kernel_rfl) (by kernel_rfl) (by kernel_rfl) (by kernel_rfl) (fun _=>by kernel_rfl) (by kernel_rfl) (fun x=>by kernel_rfl) (.nil)
noncomputable def dJ_.fs (n:Nat):dJ_.d.Fs:=()
theorem dJ_.ok (n:Nat):CxOk E (cx n dJ_.d.nt)→KPar (cx n dJ_.d.nt)→dJ_.d.Ok E (dJ_.F (n+1)) :=
 FD.ok (fs:=dJ_.fs n) av_ Tryz.func56 (by kernel_rfl) (by kernel_rfl) (by kernel_rfl) (by kernel_rfl) (fun _=>by kernel_rfl) (by kernel_rfl) (fun x=>by kernel_rfl) (.nil)
noncomputable def cu_.fs (n:Nat):cu_.d.Fs:=()
theorem cu_.ok (n:Nat):CxOk E (cx n cu_.d.nt)→KPar (cx n cu_.d.nt)→cu_.d.Ok E (cu_.F (n+1)) :=
 FD.ok (fs:=cu_.fs n) av_ Tryz.func24 (by kernel_rfl) (by kernel_rfl) (by kernel_rfl) (by kernel_rfl) (fun _=>by kernel_rfl) (by kernel_rfl) (fun x=>by kernel_rfl) (.nil)
end Go.Pi
end
section
namespace Go.Pi
open Go.Proofs
noncomputable def aj_.fs (n:Nat):aj_.d.Fs:=(fun _ κe=>aj_.loop6 n (aj_.o0.k (κe 0)) n,())
theorem aj_.r6 (n:Nat):aj_.d.Round (aj_.fs n) (cx n aj_.d.nt) (b5_ Tryz.f150) 6 aj_.p6 (fun κe=>aj_.step6 n (aj_.o0.k (κe 0))):=fun κ κe x y=>by kernel_rfl
theorem aj_.ok (n:Nat):CxOk E (cx n aj_.d.nt)→KPar (cx n aj_.d.nt)→aj_.d.Ok E (aj_.F (n+1)) :=
 FD.ok (fs:=aj_.fs n) av_ Tryz.func150 (by kernel_rfl) (by kernel_rfl) (by kernel_rfl) (by kernel_rfl) (fun _=>by kernel_rfl) (by kernel_rfl) (fun x=>by kernel_rfl) (.cons (FD.lp n (aj_.r6 n) (by kernel_rfl) fun _ _=>by kernel_rfl) (.nil))
noncomputable def ad_.fs (n:Nat):ad_.d.Fs:=(fun _ κe=>ad_.loop6 n (c1_ n) (ad_.o0.k (κe 0)) n,())
theorem ad_.r6 (n:Nat):ad_.d.Round (ad_.fs n) (cx n ad_.d.nt) (b5_ Tryz.f151) 6 ad_.p6 (fun κe=>ad_.step6 n (c1_ n) (ad_.o0.k (κe 0))):=fun κ κe x y=>by kernel_rfl
theorem ad_.ok (n:Nat):CxOk E (cx n ad_.d.nt)→KPar (cx n ad_.d.nt)→ad_.d.Ok E (ad_.F (n+1)) :=
 FD.ok (fs:=ad_.fs n) av_ Tryz.func151 (by kernel_rfl) (by kernel_rfl) (by kernel_rfl) (by kernel_rfl) (fun _=>by kernel_rfl) (by kernel_rfl) (fun x=>by kernel_rfl) (.cons (FD.lp n (ad_.r6 n) (by kernel_rfl) fun _ _=>by kernel_rfl) (.nil))
noncomputable def c1_.fs (n:Nat):c1_.d.Fs:=()
theorem c1_.ok (n:Nat):CxOk E (cx n c1_.d.nt)→KPar (cx n c1_.d.nt)→c1_.d.Ok E (c1_.F (n+1)) :=
 FD.ok (fs:=c1_.fs n) av_ Tryz.func108 (by kernel_rfl) (by kernel_rfl) (by kernel_rfl) (by kernel_rfl) (fun _=>by kernel_rfl) (by kernel_rfl) (fun x=>by kernel_rfl) (.nil)
noncomputable def cD_.fs (n:Nat):cD_.d.Fs:=()
theorem cD_.ok (n:Nat):CxOk E (cx n cD_.d.nt)→KPar (cx n cD_.d.nt)→cD_.d.Ok E (cD_.F (n+1)) :=
 FD.ok (fs:=cD_.fs n) av_ Tryz.func55 (by kernel_rfl) (by kernel_rfl) (by kernel_rfl) (by kernel_rfl) (fun _=>by kernel_rfl) (by kernel_rfl) (fun x=>by kernel_rfl) (.nil)
noncomputable def cW_.fs (n:Nat):cW_.d.Fs:=()
theorem cW_.ok (n:Nat):CxOk E (cx n cW_.d.nt)→KPar (cx n cW_.d.nt)→cW_.d.Ok E (cW_.F (n+1)) :=
 FD.ok (fs:=cW_.fs n) av_ Tryz.func23 (by kernel_rfl) (by kernel_rfl) (by kernel_rfl) (by kernel_rfl) (fun _=>by kernel_rfl) (by kernel_rfl) (fun x=>by kernel_rfl) (.nil)
noncomputable def as_.fs (n:Nat):as_.d.Fs:=(fun _ κe=>as_.loop6 n (as_.o0.k (κe 0)) n,())
theorem as_.r6 (n:Nat):as_.d.Round (as_.fs n) (cx n as_.d.nt) (b5_ Tryz.f116) 6 as_.p6 (fun κe=>as_.step6 n (as_.o0.k (κe 0))):=fun κ κe x y=>by kernel_rfl
theorem as_.ok (n:Nat):CxOk E (cx n as_.d.nt)→KPar (cx n as_.d.nt)→as_.d.Ok E (as_.F (n+1)) :=
 FD.ok (fs:=as_.fs n) av_ Tryz.func116 (by kernel_rfl) (by kernel_rfl) (by kernel_rfl) (by kernel_rfl) (fun _=>by kernel_rfl) (by kernel_rfl) (fun x=>by kernel_rfl) (.cons (FD.lp n (as_.r6 n) (by kernel_rfl) fun _ _=>by kernel_rfl) (.nil))
noncomputable def aC_.fs (n:Nat):aC_.d.Fs:=(fun _ κe=>aC_.loop6 n (aC_.o0.k (κe 0)) n,())
theorem aC_.r6 (n:Nat):aC_.d.Round (aC_.fs n) (cx n aC_.d.nt) (b5_ Tryz.f117) 6 aC_.p6 (fun κe=>aC_.step6 n (aC_.o0.k (κe 0))):=fun κ κe x y=>by kernel_rfl
theorem aC_.ok (n:Nat):CxOk E (cx n aC_.d.nt)→KPar (cx n aC_.d.nt)→aC_.d.Ok E (aC_.F (n+1)) :=
 FD.ok (fs:=aC_.fs n) av_ Tryz.func117 (by kernel_rfl) (by kernel_rfl) (by kernel_rfl) (by kernel_rfl) (fun _=>by kernel_rfl) (by kernel_rfl) (fun x=>by kernel_rfl) (.cons (FD.lp n (aC_.r6 n) (by kernel_rfl) fun _ _=>by kernel_rfl) (.nil))
noncomputable def cd_.fs (n:Nat):cd_.d.Fs:=()
theorem cd_.ok (n:Nat):CxOk E (cx n cd_.d.nt)→KPar (cx n cd_.d.nt)→cd_.d.Ok E (cd_.F (n+1)) :=
 FD.ok (fs:=cd_.fs n) av_ Tryz.func60 (by kernel_rfl) (by kernel_rfl) (by kernel_rfl) (by kernel_rfl) (fun _=>by kernel_rfl) (by kernel_rfl) (fun x=>by kernel_rfl) (.nil)
noncomputable def dI_.fs (n:Nat):dI_.d.Fs:=()
theorem dI_.ok (n:Nat):CxOk E (cx n dI_.d.nt)→KPar (cx n dI_.d.nt)→dI_.d.Ok E (dI_.F (n+1)) :=
 FD.ok (fs:=dI_.fs n) av_ Tryz.func61 (by kernel_rfl) (by kernel_rfl) (by kernel_rfl) (by kernel_rfl) (fun _=>by kernel_rfl) (by kernel_rfl) (fun x=>by kernel_rfl) (.nil)
noncomputable def bD_.fs (n:Nat):bD_.d.Fs:=(fun _ κe=>bD_.loop5 n (bD_.o0.k (κe 0)) n,())
theorem bD_.r5 (n:Nat):bD_.d.Round (bD_.fs n) (cx n bD_.d.nt) (b5_ Tryz.f62) 5 bD_.p5 (fun κe=>bD_.step5 n (bD_.o0.k (κe 0))):=fun κ κe x y=>by kernel_rfl
theorem bD_.ok (n:Nat):CxOk E (cx n bD_.d.nt)→KPar (cx n bD_.d.nt)→bD_.d.Ok E (bD_.F (n+1)) :=
 FD.ok (fs:=bD_.fs n) av_ Tryz.func62 (by kernel_rfl) (by kernel_rfl) (by kernel_rfl) (by kernel_rfl) (fun _=>by kernel_rfl) (by kernel_rfl) (fun x=>by kernel_rfl) (.cons (FD.lp n (bD_.r5 n) (by kernel_rfl) fun _ _=>by kernel_rfl) (.nil))
noncomputable def bc_.fs (n:Nat):bc_.d.Fs:=(fun _ κe=>bc_.loop7 n (bc_.o0.k (κe 0)) n,())
theorem bc_.r7 (n:Nat):bc_.d.Round (bc_.fs n) (cx n bc_.d.nt) (b5_ Tryz.f119) 7 bc_.p7 (fun κe=>bc_.step7 n (bc_.o0.k (κe 0))):=fun κ κe x y=>by kernel_rfl
theorem bc_.ok (n:Nat):CxOk E (cx n bc_.d.nt)→KPar (cx n bc_.d.nt)→bc_.d.Ok E (bc_.F (n+1)) :=
 FD.ok (fs:=bc_.fs n) av_ Tryz.func119 (by kernel_rfl) (by kernel_rfl) (by kernel_rfl) (by kernel_rfl) (fun _=>by kernel_rfl) (by kernel_rfl) (fun x=>by kernel_rfl) (.cons (FD.lp n (bc_.r7 n) (by kernel_rfl) fun _ _=>by kernel_rfl) (.nil))
noncomputable def cB_.fs (n:Nat):cB_.d.Fs:=()
theorem cB_.ok (n:Nat):CxOk E (cx n cB_.d.nt)→KPar (cx n cB_.d.nt)→cB_.d.Ok E (cB_.F (n+1)) :=
 FD.ok (fs:=cB_.fs n) av_ Tryz.func162 (by kernel_rfl) (by kernel_rfl) (by kernel_rfl) (by kernel_rfl) (fun _=>by kernel_rfl) (by kernel_rfl) (fun x=>by kernel_rfl) (.nil)
noncomputable def ab_.fs (n:Nat):ab_.d.Fs:=(fun _ κe=>ab_.loop3 n (ab_.o0.k (κe 0)) n,())
theorem ab_.r3 (n:Nat):ab_.d.Round (ab_.fs n) (cx n ab_.d.nt) (b5_ Tryz.f161) 3 ab_.p3 (fun κe=>ab_.step3 n (ab_.o0.k (κe 0))):=fun κ κe x y=>by kernel_rfl
theorem ab_.ok (n:Nat):CxOk E (cx n ab_.d.nt)→KPar (cx n ab_.d.nt)→ab_.d.Ok E (ab_.F (n+1)) :=
 FD.ok (fs:=ab_.fs n) av_ Tryz.func161 (by kernel_rfl) (by kernel_rfl) (by kernel_rfl) (by kernel_rfl) (fun _=>by kernel_rfl) (by kernel_rfl) (fun x=>by kernel_rfl) (.cons (FD.lp n (ab_.r3 n) (by kernel_rfl) fun _ _=>by kernel_rfl) (.nil))
noncomputable def dw_.fs (n:Nat):dw_.d.Fs:=()
theorem dw_.ok (n:Nat):CxOk E (cx n dw_.d.nt)→KPar (cx n dw_.d.nt)→dw_.d.Ok E (dw_.F (n+1)) :=
 FD.ok (fs:=dw_.fs n) av_ Tryz.func120 (by kernel_rfl) (by kernel_rfl) (by kernel_rfl) (by kernel_rfl) (fun _=>by kernel_rfl) (by kernel_rfl) (fun x=>by kernel_rfl) (.nil)
noncomputable def c7_.fs (n:Nat):c7_.d.Fs:=()
theorem c7_.ok (n:Nat):CxOk E (cx n c7_.d.nt)→KPar (cx n c7_.d.nt)→c7_.d.Ok E (c7_.F (n+1)) :=
 FD.ok (fs:=c7_.fs n) av_ Tryz.func121 (by kernel_rfl) (by kernel_rfl) (by kernel_rfl) (by kernel_rfl) (fun _=>by kernel_rfl) (by kernel_rfl) (fun x=>by kernel_rfl) (.nil)
noncomputable def bV_.fs (n:Nat):bV_.d.Fs:=()
theorem bV_.ok (n:Nat):CxOk E (cx n bV_.d.nt)→KPar (cx n bV_.d.nt)→bV_.d.Ok E (bV_.F (n+1)) :=
 FD.ok (fs:=bV_.fs n) av_ Tryz.func159 (by kernel_rfl) (by kernel_rfl) (by kernel_rfl) (by kernel_rfl) (fun _=>by kernel_rfl) (by kernel_rfl) (fun x=>by kernel_rfl) (.nil)
noncomputable def aI_.fs (n:Nat):aI_.d.Fs:=(fun _ κe=>aI_.loop4 n (aI_ n) (aI_.o0.k (κe 0)) n,())
theorem aI_.r4 (n:Nat):aI_.d.Round (aI_.fs n) (cx n aI_.d.nt) (b5_ Tryz.f123) 4 aI_.p4 (fun κe=>aI_.step4 n (aI_ n) (aI_.o0.k (κe 0))):=fun κ κe x y=>by kernel_rfl
theorem aI_.ok (n:Nat):CxOk E (cx n aI_.d.nt)→KPar (cx n aI_.d.nt)→aI_.d.Ok E (aI_.F (n+1)) :=
 FD.ok (fs:=aI_.fs n) av_ Tryz.func123 (by kernel_rfl) (by kernel_rfl) (by kernel_rfl) (by kernel_rfl) (fun _=>by kernel_rfl) (by kernel_rfl) (fun x=>by kernel_rfl) (.cons (FD.lp n (aI_.r4 n) (by kernel_rfl) fun _ _=>by kernel_rfl) (.nil))
noncomputable def a1_.fs (n:Nat):a1_.d.Fs:=(fun _ κe=>a1_.loop9 n (a1_.o0.k (κe 0)) n,fun _ κe=>a1_.loop17 n (a1_.o2.k (κe 2)) n,())
theorem a1_.r17 (n:Nat):a1_.d.Round (a1_.fs n) (cx n a1_.d.nt) (b5_ Tryz.f64) 17 a1_.p17 (fun κe=>a1_.step17 n (a1_.o2.k (κe 2))):=fun κ κe x y=>by kernel_rfl
theorem a1_.r9 (n:Nat):a1_.d.Round (a1_.fs n) (cx n a1_.d.nt) (b5_ Tryz.f64) 9 a1_.p9 (fun κe=>a1_.step9 n (a1_.o0.k (κe 0))):=fun κ κe x y=>by kernel_rfl
theorem a1_.ok (n:Nat):CxOk E (cx n a1_.d.nt)→KPar (cx n a1_.d.nt)→a1_.d.Ok E (a1_.F (n+1)) :=
 FD.ok (fs:=a1_.fs n) av_ Tryz.func64 (by kernel_rfl) (by kernel_rfl) (by kernel_rfl) (by kernel_rfl) (fun _=>by kernel_rfl) (by kernel_rfl) (fun x=>by kernel_rfl) (.cons (FD.lp n (a1_.r9 n) (by kernel_rfl) fun _ _=>by kernel_rfl) (.cons (FD.lp n (a1_.r17 n) (by kernel_rfl) fun _ _=>by kernel_rfl) (.nil)))
noncomputable def dl_.fs (n:Nat):dl_.d.Fs:=()
theorem dl_.ok (n:Nat):CxOk E (cx n dl_.d.nt)→KPar (cx n dl_.d.nt)→dl_.d.Ok E (dl_.F (n+1)) :=
 FD.ok (fs:=dl_.fs n) av_ Tryz.func118 (by kernel_rfl) (by kernel_rfl) (by kernel_rfl) (by kernel_rfl) (fun _=>by kernel_rfl) (by kernel_rfl) (fun x=>by kernel_rfl) (.nil)
noncomputable def bG_.fs (n:Nat):bG_.d.Fs:=(fun _ κe=>bG_.loop4 n (bG_.o0.k (κe 0)) n,())
theorem bG_.r4 (n:Nat):bG_.d.Round (bG_.fs n) (cx n bG_.d.nt) (b5_ Tryz.f63) 4 bG_.p4 (fun κe=>bG_.step4 n (bG_.o0.k (κe 0))):=fun κ κe x y=>by kernel_rfl
theorem bG_.ok (n:Nat):CxOk E (cx n bG_.d.nt)→KPar (cx n bG_.d.nt)→bG_.d.Ok E (bG_.F (n+1)) :=
 FD.ok (fs:=bG_.fs n) av_ Tryz.func63 (by kernel_rfl) (by kernel_rfl) (by kernel_rfl) (by kernel_rfl) (fun _=>by kernel_rfl) (by kernel_rfl) (fun x=>by kernel_rfl) (.cons (FD.lp n (bG_.r4 n) (by kernel_rfl) fun _ _=>by kernel_rfl) (.nil))
noncomputable def b4_.fs (n:Nat):b4_.d.Fs:=()
theorem b4_.ok (n:Nat):CxOk E (cx n b4_.d.nt)→KPar (cx n b4_.d.nt)→b4_.d.Ok E (b4_.F (n+1)) :=
 FD.ok (fs:=b4_.fs n) av_ Tryz.func26 (by kernel_rfl) (by kernel_rfl) (by kernel_rfl) (by kernel_rfl) (fun _=>by kernel_rfl) (by kernel_rfl) (fun x=>by kernel_rfl) (.nil)
noncomputable def c5_.fs (n:Nat):c5_.d.Fs:=()
theorem c5_.ok (n:Nat):CxOk E (cx n c5_.d.nt)→KPar (cx n c5_.d.nt)→c5_.d.Ok E (c5_.F (n+1)) :=
 FD.ok (fs:=c5_.fs n) av_ Tryz.func189 (by kernel_rfl) (by kernel_rfl) (by kernel_rfl) (by kernel_rfl) (fun _=>by kernel_rfl) (by kernel_rfl) (fun x=>by kernel_rfl) (.nil)
noncomputable def bO_.fs (n:Nat):bO_.d.Fs:=(fun _ κe=>bO_.loop3 n (bO_.o0.k (κe 0)) n,())
theorem bO_.r3 (n:Nat):bO_.d.Round (bO_.fs n) (cx n bO_.d.nt) (b5_ Tryz.f173) 3 bO_.p3 (fun κe=>bO_.step3 n (bO_.o0.k (κe 0))):=fun κ κe x y=>by kernel_rfl
theorem bO_.ok (n:Nat):CxOk E (cx n bO_.d.nt)→KPar (cx n bO_.d.nt)→bO_.d.Ok E (bO_.F (n+1)) :=
 FD.ok (fs:=bO_.fs n) av_ Tryz.func173 (by kernel_rfl) (by kernel_rfl) (by kernel_rfl) (by kernel_rfl) (fun _=>by kernel_rfl) (by kernel_rfl) (fun x=>by kernel_rfl) (.cons (FD.lp n (bO_.r3 n) (by kernel_rfl) fun _ _=>by kernel_rfl) (.nil))
noncomputable def cS_.fs (n:Nat):cS_.d.Fs:=()
theorem cS_.ok (n:Nat):CxOk E (cx n cS_.d.nt)→KPar (cx n cS_.d.nt)→cS_.d.Ok E (cS_.F (n+1)) :=
 FD.ok (fs:=cS_.fs n) av_ Tryz.func174 (by kernel_rfl) (by kernel_rfl) (by kernel_rfl) (by kernel_rfl) (fun _=>by kernel_rfl) (by kernel_rfl) (fun x=>by kernel_rfl) (.nil)
noncomputable def bf_.fs (n:Nat):bf_.d.Fs:=(fun _ κe=>bf_.loop4 n (bf_.o0.k (κe 0)) n,())
theorem bf_.r4 (n:Nat):bf_.d.Round (bf_.fs n) (cx n bf_.d.nt) (b5_ Tryz.f175) 4 bf_.p4 (fun κe=>bf_.step4 n (bf_.o0.k (κe 0))):=fun κ κe x y=>by kernel_rfl
theorem bf_.ok (n:Nat):CxOk E (cx n bf_.d.nt)→KPar (cx n bf_.d.nt)→bf_.d.Ok E (bf_.F (n+1)) :=
 FD.ok (fs:=bf_.fs n) av_ Tryz.func175 (by kernel_rfl) (by kernel_rfl) (by kernel_rfl) (by kernel_rfl) (fun _=>by kernel_rfl) (by kernel_rfl) (fun x=>by kernel_rfl) (.cons (FD.lp n (bf_.r4 n) (by kernel_rfl) fun _ _=>by kernel_rfl) (.nil))
noncomputable def dn_.fs (n:Nat):dn_.d.Fs:=()
theorem dn_.ok (n:Nat):CxOk E (cx n dn_.d.nt)→KPar (cx n dn_.d.nt)→dn_.d.Ok E (dn_.F (n+1)) :=
 FD.ok (fs:=dn_.fs n) av_ Tryz.func155 (by kernel_rfl) (by kernel_rfl) (by kernel_rfl) (by kernel_rfl) (fun _=>by kernel_rfl) (by kernel_rfl) (fun x=>by kernel_rfl) (.nil)
noncomputable def a6_.fs (n:Nat):a6_.d.Fs:=(fun _ κe=>a6_.loop4 n (a6_.o0.k (κe 0)) n,())
theorem a6_.r4 (n:Nat):a6_.d.Round (a6_.fs n) (cx n a6_.d.nt) (b5_ Tryz.f114) 4 a6_.p4 (fun κe=>a6_.step4 n (a6_.o0.k (κe 0))):=fun κ κe x y=>by kernel_rfl
theorem a6_.ok (n:Nat):CxOk E (cx n a6_.d.nt)→KPar (cx n a6_.d.nt)→a6_.d.Ok E (a6_.F (n+1)) :=
 FD.ok (fs:=a6_.fs n) av_ Tryz.func114 (by kernel_rfl) (by kernel_rfl) (by kernel_rfl) (by kernel_rfl) (fun _=>by kernel_rfl) (by kernel_rfl) (fun x=>by kernel_rfl) (.cons (FD.lp n (a6_.r4 n) (by kernel_rfl) fun _ _=>by kernel_rfl) (.nil))
noncomputable def bt_.fs (n:Nat):bt_.d.Fs:=(fun _ κe=>bt_.loop4 n (bt_.o0.k (κe 0)) n,())
theorem bt_.r4 (n:Nat):bt_.d.Round (bt_.fs n) (cx n bt_.d.nt) (b5_ Tryz.f156) 4 bt_.p4 (fun κe=>bt_.step4 n (bt_.o0.k (κe 0))):=fun κ κe x y=>by kernel_rfl
theorem bt_.ok (n:Nat):CxOk E (cx n bt_.d.nt)→KPar (cx n bt_.d.nt)→bt_.d.Ok E (bt_.F (n+1)) :=
 FD.ok (fs:=bt_.fs n) av_ Tryz.func156 (by kernel_rfl) (by kernel_rfl) (by kernel_rfl) (by kernel_rfl) (fun _=>by kernel_rfl) (by kernel_rfl) (fun x=>by kernel_rfl) (.cons (FD.lp n (bt_.r4 n) (by kernel_rfl) fun _ _=>by kernel_rfl) (.nil))
noncomputable def aQ_.fs (n:Nat):aQ_.d.Fs:=(fun _ κe=>aQ_.loop4 n (aQ_ n) (aQ_.o0.k (κe 0)) n,())
theorem aQ_.r4 (n:Nat):aQ_.d.Round (aQ_.fs n) (cx n aQ_.d.nt) (b5_ Tryz.f115) 4 aQ_.p4 (fun κe=>aQ_.step4 n (aQ_ n) (aQ_.o0.k (κe 0))):=fun κ κe x y=>by kernel_rfl
theorem aQ_.ok (n:Nat):CxOk E (cx n aQ_.d.nt)→KPar (cx n aQ_.d.nt)→aQ_.d.Ok E (aQ_.F (n+1)) :=
 FD.ok (fs:=aQ_.fs n) av_ Tryz.func115 (by kernel_rfl) (by kernel_rfl) (by kernel_rfl) (by kernel_rfl) (fun _=>by kernel_rfl) (by kernel_rfl) (fun x=>by kernel_rfl) (.cons (FD.lp n (aQ_.r4 n) (by kernel_rfl) fun _ _=>by kernel_rfl) (.nil))
noncomputable def c6_.fs (n:Nat):c6_.d.Fs:=()
theorem c6_.ok (n:Nat):CxOk E (cx n c6_.d.nt)→KPar (cx n c6_.d.nt)→c6_.d.Ok E (c6_.F (n+1)) :=
 FD.ok (fs:=c6_.fs n) av_ Tryz.func59 (by kernel_rfl) (by kernel_rfl) (by kernel_rfl) (by kernel_rfl) (fun _=>by kernel_rfl) (by kernel_rfl) (fun x=>by kernel_rfl) (.nil)
noncomputable def ce_.fs (n:Nat):ce_.d.Fs:=()
theorem ce_.ok (n:Nat):CxOk E (cx n ce_.d.nt)→KPar (cx n ce_.d.nt)→ce_.d.Ok E (ce_.F (n+1)) :=
 FD.ok (fs:=ce_.fs n) av_ Tryz.func58 (by kernel_rfl) (by kernel_rfl) (by kernel_rfl) (by kernel_rfl) (fun _=>by kernel_rfl) (by kernel_rfl) (fun x=>by kernel_rfl) (.nil)
noncomputable def cV_.fs (n:Nat):cV_.d.Fs:=()
theorem cV_.ok (n:Nat):CxOk E (cx n cV_.d.nt)→KPar (cx n cV_.d.nt)→cV_.d.Ok E (cV_.F (n+1)) :=
 FD.ok (fs:=cV_.fs n) av_ Tryz.func25 (by kernel_rfl) (by kernel_rfl) (by kernel_rfl) (by kernel_rfl) (fun _=>by kernel_rfl) (by kernel_rfl) (fun x=>by kernel_rfl) (.nil)
noncomputable def cs_.fs (n:Nat):cs_.d.Fs:=()
theorem cs_.ok (n:Nat):CxOk E (cx n cs_.d.nt)→KPar (cx n cs_.d.nt)→cs_.d.Ok E (cs_.F (n+1)) :=
 FD.ok (fs:=cs_.fs n) av_ Tryz.func7 (by kernel_rfl) (by kernel_rfl) (by kernel_rfl) (by kernel_rfl) (fun _=>by kernel_rfl) (by kernel_rfl) (fun x=>by kernel_rfl) (.nil)
noncomputable def dj_.fs (n:Nat):dj_.d.Fs:=()
theorem dj_.ok (n:Nat):CxOk E (cx n dj_.d.nt)→KPar (cx n dj_.d.nt)→dj_.d.Ok E (dj_.F (n+1)) :=
 FD.ok (fs:=dj_.fs n) av_ Tryz.func165 (by kernel_rfl) (by kernel_rfl) (by kernel_rfl) (by kernel_rfl) (fun _=>by kernel_rfl) (by kernel_rfl) (fun x=>by kernel_rfl) (.nil)
noncomputable def be_.fs (n:Nat):be_.d.Fs:=(fun _ κe=>be_.loop6 n (be_.o0.k (κe 0)) n,())
theorem be_.r6 (n:Nat):be_.d.Round (be_.fs n) (cx n be_.d.nt) (b5_ Tryz.f127) 6 be_.p6 (fun κe=>be_.step6 n (be_.o0.k (κe 0))):=fun κ κe x y=>by kernel_rfl
theorem be_.ok (n:Nat):CxOk E (cx n be_.d.nt)→KPar (cx n be_.d.nt)→be_.d.Ok E (be_.F (n+1)) :=
 FD.ok (fs:=be_.fs n) av_ Tryz.func127 (by kernel_rfl) (by kernel_rfl) (by kernel_rfl) (by kernel_rfl) (fun _=>by kernel_rfl) (by kernel_rfl) (fun x=>by kernel_rfl) (.cons (FD.lp n (be_.r6 n) (by kernel_rfl) fun _ _=>by kernel_rfl) (.nil))
noncomputable def bs_.fs (n:Nat):bs_.d.Fs:=(fun _ κe=>bs_.loop6 n (bs_.o0.k (κe 0)) n,())
theorem bs_.r6 (n:Nat):bs_.d.Round (bs_.fs n) (cx n bs_.d.nt) (b5_ Tryz.f128) 6 bs_.p6 (fun κe=>bs_.step6 n (bs_.o0.k (κe 0))):=fun κ κe x y=>by kernel_rfl
theorem bs_.ok (n:Nat):CxOk E (cx n bs_.d.nt)→KPar (cx n bs_.d.nt)→bs_.d.Ok E (bs_.F (n+1)) :=
 FD.ok (fs:=bs_.fs n) av_ Tryz.func128 (by kernel_rfl) (by kernel_rfl) (by kernel_rfl) (by kernel_rfl) (fun _=>by kernel_rfl) (by kernel_rfl) (fun x=>by kernel_rfl) (.cons (FD.lp n (bs_.r6 n) (by kernel_rfl) fun _ _=>by kernel_rfl) (.nil))
noncomputable def cR_.fs (n:Nat):cR_.d.Fs:=()
theorem cR_.ok (n:Nat):CxOk E (cx n cR_.d.nt)→KPar (cx n cR_.d.nt)→cR_.d.Ok E (cR_.F (n+1)) :=
 FD.ok (fs:=cR_.fs n) av_ Tryz.func67 (by kernel_rfl) (by kernel_rfl) (by kernel_rfl) (by kernel_rfl) (fun _=>by kernel_rfl) (by kernel_rfl) (fun x=>by kernel_rfl) (.nil)
noncomputable def dF_.fs (n:Nat):dF_.d.Fs:=()
theorem dF_.ok (n:Nat):CxOk E (cx n dF_.d.nt)→KPar (cx n dF_.d.nt)→dF_.d.Ok E (dF_.F (n+1)) :=
 FD.ok (fs:=dF_.fs n) av_ Tryz.func129 (by kernel_rfl) (by kernel_rfl) (by kernel_rfl) (by kernel_rfl) (fun _=>by kernel_rfl) (by kernel_rfl) (fun x=>by kernel_rfl) (.nil)
noncomputable def bw_.fs (n:Nat):bw_.d.Fs:=(fun _ κe=>bw_.loop6 n (bw_.o0.k (κe 0)) n,())
theorem bw_.r6 (n:Nat):bw_.d.Round (bw_.fs n) (cx n bw_.d.nt) (b5_ Tryz.f68) 6 bw_.p6 (fun κe=>bw_.step6 n (bw_.o0.k (κe 0))):=fun κ κe x y=>by kernel_rfl
theorem bw_.ok (n:Nat):CxOk E (cx n bw_.d.nt)→KPar (cx n bw_.d.nt)→bw_.d.Ok E (bw_.F (n+1)) :=
 FD.ok (fs:=bw_.fs n) av_ Tryz.func68 (by kernel_rfl) (by kernel_rfl) (by kernel_rfl) (by kernel_rfl) (fun _=>by kernel_rfl) (by kernel_rfl) (fun x=>by kernel_rfl) (.cons (FD.lp n (bw_.r6 n) (by kernel_rfl) fun _ _=>by kernel_rfl) (.nil))
noncomputable def dG_.fs (n:Nat):dG_.d.Fs:=()
theorem dG_.ok (n:Nat):CxOk E (cx n dG_.d.nt)→KPar (cx n dG_.d.nt)→dG_.d.Ok E (dG_.F (n+1)) :=
 FD.ok (fs:=dG_.fs n) av_ Tryz.func130 (by kernel_rfl) (by kernel_rfl) (by kernel_rfl) (by kernel_rfl) (fun _=>by kernel_rfl) (by kernel_rfl) (fun x=>by kernel_rfl) (.nil)
noncomputable def bx_.fs (n:Nat):bx_.d.Fs:=(fun _ κe=>bx_.loop6 n (bx_.o0.k (κe 0)) n,())
theorem bx_.r6 (n:Nat):bx_.d.Round (bx_.fs n) (cx n bx_.d.nt) (b5_ Tryz.f69) 6 bx_.p6 (fun κe=>bx_.step6 n (bx_.o0.k (κe 0))):=fun κ κe x y=>by kernel_rfl
theorem bx_.ok (n:Nat):CxOk E (cx n bx_.d.nt)→KPar (cx n bx_.d.nt)→bx_.d.Ok E (bx_.F (n+1)) :=
 FD.ok (fs:=bx_.fs n) av_ Tryz.func69 (by kernel_rfl) (by kernel_rfl) (by kernel_rfl) (by kernel_rfl) (fun _=>by kernel_rfl) (by kernel_rfl) (fun x=>by kernel_rfl) (.cons (FD.lp n (bx_.r6 n) (by kernel_rfl) fun _ _=>by kernel_rfl) (.nil))
noncomputable def c4_.fs (n:Nat):c4_.d.Fs:=()
theorem c4_.ok (n:Nat):CxOk E (cx n c4_.d.nt)→KPar (cx n c4_.d.nt)→c4_.d.Ok E (c4_.F (n+1)) :=
 FD.ok (fs:=c4_.fs n) av_ Tryz.func28 (by kernel_rfl) (by kernel_rfl) (by kernel_rfl) (by kernel_rfl) (fun _=>by kernel_rfl) (by kernel_rfl) (fun x=>by kernel_rfl) (.nil)
noncomputable def cL_.fs (n:Nat):cL_.d.Fs:=()
theorem cL_.ok (n:Nat):CxOk E (cx n cL_.d.nt)→KPar (cx n cL_.d.nt)→cL_.d.Ok E (cL_.F (n+1)) :=
 FD.ok (fs:=cL_.fs n) av_ Tryz.func8 (by kernel_rfl) (by kernel_rfl) (by kernel_rfl) (by kernel_rfl) (fun _=>by kernel_rfl) (by kernel_rfl) (fun x=>by kernel_rfl) (.nil)
noncomputable def bb_.fs (n:Nat):bb_.d.Fs:=(fun _ κe=>bb_.loop6 n (b6_ n) (bb_.o0.k (κe 0)) n,())
theorem bb_.r6 (n:Nat):bb_.d.Round (bb_.fs n) (cx n bb_.d.nt) (b5_ Tryz.f70) 6 bb_.p6 (fun κe=>bb_.step6 n (b6_ n) (bb_.o0.k (κe 0))):=fun κ κe x y=>by kernel_rfl
theorem bb_.ok (n:Nat):CxOk E (cx n bb_.d.nt)→KPar (cx n bb_.d.nt)→bb_.d.Ok E (bb_.F (n+1)) :=
 FD.ok (fs:=bb_.fs n) av_ Tryz.func70 (by kernel_rfl) (by kernel_rfl) (by kernel_rfl) (by kernel_rfl) (fun _=>by kernel_rfl) (by kernel_rfl) (fun x=>by kernel_rfl) (.cons (FD.lp n (bb_.r6 n) (by kernel_rfl) fun _ _=>by kernel_rfl) (.nil))
noncomputable def aM_.fs (n:Nat):aM_.d.Fs:=(fun _ κe=>aM_.loop6 n (aM_.o0.k (κe 0)) n,())
theorem aM_.r6 (n:Nat):aM_.d.Round (aM_.fs n) (cx n aM_.d.nt) (b5_ Tryz.f71) 6 aM_.p6 (fun κe=>aM_.step6 n (aM_.o0.k (κe 0))):=fun κ κe x y=>by kernel_rfl
theorem aM_.ok (n:Nat):CxOk E (cx n aM_.d.nt)→KPar (cx n aM_.d.nt)→aM_.d.Ok E (aM_.F (n+1)) :=
 FD.ok (fs:=aM_.fs n) av_ Tryz.func71 (by kernel_rfl) (by kernel_rfl) (by kernel_rfl) (by kernel_rfl) (fun _=>by kernel_rfl) (by kernel_rfl) (fun x=>by kernel_rfl) (.cons (FD.lp n (aM_.r6 n) (by kernel_rfl) fun _ _=>by kernel_rfl) (.nil))
noncomputable def b6_.fs (n:Nat):b6_.d.Fs:=()
theorem b6_.ok (n:Nat):CxOk E (cx n b6_.d.nt)→KPar (cx n b6_.d.nt)→b6_.d.Ok E (b6_.F (n+1)) :=
 FD.ok (fs:=b6_.fs n) av_ Tryz.func29 (by kernel_rfl) (by kernel_rfl) (by kernel_rfl) (by kernel_rfl) (fun _=>by kernel_rfl) (by kernel_rfl) (fun x=>by kernel_rfl) (.nil)
noncomputable def dS_.fs (n:Nat):dS_.d.Fs:=()
theorem dS_.ok (n:Nat):CxOk E (cx n dS_.d.nt)→KPar (cx n dS_.d.nt)→dS_.d.Ok E (dS_.F (n+1)) :=
 FD.ok (fs:=dS_.fs n) av_ Tryz.func72 (by kernel_rfl) (by kernel_rfl) (by kernel_rfl) (by kernel_rfl) (fun _=>by kernel_rfl) (by kernel_rfl) (fun x=>by kernel_rfl) (.nil)
noncomputable def bI_.fs (n:Nat):bI_.d.Fs:=(fun _ κe=>bI_.loop6 n (bI_.o0.k (κe 0)) n,())
theorem bI_.r6 (n:Nat):bI_.d.Round (bI_.fs n) (cx n bI_.d.nt) (b5_ Tryz.f30) 6 bI_.p6 (fun κe=>bI_.step6 n (bI_.o0.k (κe 0))):=fun κ κe x y=>by kernel_rfl
theorem bI_.ok (n:Nat):CxOk E (cx n bI_.d.nt)→KPar (cx n bI_.d.nt)→bI_.d.Ok E (bI_.F (n+1)) :=
 FD.ok (fs:=bI_.fs n) av_ Tryz.func30 (by kernel_rfl) (by kernel_rfl) (by kernel_rfl) (by kernel_rfl) (fun _=>by kernel_rfl) (by kernel_rfl) (fun x=>by kernel_rfl) (.cons (FD.lp n (bI_.r6 n) (by kernel_rfl) fun _ _=>by kernel_rfl) (.nil))
noncomputable def cH_.fs (n:Nat):cH_.d.Fs:=()
theorem cH_.ok (n:Nat):CxOk E (cx n cH_.d.nt)→KPar (cx n cH_.d.nt)→cH_.d.Ok E (cH_.F (n+1)) :=
 FD.ok (fs:=cH_.fs n) av_ Tryz.func9 (by kernel_rfl) (by kernel_rfl) (by kernel_rfl) (by kernel_rfl) (fun _=>by kernel_rfl) (by kernel_rfl) (fun x=>by kernel_rfl) (.nil)
noncomputable def aK_.fs (n:Nat):aK_.d.Fs:=(fun _ κe=>aK_.loop3 n (aK_.o0.k (κe 0)) n,())
theorem aK_.r3 (n:Nat):aK_.d.Round (aK_.fs n) (cx n aK_.d.nt) (b5_ Tryz.f131) 3 aK_.p3 (fun κe=>aK_.step3 n (aK_.o0.k (κe 0))):=fun κ κe x y=>by kernel_rfl
theorem aK_.ok (n:Nat):CxOk E (cx n aK_.d.nt)→KPar (cx n aK_.d.nt)→aK_.d.Ok E (aK_.F (n+1)) :=
 FD.ok (fs:=aK_.fs n) av_ Tryz.func131 (by kernel_rfl) (by kernel_rfl) (by kernel_rfl) (by kernel_rfl) (fun _=>by kernel_rfl) (by kernel_rfl) (fun x=>by kernel_rfl) (.cons (FD.lp n (aK_.r3 n) (by kernel_rfl) fun _ _=>by kernel_rfl) (.nil))
noncomputable def aR_.fs (n:Nat):aR_.d.Fs:=(fun _ κe=>aR_.loop3 n (aR_.o0.k (κe 0)) n,())
theorem aR_.r3 (n:Nat):aR_.d.Round (aR_.fs n) (cx n aR_.d.nt) (b5_ Tryz.f132) 3 aR_.p3 (fun κe=>aR_.step3 n (aR_.o0.k (κe 0))):=fun κ κe x y=>by kernel_rfl
theorem aR_.ok (n:Nat):CxOk E (cx n aR_.d.nt)→KPar (cx n aR_.d.nt)→aR_.d.Ok E (aR_.F (n+1)) :=
 FD.ok (fs:=aR_.fs n) av_ Tryz.func132 (by kernel_rfl) (by kernel_rfl) (by kernel_rfl) (by kernel_rfl) (fun _=>by kernel_rfl) (by kernel_rfl) (fun x=>by kernel_rfl) (.cons (FD.lp n (aR_.r3 n) (by kernel_rfl) fun _ _=>by kernel_rfl) (.nil))
noncomputable def b9_.fs (n:Nat):b9_.d.Fs:=()
theorem b9_.ok (n:Nat):CxOk E (cx n b9_.d.nt)→KPar (cx n b9_.d.nt)→b9_.d.Ok E (b9_.F (n+1)) :=
 FD.ok (fs:=b9_.fs n) av_ Tryz.func73 (by kernel_rfl) (by kernel_rfl) (by kernel_rfl) (by kernel_rfl) (fun _=>by kernel_rfl) (by kernel_rfl) (fun x=>by kernel_rfl) (.nil)
noncomputable def aU_.fs (n:Nat):aU_.d.Fs:=(fun _ κe=>aU_.loop3 n (aU_.o0.k (κe 0)) n,())
theorem aU_.r3 (n:Nat):aU_.d.Round (aU_.fs n) (cx n aU_.d.nt) (b5_ Tryz.f74) 3 aU_.p3 (fun κe=>aU_.step3 n (aU_.o0.k (κe 0))):=fun κ κe x y=>by kernel_rfl
theorem aU_.ok (n:Nat):CxOk E (cx n aU_.d.nt)→KPar (cx n aU_.d.nt)→aU_.d.Ok E (aU_.F (n+1)) :=
 FD.ok (fs:=aU_.fs n) av_ Tryz.func74 (by kernel_rfl) (by kernel_rfl) (by kernel_rfl) (by kernel_rfl) (fun _=>by kernel_rfl) (by kernel_rfl) (fun x=>by kernel_rfl) (.cons (FD.lp n (aU_.r3 n) (by kernel_rfl) fun _ _=>by kernel_rfl) (.nil))
noncomputable def aV_.fs (n:Nat):aV_.d.Fs:=(fun _ κe=>aV_.loop3 n (aV_.o0.k (κe 0)) n,())
theorem aV_.r3 (n:Nat):aV_.d.Round (aV_.fs n) (cx n aV_.d.nt) (b5_ Tryz.f75) 3 aV_.p3 (fun κe=>aV_.step3 n (aV_.o0.k (κe 0))):=fun κ κe x y=>by kernel_rfl
theorem aV_.ok (n:Nat):CxOk E (cx n aV_.d.nt)→KPar (cx n aV_.d.nt)→aV_.d.Ok E (aV_.F (n+1)) :=
 FD.ok (fs:=aV_.fs n) av_ Tryz.func75 (by kernel_rfl) (by kernel_rfl) (by kernel_rfl) (by kernel_rfl) (fun _=>by kernel_rfl) (by kernel_rfl) (fun x=>by kernel_rfl) (.cons (FD.lp n (aV_.r3 n) (by kernel_rfl) fun _ _=>by kernel_rfl) (.nil))
noncomputable def cm_.fs (n:Nat):cm_.d.Fs:=()
theorem cm_.ok (n:Nat):CxOk E (cx n cm_.d.nt)→KPar (cx n cm_.d.nt)→cm_.d.Ok E (cm_.F (n+1)) :=
 FD.ok (fs:=cm_.fs n) av_ Tryz.func31 (by kernel_rfl) (by kernel_rfl) (by kernel_rfl) (by kernel_rfl) (fun _=>by kernel_rfl) (by kernel_rfl) (fun x=>by kernel_rfl) (.nil)
noncomputable def cn_.fs (n:Nat):cn_.d.Fs:=()
theorem cn_.ok (n:Nat):CxOk E (cx n cn_.d.nt)→KPar (cx n cn_.d.nt)→cn_.d.Ok E (cn_.F (n+1)) :=
 FD.ok (fs:=cn_.fs n) av_ Tryz.func10 (by kernel_rfl) (by kernel_rfl) (by kernel_rfl) (by kernel_rfl) (fun _=>by kernel_rfl) (by kernel_rfl) (fun x=>by kernel_rfl) (.nil)
noncomputable def aH_.fs (n:Nat):aH_.d.Fs:=(fun _ κe=>aH_.loop6 n (aH_.o0.k (κe 0)) n,())
theorem aH_.r6 (n:Nat):aH_.d.Round (aH_.fs n) (cx n aH_.d.nt) (b5_ Tryz.f78) 6 aH_.p6 (fun κe=>aH_.step6 n (aH_.o0.k (κe 0))):=fun κ κe x y=>by kernel_rfl
theorem aH_.ok (n:Nat):CxOk E (cx n aH_.d.nt)→KPar (cx n aH_.d.nt)→aH_.d.Ok E (aH_.F (n+1)) :=
 FD.ok (fs:=aH_.fs n) av_ Tryz.func78 (by kernel_rfl) (by kernel_rfl) (by kernel_rfl) (by kernel_rfl) (fun _=>by kernel_rfl) (by kernel_rfl) (fun x=>by kernel_rfl) (.cons (FD.lp n (aH_.r6 n) (by kernel_rfl) fun _ _=>by kernel_rfl) (.nil))
noncomputable def aq_.fs (n:Nat):aq_.d.Fs:=(fun _ κe=>aq_.loop3 n (aq_.o0.k (κe 0)) n,())
theorem aq_.r3 (n:Nat):aq_.d.Round (aq_.fs n) (cx n aq_.d.nt) (b5_ Tryz.f77) 3 aq_.p3 (fun κe=>aq_.step3 n (aq_.o0.k (κe 0))):=fun κ κe x y=>by kernel_rfl
theorem aq_.ok (n:Nat):CxOk E (cx n aq_.d.nt)→KPar (cx n aq_.d.nt)→aq_.d.Ok E (aq_.F (n+1)) :=
 FD.ok (fs:=aq_.fs n) av_ Tryz.func77 (by kernel_rfl) (by kernel_rfl) (by kernel_rfl) (by kernel_rfl) (fun _=>by kernel_rfl) (by kernel_rfl) (fun x=>by kernel_rfl) (.cons (FD.lp n (aq_.r3 n) (by kernel_rfl) fun _ _=>by kernel_rfl) (.nil))
noncomputable def ay_.fs (n:Nat):ay_.d.Fs:=(fun _ κe=>ay_.loop3 n (ay_ n) (ay_.o0.k (κe 0)) n,())
theorem ay_.r3 (n:Nat):ay_.d.Round (ay_.fs n) (cx n ay_.d.nt) (b5_ Tryz.f76) 3 ay_.p3 (fun κe=>ay_.step3 n (ay_ n) (ay_.o0.k (κe 0))):=fun κ κe x y=>by kernel_rfl
theorem ay_.ok (n:Nat):CxOk E (cx n ay_.d.nt)→KPar (cx n ay_.d.nt)→ay_.d.Ok E (ay_.F (n+1)) :=
 FD.ok (fs:=ay_.fs n) av_ Tryz.func76 (by kernel_rfl) (by kernel_rfl) (by kernel_rfl) (by kernel_rfl) (fun _=>by kernel_rfl) (by kernel_rfl) (fun x=>by kernel_rfl) (.cons (FD.lp n (ay_.r3 n) (by kernel_rfl) fun _ _=>by kernel_rfl) (.nil))
noncomputable def cz_.fs (n:Nat):cz_.d.Fs:=()
theorem cz_.ok (n:Nat):CxOk E (cx n cz_.d.nt)→KPar (cx n cz_.d.nt)→cz_.d.Ok E (cz_.F (n+1)) :=
 FD.ok (fs:=cz_.fs n) av_ Tryz.func32 (by kernel_rfl) (by kernel_rfl) (by kernel_rfl) (by kernel_rfl) (fun _=>by kernel_rfl) (by kernel_rfl) (fun x=>by kernel_rfl) (.nil)
noncomputable def a9_.fs (n:Nat):a9_.d.Fs:=(fun _ κe=>a9_.loop3 n (a9_.o0.k (κe 0)) n,())
theorem a9_.r3 (n:Nat):a9_.d.Round (a9_.fs n) (cx n a9_.d.nt) (b5_ Tryz.f33) 3 a9_.p3 (fun κe=>a9_.step3 n (a9_.o0.k (κe 0))):=fun κ κe x y=>by kernel_rfl
theorem a9_.ok (n:Nat):CxOk E (cx n a9_.d.nt)→KPar (cx n a9_.d.nt)→a9_.d.Ok E (a9_.F (n+1)) :=
 FD.ok (fs:=a9_.fs n) av_ Tryz.func33 (by kernel_rfl) (by kernel_rfl) (by kernel_rfl) (by kernel_rfl) (fun _=>by kernel_rfl) (by kernel_rfl) (fun x=>by kernel_rfl) (.cons (FD.lp n (a9_.r3 n) (by kernel_rfl) fun _ _=>by kernel_rfl) (.nil))
noncomputable def ca_.fs (n:Nat):ca_.d.Fs:=()
theorem ca_.ok (n:Nat):CxOk E (cx n ca_.d.nt)→KPar (cx n ca_.d.nt)→ca_.d.Ok E (ca_.F (n+1)) :=
 FD.ok (fs:=ca_.fs n) av_ Tryz.func11 (by kernel_rfl) (by kernel_rfl) (by kernel_rfl) (by kernel_rfl) (fun _=>by kernel_rfl) (by kernel_rfl) (fun x=>by kernel_rfl) (.nil)
noncomputable def aL_.fs (n:Nat):aL_.d.Fs:=(fun _ κe=>aL_.loop3 n (aL_.o0.k (κe 0)) n,())
theorem aL_.r3 (n:Nat):aL_.d.Round (aL_.fs n) (cx n aL_.d.nt) (b5_ Tryz.f133) 3 aL_.p3 (fun κe=>aL_.step3 n (aL_.o0.k (κe 0))):=fun κ κe x y=>by kernel_rfl
theorem aL_.ok (n:Nat):CxOk E (cx n aL_.d.nt)→KPar (cx n aL_.d.nt)→aL_.d.Ok E (aL_.F (n+1)) :=
 FD.ok (fs:=aL_.fs n) av_ Tryz.func133 (by kernel_rfl) (by kernel_rfl) (by kernel_rfl) (by kernel_rfl) (fun _=>by kernel_rfl) (by kernel_rfl) (fun x=>by kernel_rfl) (.cons (FD.lp n (aL_.r3 n) (by kernel_rfl) fun _ _=>by kernel_rfl) (.nil))
noncomputable def aS_.fs (n:Nat):aS_.d.Fs:=(fun _ κe=>aS_.loop3 n (aS_.o0.k (κe 0)) n,())
theorem aS_.r3 (n:Nat):aS_.d.Round (aS_.fs n) (cx n aS_.d.nt) (b5_ Tryz.f134) 3 aS_.p3 (fun κe=>aS_.step3 n (aS_.o0.k (κe 0))):=fun κ κe x y=>by kernel_rfl
theorem aS_.ok (n:Nat):CxOk E (cx n aS_.d.nt)→KPar (cx n aS_.d.nt)→aS_.d.Ok E (aS_.F (n+1)) :=
 FD.ok (fs:=aS_.fs n) av_ Tryz.func134 (by kernel_rfl) (by kernel_rfl) (by kernel_rfl) (by kernel_rfl) (fun _=>by kernel_rfl) (by kernel_rfl) (fun x=>by kernel_rfl) (.cons (FD.lp n (aS_.r3 n) (by kernel_rfl) fun _ _=>by kernel_rfl) (.nil))
noncomputable def cb_.fs (n:Nat):cb_.d.Fs:=()
theorem cb_.ok (n:Nat):CxOk E (cx n cb_.d.nt)→KPar (cx n cb_.d.nt)→cb_.d.Ok E (cb_.F (n+1)) :=
 FD.ok (fs:=cb_.fs n) av_ Tryz.func79 (by kernel_rfl) (by kernel_rfl) (by kernel_rfl) (by kernel_rfl) (fun _=>by kernel_rfl) (by kernel_rfl) (fun x=>by kernel_rfl) (.nil)
noncomputable def aW_.fs (n:Nat):aW_.d.Fs:=(fun _ κe=>aW_.loop3 n (aW_.o0.k (κe 0)) n,())
theorem aW_.r3 (n:Nat):aW_.d.Round (aW_.fs n) (cx n aW_.d.nt) (b5_ Tryz.f80) 3 aW_.p3 (fun κe=>aW_.step3 n (aW_.o0.k (κe 0))):=fun κ κe x y=>by kernel_rfl
theorem aW_.ok (n:Nat):CxOk E (cx n aW_.d.nt)→KPar (cx n aW_.d.nt)→aW_.d.Ok E (aW_.F (n+1)) :=
 FD.ok (fs:=aW_.fs n) av_ Tryz.func80 (by kernel_rfl) (by kernel_rfl) (by kernel_rfl) (by kernel_rfl) (fun _=>by kernel_rfl) (by kernel_rfl) (fun x=>by kernel_rfl) (.cons (FD.lp n (aW_.r3 n) (by kernel_rfl) fun _ _=>by kernel_rfl) (.nil))
noncomputable def aX_.fs (n:Nat):aX_.d.Fs:=(fun _ κe=>aX_.loop3 n (aX_.o0.k (κe 0)) n,())
theorem aX_.r3 (n:Nat):aX_.d.Round (aX_.fs n) (cx n aX_.d.nt) (b5_ Tryz.f81) 3 aX_.p3 (fun κe=>aX_.step3 n (aX_.o0.k (κe 0))):=fun κ κe x y=>by kernel_rfl
theorem aX_.ok (n:Nat):CxOk E (cx n aX_.d.nt)→KPar (cx n aX_.d.nt)→aX_.d.Ok E (aX_.F (n+1)) :=
 FD.ok (fs:=aX_.fs n) av_ Tryz.func81 (by kernel_rfl) (by kernel_rfl) (by kernel_rfl) (by kernel_rfl) (fun _=>by kernel_rfl) (by kernel_rfl) (fun x=>by kernel_rfl) (.cons (FD.lp n (aX_.r3 n) (by kernel_rfl) fun _ _=>by kernel_rfl) (.nil))
noncomputable def co_.fs (n:Nat):co_.d.Fs:=()
theorem co_.ok (n:Nat):CxOk E (cx n co_.d.nt)→KPar (cx n co_.d.nt)→co_.d.Ok E (co_.F (n+1)) :=
 FD.ok (fs:=co_.fs n) av_ Tryz.func34 (by kernel_rfl) (by kernel_rfl) (by kernel_rfl) (by kernel_rfl) (fun _=>by kernel_rfl) (by kernel_rfl) (fun x=>by kernel_rfl) (.nil)
noncomputable def cp_.fs (n:Nat):cp_.d.Fs:=()
theorem cp_.ok (n:Nat):CxOk E (cx n cp_.d.nt)→KPar (cx n cp_.d.nt)→cp_.d.Ok E (cp_.F (n+1)) :=
 FD.ok (fs:=cp_.fs n) av_ Tryz.func12 (by kernel_rfl) (by kernel_rfl) (by kernel_rfl) (by kernel_rfl) (fun _=>by kernel_rfl) (by kernel_rfl) (fun x=>by kernel_rfl) (.nil)
noncomputable def ar_.fs (n:Nat):ar_.d.Fs:=(fun _ κe=>ar_.loop3 n (ar_.o0.k (κe 0)) n,())
theorem ar_.r3 (n:Nat):ar_.d.Round (ar_.fs n) (cx n ar_.d.nt) (b5_ Tryz.f83) 3 ar_.p3 (fun κe=>ar_.step3 n (ar_.o0.k (κe 0))):=fun κ κe x y=>by kernel_rfl
theorem ar_.ok (n:Nat):CxOk E (cx n ar_.d.nt)→KPar (cx n ar_.d.nt)→ar_.d.Ok E (ar_.F (n+1)) :=
 FD.ok (fs:=ar_.fs n) av_ Tryz.func83 (by kernel_rfl) (by kernel_rfl) (by kernel_rfl) (by kernel_rfl) (fun _=>by kernel_rfl) (by kernel_rfl) (fun x=>by kernel_rfl) (.cons (FD.lp n (ar_.r3 n) (by kernel_rfl) fun _ _=>by kernel_rfl) (.nil))
noncomputable def az_.fs (n:Nat):az_.d.Fs:=(fun _ κe=>az_.loop3 n (az_ n) (az_.o0.k (κe 0)) n,())
theorem az_.r3 (n:Nat):az_.d.Round (az_.fs n) (cx n az_.d.nt) (b5_ Tryz.f82) 3 az_.p3 (fun κe=>az_.step3 n (az_ n) (az_.o0.k (κe 0))):=fun κ κe x y=>by kernel_rfl
theorem az_.ok (n:Nat):CxOk E (cx n az_.d.nt)→KPar (cx n az_.d.nt)→az_.d.Ok E (az_.F (n+1)) :=
 FD.ok (fs:=az_.fs n) av_ Tryz.func82 (by kernel_rfl) (by kernel_rfl) (by kernel_rfl) (by kernel_rfl) (fun _=>by kernel_rfl) (by kernel_rfl) (fun x=>by kernel_rfl) (.cons (FD.lp n (az_.r3 n) (by kernel_rfl) fun _ _=>by kernel_rfl) (.nil))
noncomputable def cA_.fs (n:Nat):cA_.d.Fs:=()
theorem cA_.ok (n:Nat):CxOk E (cx n cA_.d.nt)→KPar (cx n cA_.d.nt)→cA_.d.Ok E (cA_.F (n+1)) :=
 FD.ok (fs:=cA_.fs n) av_ Tryz.func35 (by kernel_rfl) (by kernel_rfl) (by kernel_rfl) (by kernel_rfl) (fun _=>by kernel_rfl) (by kernel_rfl) (fun x=>by kernel_rfl) (.nil)
noncomputable def ba_.fs (n:Nat):ba_.d.Fs:=(fun _ κe=>ba_.loop3 n (ba_.o0.k (κe 0)) n,())
theorem ba_.r3 (n:Nat):ba_.d.Round (ba_.fs n) (cx n ba_.d.nt) (b5_ Tryz.f36) 3 ba_.p3 (fun κe=>ba_.step3 n (ba_.o0.k (κe 0))):=fun κ κe x y=>by kernel_rfl
theorem ba_.ok (n:Nat):CxOk E (cx n ba_.d.nt)→KPar (cx n ba_.d.nt)→ba_.d.Ok E (ba_.F (n+1)) :=
 FD.ok (fs:=ba_.fs n) av_ Tryz.func36 (by kernel_rfl) (by kernel_rfl) (by kernel_rfl) (by kernel_rfl) (fun _=>by kernel_rfl) (by kernel_rfl) (fun x=>by kernel_rfl) (.cons (FD.lp n (ba_.r3 n) (by kernel_rfl) fun _ _=>by kernel_rfl) (.nil))
noncomputable def b2_.fs (n:Nat):b2_.d.Fs:=()
theorem b2_.ok (n:Nat):CxOk E (cx n b2_.d.nt)→KPar (cx n b2_.d.nt)→b2_.d.Ok E (b2_.F (n+1)) :=
 FD.ok (fs:=b2_.fs n) av_ Tryz.func13 (by kernel_rfl) (by kernel_rfl) (by kernel_rfl) (by kernel_rfl) (fun _=>by kernel_rfl) (by kernel_rfl) (fun x=>by kernel_rfl) (.nil)
noncomputable def laws_FnExactSessTake.fs (n:Nat):laws_FnExactSessTake.d.Fs:=()
theorem laws_FnExactSessTake.ok (n:Nat):CxOk E (cx n laws_FnExactSessTake.d.nt)→KPar (cx n laws_FnExactSessTake.d.nt)→laws_FnExactSessTake.d.Ok E (laws_FnExactSessTake.F (n+1)) :=
 FD.ok (fs:=laws_FnExactSessTake.fs n) av_ Tryz.func3 (by kernel_rfl) (by kernel_rfl) (by kernel_rfl) (by kernel_rfl) (fun _=>by kernel_rfl) (by kernel_rfl) (fun x=>by kernel_rfl) (.nil)
end Go.Pi
end
section
namespace Go.Pi
def InsM (P:Program) (f:FuncId) (e:TypeId) (K B:Nat):Prop :=
 ∀ (w:World) (S:Value) (n:Nat) (vals:List Value) (U:Value) (m:Nat) (us:List Value) (i:Nat),w.ownsRow 0 e K S n vals→w.ownsRow 0 e K U m us→(∀ b,dz_ S b≠0→dz_ U b=0)→i≤n →
   (∀ v ∈ vals,v.oneCell'=true)→(∀ v ∈ us,v.oneCell'=true)→(n+m)*B≤140737488355328 →
   Calls P f (List.toArray [S,.int .i64 i,U]) w fun e' w'=>∃ R,e' = .returned R∧w'.ownsRow 0 e K R (n+m) (vals.take (i*K)++us++vals.drop (i*K))∧hr_ w w' (fun b=>dz_ S b≠0) ∧
    ∀ b,dz_ R b≠0→(w.heap.size≤b∨dz_ S b≠0)∧b<w'.heap.size
def DelM (P:Program) (f:FuncId) (e:TypeId) (K:Nat):Prop :=
 ∀ (w:World) (S:Value) (n:Nat) (vals:List Value) (i j:Nat),w.ownsRow 0 e K S n vals→i≤j→j≤n→(∀ v ∈ vals,v.oneCell'=true) →
   Calls P f (List.toArray [S,.int .i64 i,.int .i64 j]) w fun e' w'=>∃ R,e' = .returned R∧w'.ownsRow 0 e K R (n - (j - i)) (vals.take (i*K)++vals.drop (j*K))∧hr_ w w' (fun b=>dz_ S b≠0) ∧
    ∀ b,dz_ R b≠0→(w.heap.size≤b∨dz_ S b≠0)∧b<w'.heap.size
def M.both:M→M→M
 |.d,.d=>.d
 |_,_=>.s
variable [an_]
open an_
variable {E:Env} {w w':World} {F F':Nat→Prop}
theorem RL.own_inv {m t xs v l vs φ} (hm:m ≠ .v) (h:RL E w F (.sl m t xs::l) (v::vs) φ):∃ vals φ₁ φ₂,w.ownsRow 0 (E.eid t) t.width v xs.length vals∧RL E w F (bJ_ m.sub t xs) vals φ₁∧(∀ b,dz_ v b≠0→F b)∧RL E w F l vs φ₂∧∀ b,φ b=dz_ v b+φ₁ b+φ₂ b:=by
 cases h with
 |scal _ _ _ _ _ h=>exact h.elim
 |view=>exact absurd rfl hm
 |own m t xs v vals φ₁ l vs φ₂ φ h1 h2 h3 h4 h5 h6=>exact ⟨vals,φ₁,φ₂,h2,h3,h4,h5,h6⟩
theorem RL.len_inv {a l Vs φ} (h:RL E w F (a::l) Vs φ):∃ v vs,Vs=v::vs:=by
 obtain ⟨v,vs,_,_,h,_⟩:=RL.uncons h
 exact ⟨v,vs,h⟩
theorem n9_ [ap_] {φ:Nat→Nat} (h1:∀ b,φ b≤1) (low:∀ b,φ b≠0→F b∧b<w.heap.size) {S:Value} (hSF:∀ b,dz_ S b≠0→F b) {t:TC} {zs:List (El t)} {vals:List Value} {ψ:Nat→Nat}
  (hz:RL E w F (bJ_ .d t zs) vals ψ) (eφ:∀ b,dz_ S b+ψ b≤φ b) {R:Value} (hR:w'.ownsRow 0 (E.eid t) t.width R zs.length vals) (hg:hr_ w w' (fun b=>dz_ S b≠0))
  (hRb:∀ b,dz_ R b≠0→(w.heap.size≤b∨dz_ S b≠0)∧b<w'.heap.size) :
  ∃ φ',RL E w' (fun b=>(F b∧φ b=0)∨φ' b≠0) [.sl .d t zs] [R] φ'∧(∀ b,φ' b≤1)∧(∀ b,φ' b≠0→φ b≠0∨w.heap.size≤b) ∧
    w'.os=w.os∧w'.tape=w.tape∧w'.output=w.output∧w.heap.size≤w'.heap.size∧∀ b,b<w.heap.size→φ b=0→w'.heap[b]?=w.heap[b]?:=by
 have key:∀ b,dz_ R b≠0→dz_ S b≠0∨w.heap.size≤b:=fun b hb=>(hRb b hb).1.symm
 have elt:∀ b,ψ b≠0→dz_ R b=0∧dz_ S b=0:=fun b hb=>by
  have q1:=eφ b;have q2:=h1 b
  have s0:dz_ S b=0:=by omega
  refine ⟨Classical.byContradiction fun hr => ?_,s0⟩
  rcases key b hr with hs|hs
  · exact hs s0
  · have:=(low b (by omega)).2;omega
 refine ⟨fun b=>dz_ R b+ψ b,?_,fun b => ?_,fun b hb => ?_,hg.os,hg.tape,hg.output,hg.size,fun b hb h0=>hg.heap b hb fun hc=>hc (by have:=eφ b;omega)⟩
 · refine .own .d t zs R vals ψ [] _ (fun _=>0) _ (by decide) hR ?_ (fun b hb=>.inr (by show dz_ R b+_≠0;omega)) (.nil _ fun _=>rfl) (fun b=>rfl)
   refine hz.frame hg.size (fun b hb=>⟨hg.heap b (hz.low b hb).2 fun hc=>hc (elt b hb).2,.inr (by show dz_ R b+ψ b≠0;omega)⟩) fun b hb hn=>⟨hg.heap b hb fun hc=>hn (hSF b hc),fun hc => ?_⟩
   rcases hc with ⟨hf,-⟩|hc
   · exact hn hf
   · have hc:dz_ R b+ψ b≠0:=hc
     by_cases hr0:dz_ R b=0
     · exact hn (hz.low b (by omega)).1
     · rcases key b hr0 with hs|hs
       · exact hn (hSF b hs)
       · omega
 · show dz_ R b+ψ b≤1
   have q1:=eφ b;have q2:=h1 b;have:=k2_ R b
   by_cases h0:ψ b=0
   · omega
   · have:=elt b h0;omega
 · have hb:dz_ R b+ψ b≠0:=hb
   by_cases h0:ψ b=0
   · rcases key b (by omega) with hs|hs
     · exact .inl (by have:=eφ b;omega)
     · exact .inr hs
   · exact .inl (by have:=eφ b;omega)
theorem kf_ [ap_] {φ:Nat→Nat} (h1:∀ b,φ b≤1) (low:∀ b,φ b≠0→F b∧b<w.heap.size) {S:Value} (hSF:∀ b,dz_ S b≠0→F b) {t:TC} {zs:List (El t)} {L:List AV} {vals:List Value} {ψ:Nat→Nat}
  (hz:RL E w F L vals ψ) (hL:L.map AV.asView=bJ_ .v t zs) (eφ:∀ b,dz_ S b+ψ b≤φ b) {R:Value} (hR:w'.ownsRow 0 (E.eid t) t.width R zs.length vals) (hg:hr_ w w' (fun b=>dz_ S b≠0))
  (hRb:∀ b,dz_ R b≠0→(w.heap.size≤b∨dz_ S b≠0)∧b<w'.heap.size) :
  ∃ φ',RL E w' (fun b=>(F b∧φ b=0)∨φ' b≠0) [.sl .s t zs] [R] φ'∧(∀ b,φ' b≤1)∧(∀ b,φ' b≠0→φ b≠0∨w.heap.size≤b) ∧
    w'.os=w.os∧w'.tape=w.tape∧w'.output=w.output∧w.heap.size≤w'.heap.size∧∀ b,b<w.heap.size→φ b=0→w'.heap[b]?=w.heap[b]?:=by
 have key:∀ b,dz_ R b≠0→dz_ S b≠0∨w.heap.size≤b:=fun b hb=>(hRb b hb).1.symm
 have hv:=hz.seen (F':=fun b=>F b∧ψ b=0) (fun b hb hc=>hb hc.2) (fun b _ hn hc=>hn hc.1)
 rw [hL] at hv
 refine ⟨dz_ R,?_,k2_ R,fun b hb => ?_,hg.os,hg.tape,hg.output,hg.size,fun b hb h0=>hg.heap b hb fun hc=>hc (by have:=eφ b;omega)⟩
 · refine .own .s t zs R vals (fun _=>0) [] _ (fun _=>0) _ (by decide) hR ?_ (fun b hb=>.inr hb) (.nil _ fun _=>rfl) (fun b=>rfl)
   refine hv.frame hg.size (fun b hb=>absurd rfl hb) fun b hb hn=>⟨hg.heap b hb fun hc=>hn ⟨hSF b hc,by have:=eφ b;have:=h1 b;omega⟩,fun hc => ?_⟩
   rcases hc with ⟨hf,h0⟩|hc
   · exact hn ⟨hf,by have:=eφ b;omega⟩
   · rcases key b hc with hs|hs
     · exact hn ⟨hSF b hs,by have:=eφ b;have:=h1 b;omega⟩
     · omega
 · rcases key b hb with hs|hs
   · exact .inl (by have:=eφ b;omega)
   · exact .inr hs
theorem RL.int_inv {k n l v vs φ} (h:RL E w F (.i k n::l) (v::vs) φ):v = .int k n∧RL E w F l vs φ:=by
 cases h with
 |scal _ _ _ _ _ h1 h2=>exact ⟨h1,h2⟩
theorem codedD [ap_] {m:M} {t:TC} (zs:List (El t)):∀ a ∈ bJ_ m t zs,∃ m,a.coded m:=fun a ha=>⟨m,ea_ a ha⟩
theorem o3_ [ap_] {f:FuncId} {t:TC} {m1 m2:M} (hm1:m1 ≠ .v) (hm2:m2 ≠ .v) (h:InsM E.P f (E.eid t) t.width t.bytes) {xs ys:List (El t)} {i:Nat} (hi:i≤xs.length) (hb:(xs.length+ys.length)*t.bytes≤140737488355328) :
  eE_ E f [.sl m1 t xs,.i .i64 i,.sl m2 t ys] (.sl (M.both m1 m2) t (xs.take i++ys++xs.drop i)) [] [.o,.v,.o]:=by
 intro w F Vs φ hrl h1 hlow _
 have low:∀ b,φ b≠0→F b∧b<w.heap.size:=hrl.low
 obtain ⟨S,_,rfl⟩:=hrl.len_inv
 replace hrl:=hrl.own_inv hm1
 obtain ⟨vals,φx,φ2,hS,hx,hSF,hrl,e1⟩:=hrl
 obtain ⟨I,_,rfl⟩:=hrl.len_inv
 replace hrl:=hrl.int_inv
 obtain ⟨rfl,hrl⟩:=hrl
 obtain ⟨U,_,rfl⟩:=hrl.len_inv
 replace hrl:=hrl.own_inv hm2
 obtain ⟨us,φy,φ4,hU,hy,hUF,hrl,e3⟩:=hrl
 obtain ⟨rfl,e4⟩:=RL.nil_inv hrl
 have eφ:∀ b,φ b=dz_ S b+φx b+(dz_ U b+φy b):=fun b=>by rw [e1,e3,e4];omega
 refine (h w S xs.length vals U ys.length us i hS hU (fun b hb=>by have:=h1 b;have:=eφ b;omega) hi (hx.one (codedD _)) (hy.one (codedD _)) hb).mono ?_
 rintro e' w' ⟨R,rfl,hR,hg,hRb⟩
 have hx':RL E w F (bJ_ m1.sub t (xs.take i)++bJ_ m1.sub t (xs.drop i)) vals φx:=by rw [←ds_,List.take_append_drop];exact hx
 obtain ⟨va,vb,φa,φb,rfl,ha,hb',e6⟩:=hx'.split
 have hla:va.length=i*t.width:=by rw [←ha.length,dZ_,List.length_take,Nat.min_eq_left hi]
 rw [←hla,List.take_left,List.drop_left] at hR
 have hz:RL E w F (bJ_ m1.sub t (xs.take i)++bJ_ m2.sub t ys++bJ_ m1.sub t (xs.drop i)) (va++us++vb) (fun b=>φa b+φy b+φb b) :=
  (ha.append hy (ψ:=fun b=>φa b+φy b) (fun b=>rfl)).append hb' (fun b=>rfl)
 have hl:(xs.take i++ys++xs.drop i).length=xs.length+ys.length:=by simp;omega
 have he:∀ b,dz_ S b+(φa b+φy b+φb b)≤φ b:=fun b=>by have:=eφ b;have:=e6 b;omega
 by_cases hd:m1 = .d∧m2 = .d
 · obtain ⟨rfl,rfl⟩:=hd
   have hz':RL E w F (bJ_ .d t (xs.take i++ys++xs.drop i)) (va++us++vb) (fun b=>φa b+φy b+φb b):=by
    rw [ds_,ds_];exact hz
   obtain ⟨φ',k1,k2⟩:=n9_ (S:=S) (R:=R) h1 low hSF hz' he (by rw [hl];exact hR) hg hRb
   exact ⟨R,φ',rfl,k1,k2⟩
 · have hb2:M.both m1 m2 = .s:=by cases m1<;>cases m2<;>first|rfl|exact absurd rfl hm1|exact absurd rfl hm2|exact absurd ⟨rfl,rfl⟩ hd
   rw [hb2]
   obtain ⟨φ',k1,k2⟩:=kf_ (S:=S) (R:=R) (t:=t) (zs:=xs.take i++ys++xs.drop i) h1 low hSF hz (by rw [List.map_append,List.map_append,eS_,eS_,eS_,ds_,ds_]) he (by rw [hl];exact hR) hg hRb
   exact ⟨R,φ',rfl,k1,k2⟩
theorem pl_ [ap_] {f:FuncId} {t:TC} {m:M} (hm0:m ≠ .v) (h:DelM E.P f (E.eid t) t.width) {xs:List (El t)} {i j:Nat} (hij:i≤j) (hj:j≤xs.length) :
  eE_ E f [.sl m t xs,.i .i64 i,.i .i64 j] (.sl (M.both m m) t (xs.take i++xs.drop j)) [] [.o,.v,.v]:=by
 intro w F Vs φ hrl h1 hlow _
 have low:∀ b,φ b≠0→F b∧b<w.heap.size:=hrl.low
 obtain ⟨S,_,rfl⟩:=hrl.len_inv
 replace hrl:=hrl.own_inv hm0
 obtain ⟨vals,φx,φ2,hS,hx,hSF,hrl,e1⟩:=hrl
 obtain ⟨I,_,rfl⟩:=hrl.len_inv
 replace hrl:=hrl.int_inv
 obtain ⟨rfl,hrl⟩:=hrl
 obtain ⟨J,_,rfl⟩:=hrl.len_inv
 replace hrl:=hrl.int_inv
 obtain ⟨rfl,hrl⟩:=hrl
 obtain ⟨rfl,e4⟩:=RL.nil_inv hrl
 have eφ:∀ b,φ b=dz_ S b+φx b:=fun b=>by rw [e1,e4];omega
 refine (h w S xs.length vals i j hS hij hj (hx.one (codedD _))).mono ?_
 rintro e' w' ⟨R,rfl,hR,hg,hRb⟩
 have hx':RL E w F (bJ_ m.sub t (xs.take i)++(bJ_ m.sub t ((xs.drop i).take (j - i))++bJ_ m.sub t (xs.drop j))) vals φx:=by
  rw [←ds_,←ds_]
  have:xs.drop j=(xs.drop i).drop (j - i):=by rw [List.drop_drop];congr 1;omega
  rw [this,List.take_append_drop,List.take_append_drop];exact hx
 obtain ⟨va,vc,φa,φc,rfl,ha,hc,e6⟩:=hx'.split
 obtain ⟨vm,vb,φm,φb,rfl,hm,hb',e7⟩:=hc.split
 have hla:va.length=i*t.width:=by rw [←ha.length,dZ_,List.length_take,Nat.min_eq_left (by omega)]
 have hlm:vm.length=(j - i)*t.width:=by rw [←hm.length,dZ_,List.length_take,List.length_drop,Nat.min_eq_left (by omega)]
 have hlj:(va++vm).length=j*t.width:=by rw [List.length_append,hla,hlm,←Nat.add_mul];congr 1;omega
 rw [←hla,List.take_left,←hlj,←List.append_assoc,List.drop_left] at hR
 have hz:RL E w F (bJ_ m.sub t (xs.take i)++bJ_ m.sub t (xs.drop j)) (va++vb) (fun b=>φa b+φb b):=ha.append hb' (fun b=>rfl)
 have hl:(xs.take i++xs.drop j).length=xs.length - (j - i):=by simp;omega
 have he:∀ b,dz_ S b+(φa b+φb b)≤φ b:=fun b=>by have:=eφ b;have:=e6 b;have:=e7 b;omega
 cases m with
 |v=>exact absurd rfl hm0
 |d=>
  have hz':RL E w F (bJ_ .d t (xs.take i++xs.drop j)) (va++vb) (fun b=>φa b+φb b):=by
   rw [ds_];exact hz
  obtain ⟨φ',k1,k2⟩:=n9_ (S:=S) (R:=R) h1 low hSF hz' he (by rw [hl];exact hR) hg hRb
  exact ⟨R,φ',rfl,k1,k2⟩
 |s=>
  obtain ⟨φ',k1,k2⟩:=kf_ (S:=S) (R:=R) (t:=t) (zs:=xs.take i++xs.drop j) h1 low hSF hz (by rw [List.map_append,eS_,eS_,ds_]) he (by rw [hl];exact hR) hg hRb
  exact ⟨R,φ',rfl,k1,k2⟩
theorem nDel_ok [ap_] {f:FuncId} {t:TC} {m:M} (hm0:m ≠ .v) (h:DelM E.P f (E.eid t) t.width) {xs r:List (El t)} {i j:Int} (hr:k7_ xs i j=some r) :
  eE_ E f [.sl m t xs,.i .i64 i,.i .i64 j] (.sl (M.both m m) t r) [] [.o,.v,.v]:=by
 unfold k7_ at hr
 by_cases hc:0≤i∧i≤j∧j≤(xs.length:Int)
 · obtain ⟨h1,h2,h3⟩:=hc
   obtain ⟨i,rfl⟩:=Int.eq_ofNat_of_zero_le h1
   obtain ⟨j,rfl⟩:=Int.eq_ofNat_of_zero_le (Int.le_trans h1 h2)
   simp only [h1,h2,h3,decide_true,Bool.and_true,cond_true,Option.some.injEq] at hr
   subst hr
   exact pl_ hm0 h (by omega) (by omega)
 · have:(decide (0≤i)&&(decide (i≤j)&&decide (j≤(xs.length:Int))))=false:=by
    rw [Bool.eq_false_iff];intro h;simp only [Bool.and_eq_true,decide_eq_true_eq] at h;exact hc h
   rw [this] at hr;cases hr
theorem nc_ [ap_] {f:FuncId} {t:TC} {m1 m2:M} (hm1:m1 ≠ .v) (hm2:m2 ≠ .v) (h:InsM E.P f (E.eid t) t.width t.bytes) {xs ys r:List (El t)} {i:Int} (hr:gz_ t.bytes xs i ys=some r) :
  eE_ E f [.sl m1 t xs,.i .i64 i,.sl m2 t ys] (.sl (M.both m1 m2) t r) [] [.o,.v,.o]:=by
 unfold gz_ at hr
 by_cases hc:0≤i∧i≤(xs.length:Int)
 · obtain ⟨h1,h2⟩:=hc
   obtain ⟨i,rfl⟩:=Int.eq_ofNat_of_zero_le h1
   by_cases hb:(xs.length+ys.length)*t.bytes≤140737488355328
   · simp only [h1,h2,hb,decide_true,Bool.and_true,cond_true,Option.some.injEq] at hr
     subst hr
     exact o3_ hm1 hm2 h (by omega) hb
   · simp [h1,h2,hb] at hr
 · have:(decide (0≤i)&&decide (i≤(xs.length:Int)))=false:=by
    rw [Bool.eq_false_iff];intro h;simp only [Bool.and_eq_true,decide_eq_true_eq] at h;exact hc h
   rw [this] at hr;cases hr
end Go.Pi
end
section
namespace Go.Proofs
open Go.Shelf Go.RowKit Go.Lib Go.Pi
section
variable {P:Program}
theorem iG_ {ops:Array Oper} {o:Oper} {a:Act} {w:World} {K:Act→World→Prop} {Q:Exit→Act→World→Prop} {E:Prop}
  (hg:o.guard=none) (d x:Operand) (dT sT:TypeId) (hop:o.op=Op.call { callee:=Callee.builtin Builtin.append,args:=#[d,x],argTypes:=#[dT,sT] })
  (v u:Value) (hd:a.eval d=v) (hx:a.eval x=u) {v':Value} {w':World} (hr:(Builtin.append_ #[dT,sT] o.type #[v,u]).run P w = .ok v' w') (hK:K (a.put o.dst v') w') :
  if Region.wanted o (yielded ops a.tmps)=true then Oper.wp P o a w K Q else E:=by
 have hw:Region.wanted o (yielded ops a.tmps)=true:=by simp [Region.wanted,hg]
 rw [if_pos hw]
 unfold Oper.wp
 simp [execOp,hop,resolve,invoke,builtin,hd,hx,hr,Result.andThen]
 exact hK
theorem oJ_ (w:World) {ops:Array Oper} {g3_:List Oper} {o:Oper} {a:Act} {Q:Exit→Act→World→Prop} (hgd:o.guard=none) (d:Operand) (t:TypeId)
  (ho:o.op = .call { callee:=.builtin .clear,args:=#[d],argTypes:=#[t] }) (v:Value) (hd:a.eval d=v) {v':Value} {w':World}
  (hr:(Builtin.clear_ #[t] o.type #[v]).run P w = .ok v' w') (h:wpList P ops Q g3_ (a.put o.dst v') w'):wpList P ops Q (o::g3_) a w :=
 wpList_plain hgd fun _ hK=>by
  unfold Oper.wp execOp
  simp only [ho,resolve,invoke,builtin,Sem.run_bind,Sem.run_pure,Result.andThen_ok,List.map_toArray,List.map_cons,List.map_nil,hd,hr]
  exact hK _ _ h
theorem m8_ (w:World) (t e ty:TypeId) (z:Value) (ht:P.underlying t=some (.slice e)) (hv:∀ w,(zeroValue e).run P w = .ok z w) (g o n c:Nat) (hn:0<n) (cur:Array Value) (T:TypeId) (hg:w.heap[g]?=some (.cells cur T (0,0)))
  (hfit:o+(Builtin.zeroCells z.cells n).toList.length≤cur.size) (h1:∀ v ∈ (Builtin.zeroCells z.cells n).toList,v.oneCell'=true) :
  (Builtin.clear_ #[t] ty #[.slice (some ⟨g,o,none⟩) n c]).run P w = .ok (.tuple #[]) (w.setRow g (cur.toList.take o++(Builtin.zeroCells z.cells n).toList++cur.toList.drop (o+(Builtin.zeroCells z.cells n).toList.length)).toArray):=by
 have hst:=run_storeCells_at P g o T (Builtin.zeroCells z.cells n).toList 0 cur w hg (by simpa using hfit) h1
 obtain ⟨m,rfl⟩:∃ m,n=m+1:=⟨n - 1,by omega⟩
 simp only [Builtin.clear_,run_underlying ht,Sem.run_bind,Result.andThen_ok,hv]
 simp only [List.getElem?_toArray,List.getElem?_cons_zero,Sem.run_bind,run_underlying ht,Result.andThen_ok,hv,hst,Nat.add_zero,Sem.run_pure]
end
theorem e3_ (w:World) {P:Program} {ops:Array Oper} {g3_:List Oper} {o:Oper} {a:Act} {Q:Exit→Act→World→Prop} (hgd:o.guard=none) (d s:Operand) (t t':TypeId)
  (ho:o.op = .call { callee:=.builtin .copy,args:=#[d,s],argTypes:=#[t,t'] }) (v u:Value) (hd:a.eval d=v) (hs:a.eval s=u) {v':Value} {w':World}
  (hr:(Builtin.copy_ #[t,t'] o.type #[v,u]).run P w = .ok v' w') (h:wpList P ops Q g3_ (a.put o.dst v') w'):wpList P ops Q (o::g3_) a w :=
 wpList_plain hgd fun _ hK=>by
  unfold Oper.wp execOp
  simp only [ho,resolve,invoke,builtin,Sem.run_bind,Sem.run_pure,Result.andThen_ok,List.map_toArray,List.map_cons,List.map_nil,hd,hs,hr]
  exact hK _ _ h
theorem ej_ {P:Program} {ops:Array Oper} {o:Oper} {a:Act} {w:World} {K:Act→World→Prop} {Q:Exit→Act→World→Prop} {E:Prop}
  (hg:o.guard=none) (d x:Operand) (dT sT:TypeId) (hop:o.op=Op.call { callee:=Callee.builtin Builtin.copy,args:=#[d,x],argTypes:=#[dT,sT] })
  (v u:Value) (hd:a.eval d=v) (hx:a.eval x=u) {v':Value} {w':World} (hr:(Builtin.copy_ #[dT,sT] o.type #[v,u]).run P w = .ok v' w') (hK:K (a.put o.dst v') w') :
  if Region.wanted o (yielded ops a.tmps)=true then Oper.wp P o a w K Q else E:=by
 have hw:Region.wanted o (yielded ops a.tmps)=true:=by simp [Region.wanted,hg]
 rw [if_pos hw]
 unfold Oper.wp
 simp [execOp,hop,resolve,invoke,builtin,hd,hx,hr,Result.andThen]
 exact hK
theorem dT_ {P:Program} (w:World) (dT sT ty elem:TypeId) (k:Nat) (g o dLen dCap:Nat) (a:Addr) (sLen sCap:Nat) (cur:Array Value) (t:TypeId) (cs:List Value)
  (hu:P.underlying dT=some (.slice elem)) (hs:(P.info? elem).map (·.size)=some k)
  (hg:w.heap[g]?=some (.cells cur t (0,0))) (hn:cs.length=Nat.min sLen dLen*k)
  (hsrc:∀ j v,cs[j]?=some v→w.cell? (a.add j)=some v) (hfit:o+cs.length≤cur.size) (h1:∀ v ∈ cs,v.oneCell'=true) :
  (Builtin.copy_ #[dT,sT] ty #[.slice (some ⟨g,o,none⟩) dLen dCap,.slice (some a) sLen sCap]).run P w =
   .ok (goInt (Nat.min sLen dLen)) (w.setRow g (cur.toList.take o++cs++cur.toList.drop (o+cs.length)).toArray):=by
 have hl:=run_loadCells_list (P:=P) w a cs hsrc
 have hst:=run_storeCells_at P g o t cs 0 cur w hg (by simpa using hfit) h1
 cases hq:P.info? elem with
 |none=>simp [hq] at hs
 |some i=>
  have hi:i.size=k:=by simpa [hq] using hs
  simp [Builtin.copy_,run_underlying hu,Builtin.lenOf,Builtin.firstCells,sizeOf,typeInfo,hq,hi,←hn,hl,hst]
theorem zc_one (cs:Array Value) (h:cs.toList.all Value.oneCell'=true) (n:Nat):∀ v ∈ (Builtin.zeroCells cs n).toList,v.oneCell'=true:=by
 intro v hv
 simp only [Builtin.zeroCells,Array.toList_map,List.mem_map,Array.toList_range,List.mem_range] at hv
 obtain ⟨x,hx,rfl⟩:=hv
 have h0:0<cs.size:=Nat.pos_of_mul_pos_left (by omega:0<n*cs.size)
 have:x % cs.size<cs.size:=Nat.mod_lt _ h0
 rw [getElem!_pos cs _ this]
 exact List.all_eq_true.1 h _ (by simp)
theorem k1_ {w:World} {e:TypeId} {K:Nat} {S:Value} {n:Nat} {vals:List Value} (h:w.ownsRow 0 e K S n vals):∀ b,dz_ S b≠0→b<w.heap.size:=by
 intro b hb
 rcases h.2 with ⟨rfl,_⟩|⟨g,cap,cur,rfl,_,hg,_⟩
 · simp [dz_] at hb
 · have:g=b:=by simp only [dz_] at hb;exact Classical.byContradiction fun h=>hb (if_neg h)
   subst this
   exact (Array.getElem?_eq_some_iff.1 hg).1
theorem hY_ (w:World) (g:Nat) (A:Array Value):w.heap.size≤(w.drew.setRow g A).heap.size:=by
 have:(w.drew.setRow g A).heap.size=w.drew.heap.size:=by simp [World.setRow]
 rw [this];exact Nat.le_refl _
theorem eq_ {w:World} {e:TypeId} {v:Value} {n:Nat} {xs:List Value}:w.ownsRow 0 e 1 v n xs ↔
  (xs.length=n∧(v = .slice none 0 0∧n=0∨∃ g cap cur,v = .slice (some ⟨g,0,none⟩) n cap∧0≤g∧w.heap[g]?=some (.cells cur e (0,0))∧n≤cap∧cap≤maxLen∧cur.size=cap∧cur.toList.take n=xs)):=by
 unfold World.ownsRow
 simp only [Nat.mul_one]
end Go.Proofs
end
section
namespace Go.Proofs
open Go.Shelf Go.RowKit Go.Lib Go.Pi
set_option maxRecDepth 1000000 in
theorem Delete122 (w:World) (g n c i j:Nat) (cur:Array Value) (hg:w.heap[g]?=some (.cells cur 134 (0,0))) (hs:cur.size=c*6) (hn:n≤c) (hc:c≤9223372036854775807) (hij:i<j) (hj:j≤n)
  (h1:∀ v ∈ cur.toList.take (n*6),v.oneCell'=true) :
  Calls Tryz.prog 122 #[.slice (some ⟨g,0,none⟩) n c,.int .i64 i,.int .i64 j] w fun e w'=>e = .returned (.slice (some ⟨g,0,none⟩) (n - (j - i)) c) ∧
   ∃ A,w'=w.drew.setRow g A∧A.size=cur.size∧A.toList.take ((n - (j - i))*6)=(cur.toList.take (n*6)).take (i*6)++(cur.toList.take (n*6)).drop (j*6):=by
 have hic:i≤c:=by omega
 have hjc:j≤c:=by omega
 obtain ⟨news,hnews⟩:∃ news,news=(cur.toList.take (n*6)).drop (j*6):=⟨_,rfl⟩
 have hlen:news.length=(n - j)*6:=by rw [hnews,List.length_drop,List.length_take,Array.length_toList,hs];omega
 have hgd:w.drew.heap[g]?=some (.cells cur 134 (0,0)):=hg
 obtain ⟨A,hA,hsrc⟩:∃ A:Addr,(if c=j then some (⟨g,0,none⟩:Addr) else some ⟨g,j*6,none⟩)=some A∧Hid (∀ t u,news[t]?=some u→w.drew.cell? (A.add t)=some u):=by
  by_cases h:c=j
  · refine ⟨⟨g,0,none⟩,by simp [h],fun t u hu => ?_⟩
    have h0:news.length=0:=by rw [hlen];omega
    rw [List.length_eq_zero_iff.1 h0] at hu
    simp at hu
  · refine ⟨⟨g,j*6,none⟩,by simp [h],fun t u hu => ?_⟩
    have ht:=(List.getElem?_eq_some_iff.1 hu).1
    rw [hlen] at ht
    rw [hnews,List.getElem?_drop,List.getElem?_take_of_lt (by omega),Array.getElem?_toList] at hu
    rw [Addr.add_lit]
    simp only [World.cell?,hgd]
    exact hu
 obtain ⟨i0,hi0⟩:=Option.isSome_iff_exists.1 (show (Tryz.prog.info? 134).isSome=true by kernel_rfl)
 have hz0:i0.size=6:=by
  have:(Tryz.prog.info? 134).map (·.size)=some 6:=by kernel_rfl
  rw [hi0] at this
  simpa using this
 have hr1:∀ ty,(Builtin.append_ #[129,129] ty #[.slice (some ⟨g,0,none⟩) i c,.slice (some A) (n - j) (c - j)]).run Tryz.prog w.drew = .ok (.slice (some ⟨g,0,none⟩) (i+(n - j)) c) (w.drew.setRow g (cur.toList.take (i*6)++news++cur.toList.drop (i*6+news.length)).toArray):=fun ty=>by
  have:=run_append_room (P:=Tryz.prog) w.drew 129 ty 134 i0 Tryz.underlying129 hi0 g i c cur hgd A (n - j) (c - j) news (by rw [hlen,hz0]) hsrc.out (fun u hu=>h1 u (by rw [hnews] at hu;exact List.mem_of_mem_drop hu)) (by omega) (by rw [hz0,hlen,hs];omega)
  rw [hz0] at this
  exact this
 obtain ⟨B,hB⟩:∃ B,B=(cur.toList.take (i*6)++news++cur.toList.drop (i*6+news.length)).toArray:=⟨_,rfl⟩
 have hBs:B.size=cur.size:=by rw [hB];simp [hlen,hs];omega
 have hBt:B.toList.take ((i+(n - j))*6)=(cur.toList.take (n*6)).take (i*6)++news:=by
  rw [hB]
  simp only [List.toList_toArray]
  rw [List.take_append_of_le_length (by simp [hlen,hs];omega),List.take_of_length_le (by simp [hlen,hs];omega),List.take_take,Nat.min_eq_left (by omega)]
 have hgB:(w.drew.setRow g B).heap[g]?=some (.cells B 134 (0,0)):=setRow_heap _ _ _ _ _ _ hgd
 obtain ⟨Z,hZ⟩:∃ Z,Z=(Builtin.zeroCells (Value.agg #[.int .i64 0,.int .i64 0,.int .i64 0,.string ByteArray.empty,.slice none 0 0,.slice none 0 0]).cells (n - (i+(n - j)))).toList:=⟨_,rfl⟩
 have hZl:Z.length=(n - (i+(n - j)))*6:=by rw [hZ];simp [Builtin.zeroCells,Value.cells]
 have hcl:∀ ty,(Builtin.clear_ #[129] ty #[.slice (some ⟨g,(i+(n - j))*6,none⟩) (n - (i+(n - j))) (c - (i+(n - j)))]).run Tryz.prog (w.drew.setRow g B) = .ok (.tuple #[]) ((w.drew.setRow g B).setRow g (B.toList.take ((i+(n - j))*6)++Z++B.toList.drop ((i+(n - j))*6+Z.length)).toArray):=fun ty=>by
  rw [hZ]
  refine m8_ _ 129 134 ty _ Tryz.underlying129 Tryz.zeroValue134 g _ _ _ (by omega) B 134 hgB (by
   have e:=hZl
   rw [hZ] at e
   exact Nat.le_trans (Nat.le_of_eq (congrArg (fun q=>(i+(n - j))*6+q) e)) (by first|(rw [hBs,hs,←Nat.add_mul];exact Nat.mul_le_mul_right _ (by omega))|(rw [hBs,hs];omega))) (fun v hv => ?_)
  exact zc_one _ (by kernel_rfl) _ v hv
 rw [←hB] at hr1
 obtain ⟨Z',hZ'⟩:∃ Z',Z'=(B.toList.take ((i+(n - j))*6)++Z++B.toList.drop ((i+(n - j))*6+Z.length)).toArray:=⟨_,rfl⟩
 have kZ:Hid (Z'.size=cur.size∧Z'.toList.take ((i+(n - j))*6)=(cur.toList.take (n*6)).take (i*6)++(cur.toList.take (n*6)).drop (j*6)):=by
  refine ⟨by rw [hZ'];simp [hZl,hBs,hs];omega,?_⟩
  rw [hZ',←hnews,←hBt]
  simp only [List.toList_toArray,List.append_assoc]
  rw [List.take_append_of_le_length (by simp [hBs,hs];omega),List.take_take,Nat.min_self]
 rw [←hZ'] at hcl
 clear hsrc h1 hB hBs hBt hgB hZ hZl hZ' hnews hlen hgd hg
 have hw1:¬ ((i:Int)=(j:Int)):=by omega
 have mixed:Tryz.prog.follows .mixedOrders=true:=by kernel_rfl
 go_enter Tryz.func122,Tryz.ntmps122
 go_wp2_with fail
 go_region_law_o (refine iG_ rfl (.tmp 22) (.tmp 25) 129 129 rfl _ _ (by simp [Act.eval,Act.put]) (by simp [Act.eval,Act.put,hA]) (hr1 _) ?_)
 go_wp2_with fail
 go_ret
 exact ⟨by rw [show n - (j - i)=i+(n - j) by omega];rfl,Z',by rw [setRow_setRow],kZ.out.1,by rw [show n - (j - i)=i+(n - j) by omega];exact kZ.out.2⟩
set_option maxRecDepth 1000000 in
theorem pC_ (w:World) (S:Value) (n i:Nat) (vals:List Value) (hS:w.ownsRow 0 134 6 S n vals) (hi:i≤n) :
  Calls Tryz.prog 122 #[S,.int .i64 i,.int .i64 i] w fun e w'=>e = .returned S∧w'=w:=by
 rcases hS.2 with ⟨rfl,rfl⟩|⟨g,c,cur,rfl,-,hg,hnc,hcm,hcs,htake⟩
 · have hi0:i=0:=by omega
   subst hi0
   clear hS
   go_enter Tryz.func122,Tryz.ntmps122
   go_wp2_with fail
   all_goals (go_ret;exact ⟨rfl,rfl⟩)
 · unfold maxLen at hcm
   have hic:i≤c:=by omega
   clear hS hg hcs htake
   go_enter Tryz.func122,Tryz.ntmps122
   go_wp2_with fail
   all_goals (go_ret;exact ⟨rfl,rfl⟩)
theorem delM122:DelM Tryz.prog 122 134 6:=by
 intro w S n vals i j hS hij hj h1
 by_cases e:i=j
 · subst e
   refine (pC_ w S n i vals hS hj).mono ?_
   rintro e w' ⟨rfl,rfl⟩
   refine ⟨S,rfl,by rw [Nat.sub_self,Nat.sub_zero,List.take_append_drop];exact hS,⟨rfl,rfl,rfl,Nat.le_refl _,fun _ _ _=>rfl⟩,fun b hb=>⟨.inr hb,k1_ hS b hb⟩⟩
 · rcases hS.2 with ⟨rfl,rfl⟩|⟨g,c,cur,rfl,-,hg,hnc,hcm,hcs,htake⟩
   · omega
   · refine (Delete122 w g n c i j cur hg hcs hnc (by unfold maxLen at hcm;omega) (by omega) hj (by rw [htake];exact h1)).mono ?_
     rintro e w' ⟨rfl,A,rfl,hA,ht⟩
     rw [htake] at ht
     have hgd:w.drew.heap[g]?=some (.cells cur 134 (0,0)):=hg
     have hA2:=setRow_heap w.drew g cur A _ _ hgd
     refine ⟨_,rfl,⟨by rw [←ht];simp [hA,hcs];omega,.inr ⟨g,c,A,rfl,Nat.zero_le _,hA2,by omega,hcm,by rw [hA,hcs],ht⟩⟩,⟨rfl,rfl,rfl,hY_ w g A,fun b _ hn => ?_⟩,fun b hb=>⟨.inr hb,?_⟩⟩
     · rw [setRow_other _ _ _ _ (fun e=>hn (by subst e;simp [dz_]))];rfl
     · have:g=b:=by simp only [dz_] at hb;exact Classical.byContradiction fun h=>hb (if_neg h)
       subst this
       exact (Array.getElem?_eq_some_iff.1 hA2).1
end Go.Proofs
namespace Go.Pi
open Go.Proofs
theorem bo_.ok (n:Nat) (_:CxOk E (cx n bo_.d.nt)) (_:KPar (cx n bo_.d.nt)):bo_.d.Ok E (bo_.F (n+1)):=fun _ _ h=>nDel_ok (t:=.ikeyed) (m:=.s) (by decide) delM122 h
end Go.Pi
end
