/- FnEvents: a drawn event is read from its text as it was; a text that is read is that of the event. No condition. Text 5 of 7. -/
import Derived.Test.YtmgcfhlcdhlafaaGreatDoorEvD
import Derived.Shelf.RegionOpenPlain
import Derived.WalkKit
import Derived.Deep.RegionLaw
import Derived.Lib.Walk
import Derived.Lib.SliceRun
import Derived.Laws.CopyRow
import Derived.RowKit
import Derived.Lib.Overlaps
import Derived.Lib.AppendZerosOnto
import Derived.Laws.NewBlocks
import Derived.Laws.Externs
import Derived.Shelf.Strconv.AtoiAll
import Derived.Shelf.Strings.Search2
import Derived.Shelf.Strings.OnBuilder
import Derived.Shelf.Strings.Replace
import Derived.Shelf.Strings.Split
import Derived.ChangeArms
import Derived.DataReads
import Derived.ChangeOld
import Derived.Test.YtmgcfhlcdhlafaaGreatDoorRows
import Derived.ProofKit
import Derived.OpenShut
import Derived.JoinedOf
import Derived.JoinedAt
import Derived.ChangeVars
import Derived.ChangeMaps5
import Derived.Test.YtmgcfhlcdhlafaaGreatDoorTie
import Derived.Test.YtmgcfhlcdhlafaaGreatDoorCards
import Derived.IntWalk
import Derived.Lib.ItoaLen
set_option linter.unusedVariables false
set_option maxRecDepth 100000
set_option linter.unusedSimpArgs false
section
namespace Go.Pi
def aa_.p (m:M):List Pat:=[.i .i64,.i .i64,.s,.sl m .iJson,.sl m .str]
abbrev aa_.c:Type:=Int × Int × Bs × (List aa_) × (List Bs) × Unit
def aa_.of:aa_.c→aa_:=fun (x0,x1,x2,x3,x4,_)=>⟨x0,x1,x2,x3,x4⟩
def aa_.to (s:aa_):aa_.c:=(s.kind,s.n_,s.s,s.list,s.names,())
def TOp.p (m:M):List Pat:=[.i .i64,.sl m .str,.i .i64,.i .i64,.s,.sl m .iJson,.sl m .str]
abbrev TOp.c:Type:=Int × (List Bs) × Int × Int × Bs × (List aa_) × (List Bs) × Unit
def TOp.of:TOp.c→TOp:=fun (x0,x1,x2,x3,x4,x5,x6,_)=>⟨x0,x1,⟨x2,x3,x4,x5,x6⟩⟩
def TOp.to (s:TOp):TOp.c:=(s.kind,s.way,s.value.kind,s.value.n_,s.value.s,s.value.list,s.value.names,())
def aX_.p (m:M):List Pat:=[.i .i64,.i .i64,.i .i64,.i .i64,.i .i64,.s,.sl m .iJson,.sl m .str,.sl m .iOp]
abbrev aX_.c:Type:=Int × Int × Int × Int × Int × Bs × (List aa_) × (List Bs) × (List TOp) × Unit
def aX_.of:aX_.c→aX_:=fun (x0,x1,x2,x3,x4,x5,x6,x7,x8,_)=>⟨x0,x1,x2,⟨x3,x4,x5,x6,x7⟩,x8⟩
def aX_.to (s:aX_):aX_.c:=(s.kind,s.version,s.base,s.doc.kind,s.doc.n_,s.doc.s,s.doc.list,s.doc.names,s.ops,())
def af_.p (m:M):List Pat:=[.sl m .u8,.i .i64,.i .i64]
abbrev af_.c:Type:=(List Int) × Int × Int × Unit
def af_.of:af_.c→af_:=fun (x0,x1,x2,_)=>⟨x0,x1,x2⟩
def af_.to (s:af_):af_.c:=(s.b,s.i,s.h,())
def aY_.p (m:M):List Pat:=[.sl m .int]
abbrev aY_.c:Type:=(List Int) × Unit
def aY_.of:aY_.c→aY_:=fun (x0,_)=>⟨x0⟩
def aY_.to (s:aY_):aY_.c:=(s.cols,())
def TRow.p (m:M):List Pat:=[.i .i64,.sl m .int]
abbrev TRow.c:Type:=Int × (List Int) × Unit
def TRow.of:TRow.c→TRow:=fun (x0,x1,_)=>⟨x0,x1⟩
def TRow.to (s:TRow):TRow.c:=(s.id_,s.cells,())
def ax_.p (m:M):List Pat:=[.sl m .int,.i .i64,.sl m .s_iRow]
abbrev ax_.c:Type:=(List Int) × Int × (List (List TRow)) × Unit
def ax_.of:ax_.c→ax_:=fun (x0,x1,x2,_)=>⟨⟨x0⟩,x1,x2⟩
def ax_.to (s:ax_):ax_.c:=(s.schema.cols,s.version,s.tables,())
def b3_.p (m:M):List Pat:=[.i .i64,.i .i64,.i .i64]
abbrev b3_.c:Type:=Int × Int × Int × Unit
def b3_.of:b3_.c→b3_:=fun (x0,x1,x2,_)=>⟨x0,x1,x2⟩
def b3_.to (s:b3_):b3_.c:=(s.col,s.op,s.v,())
def ay_.p (m:M):List Pat:=[.i .i64,.sl m .iCond,.i .i64,.b,.i .i64,.sl m .int,.b,.i .i64,.i .i64]
abbrev ay_.c:Type:=Int × (List b3_) × Int × Bool × Int × (List Int) × Bool × Int × Int × Unit
def ay_.of:ay_.c→ay_:=fun (x0,x1,x2,x3,x4,x5,x6,x7,x8,_)=>⟨x0,x1,x2,x3,x4,x5,x6,x7,x8⟩
def ay_.to (s:ay_):ay_.c:=(s.table,s.where_,s.order,s.down,s.first,s.show_,s.kids,s.kidTable,s.kidCol,())
def TKid.p (m:M):List Pat:=[.i .i64,.i .i64]
abbrev TKid.c:Type:=Int × Int × Unit
def TKid.of:TKid.c→TKid:=fun (x0,x1,_)=>⟨x0,x1⟩
def TKid.to (s:TKid):TKid.c:=(s.id_,s.n_,())
def bn_.p (m:M):List Pat:=[.i .i64,.sl m .iCond,.i .i64,.b,.i .i64,.sl m .int,.b,.i .i64,.i .i64,.sl m .iRow,.sl m .iKid]
abbrev bn_.c:Type:=Int × (List b3_) × Int × Bool × Int × (List Int) × Bool × Int × Int × (List TRow) × (List TKid) × Unit
def bn_.of:bn_.c→bn_:=fun (x0,x1,x2,x3,x4,x5,x6,x7,x8,x9,x10,_)=>⟨⟨x0,x1,x2,x3,x4,x5,x6,x7,x8⟩,x9,x10⟩
def bn_.to (s:bn_):bn_.c:=(s.q.table,s.q.where_,s.q.order,s.q.down,s.q.first,s.q.show_,s.q.kids,s.q.kidTable,s.q.kidCol,s.rows,s.kids,())
def cp_.p (m:M):List Pat:=[.i .i64,.sl m .iCond,.i .i64,.b,.i .i64,.sl m .int,.b,.i .i64,.i .i64,.sl m .iRow,.sl m .iKid,.i .i64,.i .i64,.sl m .iCond,.i .i64,.b,.i .i64,.sl m .int,.b,.i .i64,.i .i64,.sl m .iRow,.sl m .iKid,.i .i64,.b]
abbrev cp_.c:Type:=Int × (List b3_) × Int × Bool × Int × (List Int) × Bool × Int × Int × (List TRow) × (List TKid) × Int × Int × (List b3_) × Int × Bool × Int × (List Int) × Bool × Int × Int × (List TRow) × (List TKid) × Int × Bool × Unit
def cp_.of:cp_.c→cp_:=fun (x0,x1,x2,x3,x4,x5,x6,x7,x8,x9,x10,x11,x12,x13,x14,x15,x16,x17,x18,x19,x20,x21,x22,x23,x24,_)=>⟨⟨⟨x0,x1,x2,x3,x4,x5,x6,x7,x8⟩,x9,x10⟩,x11,⟨⟨x12,x13,x14,x15,x16,x17,x18,x19,x20⟩,x21,x22⟩,x23,x24⟩
def cp_.to (s:cp_):cp_.c:=(s.view.q.table,s.view.q.where_,s.view.q.order,s.view.q.down,s.view.q.first,s.view.q.show_,s.view.q.kids,s.view.q.kidTable,s.view.q.kidCol,s.view.rows,s.view.kids,s.version,s.last.q.table,s.last.q.where_,s.last.q.order,s.last.q.down,s.last.q.first,s.last.q.show_,s.last.q.kids,s.last.q.kidTable,s.last.q.kidCol,s.last.rows,s.last.kids,s.lastVersion,s.began,())
def TMut.p (m:M):List Pat:=[.i .i64,.i .i64,.i .i64,.sl m .int]
abbrev TMut.c:Type:=Int × Int × Int × (List Int) × Unit
def TMut.of:TMut.c→TMut:=fun (x0,x1,x2,x3,_)=>⟨x0,x1,⟨x2,x3⟩⟩
def TMut.to (s:TMut):TMut.c:=(s.kind,s.table,s.row.id_,s.row.cells,())
def aV_.p (m:M):List Pat:=[.i .i64,.b,.b,.i .i64,.sl m .int,.i .i64,.sl m .int]
abbrev aV_.c:Type:=Int × Bool × Bool × Int × (List Int) × Int × (List Int) × Unit
def aV_.of:aV_.c→aV_:=fun (x0,x1,x2,x3,x4,x5,x6,_)=>⟨x0,x1,x2,⟨x3,x4⟩,⟨x5,x6⟩⟩
def aV_.to (s:aV_):aV_.c:=(s.table,s.had,s.has,s.old.id_,s.old.cells,s.new.id_,s.new.cells,())
def aB_.p (m:M):List Pat:=[.s,.b]
abbrev aB_.c:Type:=Bs × Bool × Unit
def aB_.of:aB_.c→aB_:=fun (x0,x1,_)=>⟨x0,x1⟩
def aB_.to (s:aB_):aB_.c:=(s.text,s.bad,())
def a4_.p (m:M):List Pat:=[.s,.i .i64,.b,.i .i64]
abbrev a4_.c:Type:=Bs × Int × Bool × Int × Unit
def a4_.of:a4_.c→a4_:=fun (x0,x1,x2,x3,_)=>⟨x0,x1,x2,x3⟩
def a4_.to (s:a4_):a4_.c:=(s.s,s.at_,s.ok,s.left,())
def rd0:RD:=⟨Bool,[.b],fun (a0,_)=>a0,fun r=>(r,())⟩
def f8_.e:FE:=mkE rd0 8 6 1 [.sl .v .u8] [.tmp 2] [] [] [] (un1 f8_)
def od0:OD:=⟨[(0,.view .u8),(3,.k),(4,.k)],(af_.p .v),[.ext]⟩
def od1:OD:=⟨[(0,.view .u8),(3,.k)],[.sl .v .u8,.i .i64],[.ext]⟩
def rd1:RD:=⟨af_,[.bx (af_.p .v)],fun (a0,_)=>(af_.of a0),fun r=>(af_.to r,())⟩
def cb_.e:FE:=mkE rd1 37 32 1 [.sl .v .u8] [.tmp 2] [] [(4,od0)] [(0,od1)] (un1 cb_)
def rd2:RD:=⟨Int × af_,[.i .i64,.bx (af_.p .v)],fun (a0,a1,_)=>(a0,(af_.of a1)),fun (a0,a1)=>(a0,af_.to a1,())⟩
def do_.e:FE:=mkE rd2 84 58 2 [.bx (af_.p .v)] [.tmp 2] [.pb 1 0] [] [] fun n (a0,_)=>do_ n (af_.of a0)
def ah_.e:FE:=mkE rd2 39 37 2 [.bx (af_.p .v),.i .i64] [.tmp 4] [.pb 1 0] [] [] fun n (a0,a1,_)=>ah_ n (af_.of a0) a1
def rd3:RD:=⟨Bool × af_,[.b,.bx (af_.p .v)],fun (a0,a1,_)=>(a0,(af_.of a1)),fun (a0,a1)=>(a0,af_.to a1,())⟩
def cm_.e:FE:=mkE rd3 71 9 2 [.bx (af_.p .v),.i .i64] [.tmp 4] [.pb 1 0] [] [] fun n (a0,a1,_)=>cm_ n (af_.of a0) a1
def rd4:RD:=⟨Bs × af_,[.s,.bx (af_.p .v)],fun (a0,a1,_)=>(a0,(af_.of a1)),fun (a0,a1)=>(a0,af_.to a1,())⟩
def c5_.e:FE:=mkE rd4 60 12 2 [.bx (af_.p .v),.sl .v .str] [.tmp 4] [.pb 1 0] [] [] fun n (a0,a1,_)=>c5_ n (af_.of a0) a1
def bu_.e:FE:=mkE rd2 81 12 2 [.bx (af_.p .v),.sl .v .int] [.tmp 4] [.pb 1 0] [] [] fun n (a0,a1,_)=>bu_ n (af_.of a0) a1
def dc_.e:FE:=mkE rd4 85 6 2 [.bx (af_.p .v)] [.tmp 2] [.pb 1 0] [] [] fun n (a0,_)=>dc_ n (af_.of a0)
def od2:OD:=⟨[(1,.k),(2,.box [.k,.k,.k,.view .iJson,.view .str]),(5,.k)],[.s,.pb 1 0,.i .i64],[.ext,.box (aa_.p .v)]⟩
def od3:OD:=⟨[],[],[.ext]⟩
def rd5:RD:=⟨Int,[.i .i64],fun (a0,_)=>a0,fun r=>(r,())⟩
def cx_.e:FE:=mkE rd5 86 21 1 [.ag (aa_.p .v),.s] [.tmp 4] [] [(3,od2)] [(0,od3)] fun n (a0,a1,_)=>cx_ n (aa_.of a0) a1
def od4:OD:=⟨[(1,.k),(3,.box [.k,.k,.k,.view .iJson,.view .str]),(5,.box [.k,.k,.k,.view .iJson,.view .str]),(6,.box [.k,.k,.k,.k,.k]),(7,.box [.k,.k,.k,.own .s .iJson,.own .d .str]),(8,.k),(9,.k)],[.s,.pb 1 0,.pb 2 0,.pb 3 0,.pb 4 0,.b,.i .i64],[.ext,.box (aa_.p .v),.box (aa_.p .v),.box [.i .i64,.i .i64,.s,.nils,.nils],.box [.i .i64,.i .i64,.s,.rt 5,.rt 6],.arr .s .iJson 2,.arr .d .str 2]⟩
def od5:OD:=⟨[(1,.k),(5,.box [.k,.k,.k,.view .iJson,.view .str]),(6,.box [.k,.k,.k,.k,.k]),(7,.box [.k,.k,.k,.own .s .iJson,.own .d .str]),(8,.k)],[.s,.pb 1 0,.pb 2 0,.pb 3 0,.b],[.ext,.box (aa_.p .v),.box [.i .i64,.i .i64,.s,.nils,.nils],.box [.i .i64,.i .i64,.s,.rt 4,.rt 5],.arr .s .iJson 2,.arr .d .str 2]⟩
def rd6:RD:=⟨aa_,[.ag [.i .i64,.i .i64,.s,.sl .s .iJson,.sl .d .str]],fun (a0,_)=>(aa_.of a0),fun r=>(aa_.to r,())⟩
def bL_.e:FE:=mkE rd6 87 83 1 [.ag (aa_.p .v),.s,.ag (aa_.p .v)] [.cell 6 29] [] [(5,od4)] [(0,od5)] fun n (a0,a1,a2,_)=>bL_ n (aa_.of a0) a1 (aa_.of a2)
def od6:OD:=⟨[(0,.box [.view .u8,.k,.k]),(1,.k),(4,.box [.k,.k,.k,.k,.k]),(6,.box [.k,.k,.k,.own .s .iJson,.k]),(7,.k)],[.pb 1 0,.i .i64,.pb 2 0,.pb 3 0,.i .i64],[.ext,.box (af_.p .v),.box [.i .i64,.i .i64,.s,.nils,.nils],.box [.i .i64,.i .i64,.s,.rt 4,.nils],.arr .s .iJson 2]⟩
def od7:OD:=⟨[(0,.box [.view .u8,.k,.k]),(1,.k),(4,.box [.k,.k,.k,.k,.k]),(8,.box [.k,.k,.k,.own .s .iJson,.own .d .str]),(9,.k)],[.pb 1 0,.i .i64,.pb 2 0,.pb 3 0,.i .i64],[.ext,.box (af_.p .v),.box [.i .i64,.i .i64,.s,.nils,.nils],.box [.i .i64,.i .i64,.s,.rt 4,.rt 5],.arr .s .iJson 2,.arr .d .str 2]⟩
def od8:OD:=⟨[(4,.box [.k,.k,.k,.k,.k]),(6,.box [.k,.k,.k,.own .s .iJson,.k])],[.pb 2 0,.pb 3 0],[.ext,.box (af_.p .v),.box [.i .i64,.i .i64,.s,.nils,.nils],.box [.i .i64,.i .i64,.s,.rt 4,.nils],.arr .s .iJson 2]⟩
def od9:OD:=⟨[(4,.box [.k,.k,.k,.k,.k]),(8,.box [.k,.k,.k,.own .s .iJson,.own .d .str])],[.pb 2 0,.pb 3 0],[.ext,.box (af_.p .v),.box [.i .i64,.i .i64,.s,.nils,.nils],.box [.i .i64,.i .i64,.s,.rt 4,.rt 5],.arr .s .iJson 2,.arr .d .str 2]⟩
def rd7:RD:=⟨aa_ × af_,[.ag [.i .i64,.i .i64,.s,.sl .s .iJson,.sl .d .str],.bx (af_.p .v)],fun (a0,a1,_)=>((aa_.of a0),(af_.of a1)),fun (a0,a1)=>(aa_.to a0,af_.to a1,())⟩
def ac_.e:FE:=mkE rd7 40 80 2 [.bx (af_.p .v),.i .i64] [.cell 4 29] [.pb 1 0] [(20,od6),(28,od7)] [(1,od8),(3,od9)] fun n (a0,a1,_)=>ac_ n (af_.of a0) a1
def od10:OD:=⟨[(0,.box [.view .u8,.k,.k]),(2,.box [.k]),(3,.box [.own .d .int]),(4,.k)],[.pb 1 0,.pb 2 0,.pb 3 0,.i .i64],[.ext,.box (af_.p .v),.box [.nils],.box [.rt 4],.arr .d .int 2]⟩
def od11:OD:=⟨[(2,.box [.k]),(3,.box [.own .d .int])],[.pb 2 0,.pb 3 0],[.ext,.box (af_.p .v),.box [.nils],.box [.rt 4],.arr .d .int 2]⟩
def rd8:RD:=⟨aY_ × af_,[.ag [.sl .d .int],.bx (af_.p .v)],fun (a0,a1,_)=>((aY_.of a0),(af_.of a1)),fun (a0,a1)=>(aY_.to a0,af_.to a1,())⟩
def aL_.e:FE:=mkE rd8 115 22 2 [.bx (af_.p .v)] [.cell 2 98] [.pb 1 0] [(4,od10)] [(0,od11)] fun n (a0,_)=>aL_ n (af_.of a0)
def b4_.e:FE:=mkE rd0 91 15 1 (b3_.p .v) [.tmp 6] [] [] [] (un3 b4_)
def od12:OD:=⟨[(1,.box [.view .int]),(3,.k)],[.pb 1 0,.i .i64],[.ext,.box [.sl .v .int]]⟩
def od13:OD:=⟨[(1,.box [.view .int])],[.pb 1 0],[.ext,.box [.sl .v .int]]⟩
def a1_.e:FE:=mkE rd0 160 22 1 [.ag [.sl .v .int]] [.tmp 2] [] [(3,od12)] [(0,od13)] fun n (a0,_)=>a1_ n (aY_.of a0)
def rd9:RD:=⟨aY_,[.ag [.sl .d .int]],fun (a0,_)=>(aY_.of a0),fun r=>(aY_.to r,())⟩
def dr_.e:FE:=mkE rd9 161 8 1 [.ag [.sl .v .int]] [.cell 2 98] [] [] [] fun n (a0,_)=>dr_ n (aY_.of a0)
def rd10:RD:=⟨ax_ × Bool,[.ag (ax_.p .d),.b],fun (a0,a1,_)=>((ax_.of a0),a1),fun (a0,a1)=>(ax_.to a0,a1,())⟩
def dM_.e:FE:=mkE rd10 114 15 1 [.ag [.sl .v .int]] [.cell 2 101,.tmp 3] [] [] [] fun n (a0,_)=>dM_ n (aY_.of a0)
def od14:OD:=⟨[(0,.box [.view .u8,.k,.k]),(1,.k),(4,.box [.k,.k]),(5,.box [.k,.own .d .int]),(6,.k)],[.pb 1 0,.i .i64,.pb 2 0,.pb 3 0,.i .i64],[.ext,.box (af_.p .v),.box [.i .i64,.nils],.box [.i .i64,.rt 4],.arr .d .int 2]⟩
def od15:OD:=⟨[(4,.box [.k,.k]),(5,.box [.k,.own .d .int])],[.pb 2 0,.pb 3 0],[.ext,.box (af_.p .v),.box [.i .i64,.nils],.box [.i .i64,.rt 4],.arr .d .int 2]⟩
def rd11:RD:=⟨TRow × af_,[.ag (TRow.p .d),.bx (af_.p .v)],fun (a0,a1,_)=>((TRow.of a0),(af_.of a1)),fun (a0,a1)=>(TRow.to a0,af_.to a1,())⟩
def a6_.e:FE:=mkE rd11 163 24 2 [.bx (af_.p .v),.i .i64] [.cell 4 173] [.pb 1 0] [(4,od14)] [(0,od15)] fun n (a0,a1,_)=>a6_ n (af_.of a0) a1
def od16:OD:=⟨[(0,.view .iRow),(1,.k),(5,.k)],[.sl .v .iRow,.i .i64,.i .i64],[.ext]⟩
def cd_.e:FE:=mkE rd5 216 20 1 [.sl .v .iRow,.i .i64] [.tmp 4] [] [(3,od16)] [(0,od3)] (un2 cd_)
def rd12:RD:=⟨TRow,[.ag (TRow.p .d)],fun (a0,_)=>(TRow.of a0),fun r=>(TRow.to r,())⟩
def cw_.e:FE:=mkE rd12 217 10 1 [.ag (TRow.p .v)] [.cell 2 173] [] [] [] fun n (a0,_)=>cw_ n (TRow.of a0)
def od17:OD:=⟨[(0,.view .iRow),(5,.k),(6,.own .d .iRow),(7,.k)],[.sl .v .iRow,.i .i64,.rt 1,.i .i64],[.ext,.arr .d .iRow 2]⟩
def od18:OD:=⟨[(6,.own .d .iRow)],[.rt 1],[.ext,.arr .d .iRow 2]⟩
def rd13:RD:=⟨(List TRow),[.sl .d .iRow],fun (a0,_)=>a0,fun r=>(r,())⟩
def bh_.e:FE:=mkE rd13 215 30 1 [.sl .v .iRow,.i .i64] [.tmp 4] [] [(5,od17)] [(0,od18)] (un2 bh_)
def od19:OD:=⟨[(3,.box [.k,.view .int]),(5,.own .d .iRow),(6,.k),(7,.k)],[.pb 1 0,.rt 2,.i .i64,.i .i64],[.ext,.box (TRow.p .v),.arr .d .iRow 2]⟩
def od20:OD:=⟨[(3,.box [.k,.view .int]),(5,.own .d .iRow),(6,.k)],[.pb 1 0,.rt 2,.i .i64],[.ext,.box (TRow.p .v),.arr .d .iRow 2]⟩
def rd14:RD:=⟨(List TRow),[.sl .s .iRow],fun (a0,_)=>a0,fun r=>(r,())⟩
def bG_.e:FE:=mkE rd14 162 55 1 [.sl .v .iRow,.ag (TRow.p .v)] [.tmp 4] [] [(6,od19)] [(0,od20)] fun n (a0,a1,_)=>bG_ n a0 (TRow.of a1)
def od21:OD:=⟨[(0,.box [.view .u8,.k,.k]),(1,.k),(5,.own .s .iRow),(6,.k)],[.pb 1 0,.i .i64,.rt 2,.i .i64],[.ext,.box (af_.p .v),.arr .s .iRow 2]⟩
def od22:OD:=⟨[(5,.own .s .iRow)],[.rt 2],[.ext,.box (af_.p .v),.arr .s .iRow 2]⟩
def rd15:RD:=⟨(List TRow) × af_,[.sl .s .iRow,.bx (af_.p .v)],fun (a0,a1,_)=>(a0,(af_.of a1)),fun (a0,a1)=>(a0,af_.to a1,())⟩
def a0_.e:FE:=mkE rd15 116 20 2 [.bx (af_.p .v),.i .i64] [.tmp 4] [.pb 1 0] [(4,od21)] [(0,od22)] fun n (a0,a1,_)=>a0_ n (af_.of a0) a1
def od23:OD:=⟨[(0,.box [.view .u8,.k,.k]),(2,.box [.k,.k,.k]),(3,.box [.own .d .int,.k,.own .s .s_iRow]),(5,.k)],[.pb 1 0,.pb 2 0,.pb 3 0,.i .i64],[.ext,.box (af_.p .v),.box [.nils,.i .i64,.nils],.box [.rt 4,.i .i64,.rt 5],.arr .d .int 2,.arr .s .s_iRow 2]⟩
def od24:OD:=⟨[(0,.box [.view .u8,.k,.k]),(2,.box [.k,.k,.k]),(3,.box [.own .d .int,.k,.own .s .s_iRow])],[.pb 1 0,.pb 2 0,.pb 3 0],[.ext,.box (af_.p .v),.box [.nils,.i .i64,.nils],.box [.rt 4,.i .i64,.rt 5],.arr .d .int 2,.arr .s .s_iRow 2]⟩
def rd16:RD:=⟨ax_ × af_,[.ag [.sl .d .int,.i .i64,.sl .s .s_iRow],.bx (af_.p .v)],fun (a0,a1,_)=>((ax_.of a0),(af_.of a1)),fun (a0,a1)=>(ax_.to a0,af_.to a1,())⟩
def aP_.e:FE:=mkE rd16 74 35 2 [.bx (af_.p .v)] [.cell 2 101] [.pb 1 0] [(4,od23)] [(0,od24)] fun n (a0,_)=>aP_ n (af_.of a0)
def cJ_.e:FE:=mkE rd5 69 10 1 (TKid.p .v) [.tmp 4] [] [] [] (un2 cJ_)
def od25:OD:=⟨[(0,.box [.view .u8,.k,.k]),(3,.box [.view .int]),(4,.box [.k,.k,.k,.k,.k,.k,.k,.k,.k]),(5,.box [.k,.own .d .iCond,.k,.k,.k,.k,.k,.k,.k]),(6,.k),(7,.k)],[.pb 1 0,.pb 2 0,.pb 3 0,.pb 4 0,.i .i64,.i .i64],[.ext,.box (af_.p .v),.box [.sl .v .int],.box [.i .i64,.nils,.i .i64,.b,.i .i64,.nils,.b,.i .i64,.i .i64],.box [.i .i64,.rt 5,.i .i64,.b,.i .i64,.nils,.b,.i .i64,.i .i64],.arr .d .iCond 2]⟩
def od26:OD:=⟨[(0,.box [.view .u8,.k,.k]),(3,.box [.view .int]),(4,.box [.k,.k,.k,.k,.k,.k,.k,.k,.k]),(5,.box [.k,.own .d .iCond,.k,.k,.k,.own .d .int,.k,.k,.k]),(6,.k),(8,.k)],[.pb 1 0,.pb 2 0,.pb 3 0,.pb 4 0,.i .i64,.i .i64],[.ext,.box (af_.p .v),.box [.sl .v .int],.box [.i .i64,.nils,.i .i64,.b,.i .i64,.nils,.b,.i .i64,.i .i64],.box [.i .i64,.rt 5,.i .i64,.b,.i .i64,.rt 6,.b,.i .i64,.i .i64],.arr .d .iCond 2,.arr .d .int 2]⟩
def od27:OD:=⟨[(0,.box [.view .u8,.k,.k]),(3,.box [.view .int]),(4,.box [.k,.k,.k,.k,.k,.k,.k,.k,.k]),(5,.box [.k,.own .d .iCond,.k,.k,.k,.k,.k,.k,.k]),(6,.k)],[.pb 1 0,.pb 2 0,.pb 3 0,.pb 4 0,.i .i64],[.ext,.box (af_.p .v),.box [.sl .v .int],.box [.i .i64,.nils,.i .i64,.b,.i .i64,.nils,.b,.i .i64,.i .i64],.box [.i .i64,.rt 5,.i .i64,.b,.i .i64,.nils,.b,.i .i64,.i .i64],.arr .d .iCond 2]⟩
def od28:OD:=⟨[(0,.box [.view .u8,.k,.k]),(3,.box [.view .int]),(4,.box [.k,.k,.k,.k,.k,.k,.k,.k,.k]),(5,.box [.k,.own .d .iCond,.k,.k,.k,.own .d .int,.k,.k,.k])],[.pb 1 0,.pb 2 0,.pb 3 0,.pb 4 0],[.ext,.box (af_.p .v),.box [.sl .v .int],.box [.i .i64,.nils,.i .i64,.b,.i .i64,.nils,.b,.i .i64,.i .i64],.box [.i .i64,.rt 5,.i .i64,.b,.i .i64,.rt 6,.b,.i .i64,.i .i64],.arr .d .iCond 2,.arr .d .int 2]⟩
def rd17:RD:=⟨ay_ × af_,[.ag (ay_.p .d),.bx (af_.p .v)],fun (a0,a1,_)=>((ay_.of a0),(af_.of a1)),fun (a0,a1)=>(ay_.to a0,af_.to a1,())⟩
def ak_.e:FE:=mkE rd17 76 106 2 [.bx (af_.p .v),.ag [.sl .v .int]] [.cell 4 105] [.pb 1 0] [(7,od25),(16,od26)] [(0,od27),(2,od28)] fun n (a0,a1,_)=>ak_ n (af_.of a0) (aY_.of a1)
def od29:OD:=⟨[(5,.box [.k,.view .int]),(7,.k)],[.pb 1 0,.i .i64],[.ext,.box (TRow.p .v)]⟩
def ch_.e:FE:=mkE rd0 230 51 1 [.ag [.sl .v .int],.i .i64,.ag (TRow.p .v)] [.tmp 6] [] [(6,od29)] [(0,od3)] fun n (a0,a1,a2,_)=>ch_ n (aY_.of a0) a1 (TRow.of a2)
def od30:OD:=⟨[(1,.k),(2,.view .iRow),(3,.box [.view .int]),(7,.k)],[.i .i64,.sl .v .iRow,.pb 1 0,.i .i64],[.ext,.box [.sl .v .int]]⟩
def od31:OD:=⟨[(1,.k),(2,.view .iRow),(3,.box [.view .int])],[.i .i64,.sl .v .iRow,.pb 1 0],[.ext,.box [.sl .v .int]]⟩
def b1_.e:FE:=mkE rd0 177 55 1 [.ag [.sl .v .int],.i .i64,.sl .v .iRow] [.tmp 6] [] [(3,od30)] [(0,od31)] fun n (a0,a1,a2,_)=>b1_ n (aY_.of a0) a1 a2
def od32:OD:=⟨[(1,.box [.view .int,.k,.view .s_iRow]),(3,.k)],[.pb 1 0,.i .i64],[.ext,.box (ax_.p .v)]⟩
def bA_.e:FE:=mkE rd0 124 41 1 [.ag (ax_.p .v)] [.tmp 2] [] [(6,od32)] [(0,od3)] fun n (a0,_)=>bA_ n (ax_.of a0)
def od33:OD:=⟨[(2,.box [.view .int]),(3,.box [.k,.view .iCond,.k,.k,.k,.view .int,.k,.k,.k]),(5,.k),(6,.k)],[.pb 1 0,.pb 2 0,.i .i64,.i .i64],[.ext,.box [.sl .v .int],.box (ay_.p .v)]⟩
def od34:OD:=⟨[(2,.box [.view .int]),(3,.box [.k,.view .iCond,.k,.k,.k,.view .int,.k,.k,.k]),(5,.k),(8,.k)],[.pb 1 0,.pb 2 0,.i .i64,.i .i64],[.ext,.box [.sl .v .int],.box (ay_.p .v)]⟩
def od35:OD:=⟨[(2,.box [.view .int]),(3,.box [.k,.view .iCond,.k,.k,.k,.view .int,.k,.k,.k]),(5,.k)],[.pb 1 0,.pb 2 0,.i .i64],[.ext,.box [.sl .v .int],.box (ay_.p .v)]⟩
def aA_.e:FE:=mkE rd0 164 148 1 [.ag [.sl .v .int],.ag (ay_.p .v)] [.tmp 4] [] [(7,od33),(16,od34)] [(0,od35),(2,od35)] fun n (a0,a1,_)=>aA_ n (aY_.of a0) (ay_.of a1)
def rd18:RD:=⟨ay_,[.ag (ay_.p .d)],fun (a0,_)=>(ay_.of a0),fun r=>(ay_.to r,())⟩
def ea_.e:FE:=mkE rd18 165 14 1 [.ag (ay_.p .v)] [.cell 2 105] [] [] [] fun n (a0,_)=>ea_ n (ay_.of a0)
def dO_.e:FE:=mkE rd0 255 46 1 [.ag (b3_.p .v),.ag (TRow.p .v)] [.tmp 4] [] [] [] fun n (a0,a1,_)=>dO_ n (b3_.of a0) (TRow.of a1)
def od36:OD:=⟨[(2,.box [.k,.view .iCond,.k,.k,.k,.view .int,.k,.k,.k]),(3,.box [.k,.view .int]),(5,.k)],[.pb 1 0,.pb 2 0,.i .i64],[.ext,.box (ay_.p .v),.box (TRow.p .v)]⟩
def bQ_.e:FE:=mkE rd0 218 21 1 [.ag (ay_.p .v),.ag (TRow.p .v)] [.tmp 4] [] [(3,od36)] [(0,od3)] fun n (a0,a1,_)=>bQ_ n (ay_.of a0) (TRow.of a1)
def bT_.e:FE:=mkE rd5 231 17 1 [.ag (TRow.p .v),.i .i64] [.tmp 4] [] [] [] fun n (a0,a1,_)=>bT_ n (TRow.of a0) a1
def ey_.e:FE:=mkE rd0 256 36 1 [.ag (ay_.p .v),.ag (TRow.p .v),.ag (TRow.p .v)] [.tmp 6] [] [] [] fun n (a0,a1,a2,_)=>ey_ n (ay_.of a0) (TRow.of a1) (TRow.of a2)
def od37:OD:=⟨[(1,.view .iRow),(3,.box [.k,.view .iCond,.k,.k,.k,.view .int,.k,.k,.k]),(5,.box [.k,.view .int]),(7,.own .s .iRow),(8,.k),(9,.k)],[.sl .v .iRow,.pb 1 0,.pb 2 0,.rt 3,.b,.i .i64],[.ext,.box (ay_.p .v),.box (TRow.p .v),.arr .s .iRow 2]⟩
def od38:OD:=⟨[(5,.box [.k,.view .int]),(7,.own .s .iRow),(8,.k)],[.pb 1 0,.rt 2,.b],[.ext,.box (TRow.p .v),.arr .s .iRow 2]⟩
def bU_.e:FE:=mkE rd14 219 48 1 [.ag (ay_.p .v),.sl .v .iRow,.ag (TRow.p .v)] [.tmp 6] [] [(5,od37)] [(0,od38)] fun n (a0,a1,a2,_)=>bU_ n (ay_.of a0) a1 (TRow.of a2)
def od39:OD:=⟨[(3,.box [.k,.view .iCond,.k,.k,.k,.view .int,.k,.k,.k]),(5,.own .s .iRow),(6,.view .iRow),(7,.k)],[.pb 1 0,.rt 2,.sl .v .iRow,.i .i64],[.ext,.box (ay_.p .v),.arr .s .iRow 2]⟩
def od40:OD:=⟨[(5,.own .s .iRow)],[.rt 1],[.ext,.arr .s .iRow 2]⟩
def bK_.e:FE:=mkE rd14 166 46 1 [.ag (ax_.p .v),.ag (ay_.p .v)] [.tmp 4] [] [(8,od39)] [(0,od40)] fun n (a0,a1,_)=>bK_ n (ax_.of a0) (ay_.of a1)
def od41:OD:=⟨[(0,.view .iKid),(1,.k),(2,.k),(7,.own .d .iKid),(8,.k),(9,.k)],[.sl .v .iKid,.i .i64,.i .i64,.rt 1,.b,.i .i64],[.ext,.arr .d .iKid 2]⟩
def od42:OD:=⟨[(1,.k),(2,.k),(7,.own .d .iKid),(8,.k)],[.i .i64,.i .i64,.rt 1,.b],[.ext,.arr .d .iKid 2]⟩
def rd19:RD:=⟨(List TKid),[.sl .d .iKid],fun (a0,_)=>a0,fun r=>(r,())⟩
def aQ_.e:FE:=mkE rd19 167 69 1 [.sl .v .iKid,.i .i64,.i .i64] [.tmp 6] [] [(5,od41)] [(0,od42)] (un3 aQ_)
def od43:OD:=⟨[(3,.box [.k,.view .iCond,.k,.k,.k,.view .int,.k,.k,.k]),(4,.box [.k,.k,.k,.k,.k,.k,.k,.k,.k,.k,.k]),(6,.box [.k,.own .d .iCond,.k,.k,.k,.own .d .int,.k,.k,.k,.own .s .iRow,.own .d .iKid]),(7,.view .iRow),(8,.k)],[.pb 1 0,.pb 2 0,.pb 3 0,.sl .v .iRow,.i .i64],[.ext,.box (ay_.p .v),.box [.i .i64,.nils,.i .i64,.b,.i .i64,.nils,.b,.i .i64,.i .i64,.nils,.nils],.box [.i .i64,.rt 4,.i .i64,.b,.i .i64,.rt 5,.b,.i .i64,.i .i64,.rt 6,.rt 7],.arr .d .iCond 2,.arr .d .int 2,.arr .s .iRow 2,.arr .d .iKid 2]⟩
def od44:OD:=⟨[(4,.box [.k,.k,.k,.k,.k,.k,.k,.k,.k,.k,.k]),(6,.box [.k,.own .d .iCond,.k,.k,.k,.own .d .int,.k,.k,.k,.own .s .iRow,.own .d .iKid])],[.pb 1 0,.pb 2 0],[.ext,.box [.i .i64,.nils,.i .i64,.b,.i .i64,.nils,.b,.i .i64,.i .i64,.nils,.nils],.box [.i .i64,.rt 3,.i .i64,.b,.i .i64,.rt 4,.b,.i .i64,.i .i64,.rt 5,.rt 6],.arr .d .iCond 2,.arr .d .int 2,.arr .s .iRow 2,.arr .d .iKid 2]⟩
def rd20:RD:=⟨bn_ × Bool,[.ag [.i .i64,.sl .d .iCond,.i .i64,.b,.i .i64,.sl .d .int,.b,.i .i64,.i .i64,.sl .s .iRow,.sl .d .iKid],.b],fun (a0,a1,_)=>((bn_.of a0),a1),fun (a0,a1)=>(bn_.to a0,a1,())⟩
def b0_.e:FE:=mkE rd20 117 56 1 [.ag (ax_.p .v),.ag (ay_.p .v)] [.cell 4 109,.tmp 5] [] [(8,od43)] [(0,od44)] fun n (a0,a1,_)=>b0_ n (ax_.of a0) (ay_.of a1)
def rd21:RD:=⟨cp_ × Bool,[.ag [.i .i64,.sl .d .iCond,.i .i64,.b,.i .i64,.sl .d .int,.b,.i .i64,.i .i64,.sl .s .iRow,.sl .d .iKid,.i .i64,.i .i64,.sl .d .iCond,.i .i64,.b,.i .i64,.sl .d .int,.b,.i .i64,.i .i64,.sl .d .iRow,.sl .d .iKid,.i .i64,.b],.b],fun (a0,a1,_)=>((cp_.of a0),a1),fun (a0,a1)=>(cp_.to a0,a1,())⟩
def d6_.e:FE:=mkE rd21 75 21 1 [.ag (ax_.p .v),.ag (ay_.p .v)] [.cell 4 111,.tmp 5] [] [] [] fun n (a0,a1,_)=>d6_ n (ax_.of a0) (ay_.of a1)
def od45:OD:=⟨[(0,.view .iRow),(3,.own .d .iRow),(4,.k)],[.sl .v .iRow,.rt 1,.i .i64],[.ext,.arr .d .iRow 2]⟩
def od46:OD:=⟨[(3,.own .d .iRow)],[.rt 1],[.ext,.arr .d .iRow 2]⟩
def bV_.e:FE:=mkE rd13 176 21 1 [.sl .v .iRow] [.tmp 2] [] [(4,od45)] [(0,od46)] (un1 bV_)
def rd22:RD:=⟨bn_,[.ag (bn_.p .d)],fun (a0,_)=>(bn_.of a0),fun r=>(bn_.to r,())⟩
def cY_.e:FE:=mkE rd22 123 14 1 [.ag (bn_.p .v)] [.cell 2 109] [] [] [] fun n (a0,_)=>cY_ n (bn_.of a0)
def rd23:RD:=⟨cp_,[.ag (cp_.p .d)],fun (a0,_)=>(cp_.of a0),fun r=>(cp_.to r,())⟩
def dP_.e:FE:=mkE rd23 118 16 1 [.ag (cp_.p .v)] [.cell 2 111] [] [] [] fun n (a0,_)=>dP_ n (cp_.of a0)
def od47:OD:=⟨[(1,.k),(2,.box [.k,.view .iCond,.k,.k,.k,.view .int,.k,.k,.k,.view .iRow,.view .iKid]),(5,.k)],[.i .i64,.pb 1 0,.i .i64],[.ext,.box (bn_.p .v)]⟩
def b5_.e:FE:=mkE rd5 224 27 1 [.ag (bn_.p .v),.i .i64] [.tmp 4] [] [(3,od47)] [(0,od3)] fun n (a0,a1,_)=>b5_ n (bn_.of a0) a1
def od48:OD:=⟨[(1,.box [.k,.view .iCond,.k,.k,.k,.view .int,.k,.k,.k,.view .iRow,.view .iKid]),(3,.own .d .int),(4,.k)],[.pb 1 0,.rt 2,.i .i64],[.ext,.box (bn_.p .v),.arr .d .int 2]⟩
def od49:OD:=⟨[(3,.own .d .int)],[.rt 1],[.ext,.arr .d .int 2]⟩
def rd24:RD:=⟨(List Int),[.sl .d .int],fun (a0,_)=>a0,fun r=>(r,())⟩
def a9_.e:FE:=mkE rd24 169 25 1 [.ag (bn_.p .v)] [.tmp 2] [] [(4,od48)] [(0,od49)] fun n (a0,_)=>a9_ n (bn_.of a0)
def eN_.e:FE:=mkE rd5 68 10 1 (TKid.p .v) [.tmp 4] [] [] [] (un2 eN_)
def du_.e:FE:=mkE rd5 220 14 1 [.ag (ay_.p .v),.i .i64] [.tmp 4] [] [] [] fun n (a0,a1,_)=>du_ n (ay_.of a0) a1
def od50:OD:=⟨[(0,.k),(3,.k),(4,.k)],[.i .i64,.b,.s],[.ext]⟩
def od51:OD:=⟨[(3,.k),(4,.k)],[.b,.s],[.ext]⟩
def oe_:RD:=⟨Bs,[.s],fun (a0,_)=>a0,fun r=>(r,())⟩
def aK_.e:FE:=mkE oe_ 51 31 1 [.i .i64] [.tmp 2] [] [(7,od50)] [(0,od51)] (un1 aK_)
def rd26:RD:=⟨aa_,[.ag (aa_.p .d)],fun (a0,_)=>(aa_.of a0),fun r=>(aa_.to r,())⟩
def c6_.e:FE:=mkE rd26 223 5 1 [.i .i64] [.cell 2 29] [] [] [] (un1 c6_)
def od52:OD:=⟨[(2,.k),(3,.box [.k,.view .iCond,.k,.k,.k,.view .int,.k,.k,.k]),(4,.box [.k,.view .int]),(6,.box [.k,.k,.k,.k,.k]),(7,.box [.k,.k,.k,.own .s .iJson,.own .d .str]),(8,.k)],[.i .i64,.pb 1 0,.pb 2 0,.pb 3 0,.pb 4 0,.i .i64],[.ext,.box (ay_.p .v),.box (TRow.p .v),.box [.i .i64,.i .i64,.s,.nils,.nils],.box [.i .i64,.i .i64,.s,.rt 5,.rt 6],.arr .s .iJson 2,.arr .d .str 2]⟩
def od53:OD:=⟨[(2,.k),(3,.box [.k,.view .iCond,.k,.k,.k,.view .int,.k,.k,.k]),(4,.box [.k,.view .int]),(6,.box [.k,.k,.k,.k,.k]),(7,.box [.k,.k,.k,.own .s .iJson,.own .d .str])],[.i .i64,.pb 1 0,.pb 2 0,.pb 3 0,.pb 4 0],[.ext,.box (ay_.p .v),.box (TRow.p .v),.box [.i .i64,.i .i64,.s,.nils,.nils],.box [.i .i64,.i .i64,.s,.rt 5,.rt 6],.arr .s .iJson 2,.arr .d .str 2]⟩
def bO_.e:FE:=mkE rd6 221 46 1 [.ag (ay_.p .v),.ag (TRow.p .v),.i .i64] [.cell 6 29] [] [(4,od52)] [(0,od53)] fun n (a0,a1,a2,_)=>bO_ n (ay_.of a0) (TRow.of a1) a2
def od54:OD:=⟨[(0,.k),(3,.k)],[.s,.i .i64],[.ext]⟩
def od55:OD:=⟨[(0,.k)],[.s],[.ext]⟩
def b2_.e:FE:=mkE rd0 188 23 1 [.s] [.tmp 2] [] [(3,od54)] [(0,od55)] (un1 b2_)
def od56:OD:=⟨[(1,.box [.k,.k,.k,.view .iJson,.view .str]),(3,.k)],[.pb 1 0,.i .i64],[.ext,.box (aa_.p .v)]⟩
def od57:OD:=⟨[(1,.box [.k,.k,.k,.view .iJson,.view .str])],[.pb 1 0],[.ext,.box (aa_.p .v)]⟩
def ag_.e:FE:=mkE rd0 189 50 1 [.ag (aa_.p .v)] [.tmp 2] [] [(6,od56)] [(0,od57)] fun n (a0,_)=>ag_ n (aa_.of a0)
def od58:OD:=⟨[(1,.k),(2,.box [.k,.k,.k,.view .iJson,.view .str]),(5,.k),(6,.k),(7,.k)],[.i .i64,.pb 1 0,.i .i64,.i .i64,.i .i64],[.ext,.box (aa_.p .v)]⟩
def od59:OD:=⟨[(2,.box [.k,.k,.k,.view .iJson,.view .str]),(5,.k),(6,.k)],[.pb 1 0,.i .i64,.i .i64],[.ext,.box (aa_.p .v)]⟩
def aR_.e:FE:=mkE rd5 134 106 1 [.ag (aa_.p .v),.i .i64] [.tmp 4] [] [(23,od58)] [(1,od59)] fun n (a0,a1,_)=>aR_ n (aa_.of a0) a1
def cL_.e:FE:=mkE rd0 93 6 1 [.ag (aa_.p .v)] [.tmp 2] [] [] [] fun n (a0,_)=>cL_ n (aa_.of a0)
def rd27:RD:=⟨aa_,[.ag (aa_.p .v)],fun (a0,_)=>(aa_.of a0),fun r=>(aa_.to r,())⟩
def dd_.e:FE:=mkE rd27 222 8 1 [.ag (aa_.p .v)] [.cell 2 29] [] [] [] fun n (a0,_)=>dd_ n (aa_.of a0)
def od60:OD:=⟨[(1,.view .iRow),(2,.view .int),(3,.box [.k,.view .iCond,.k,.k,.k,.view .int,.k,.k,.k]),(6,.box [.k,.k,.k,.k,.k]),(7,.box [.k,.k,.k,.own .s .iJson,.k]),(8,.k)],[.sl .v .iRow,.sl .v .int,.pb 1 0,.pb 2 0,.pb 3 0,.i .i64],[.ext,.box (ay_.p .v),.box [.i .i64,.i .i64,.s,.nils,.nils],.box [.i .i64,.i .i64,.s,.rt 4,.nils],.arr .s .iJson 2]⟩
def od61:OD:=⟨[(1,.view .iRow),(6,.box [.k,.k,.k,.k,.k]),(7,.box [.k,.k,.k,.own .s .iJson,.k])],[.sl .v .iRow,.pb 1 0,.pb 2 0],[.ext,.box [.i .i64,.i .i64,.s,.nils,.nils],.box [.i .i64,.i .i64,.s,.rt 3,.nils],.arr .s .iJson 2]⟩
def ce_.e:FE:=mkE rd27 168 47 1 [.ag (ay_.p .v),.sl .v .iRow,.sl .v .int] [.cell 6 29] [] [(4,od60)] [(0,od61)] fun n (a0,a1,a2,_)=>ce_ n (ay_.of a0) a1 a2
def dk_.e:FE:=mkE rd27 120 10 1 [.ag (bn_.p .v)] [.cell 2 29] [] [] [] fun n (a0,_)=>dk_ n (bn_.of a0)
def od62:OD:=⟨[(2,.box [.k,.k,.k,.view .iJson,.view .str]),(3,.box [.k,.k,.k,.view .iJson,.view .str]),(5,.k)],[.pb 1 0,.pb 2 0,.i .i64],[.ext,.box (aa_.p .v),.box (aa_.p .v)]⟩
def od63:OD:=⟨[(2,.box [.k,.k,.k,.view .iJson,.view .str]),(3,.box [.k,.k,.k,.view .iJson,.view .str]),(6,.k)],[.pb 1 0,.pb 2 0,.i .i64],[.ext,.box (aa_.p .v),.box (aa_.p .v)]⟩
def od64:OD:=⟨[(2,.box [.k,.k,.k,.view .iJson,.view .str]),(3,.box [.k,.k,.k,.view .iJson,.view .str])],[.pb 1 0,.pb 2 0],[.ext,.box (aa_.p .v),.box (aa_.p .v)]⟩
def aq_.e:FE:=mkE rd0 92 81 1 [.ag (aa_.p .v),.ag (aa_.p .v)] [.tmp 4] [] [(6,od62),(14,od63)] [(0,od64),(2,od3)] fun n (a0,a1,_)=>aq_ n (aa_.of a0) (aa_.of a1)
def dw_.e:FE:=mkE rd0 112 16 1 [.ag (aa_.p .v),.ag (aa_.p .v)] [.tmp 4] [] [] [] fun n (a0,a1,_)=>dw_ n (aa_.of a0) (aa_.of a1)
def d7_.e:FE:=mkE rd0 119 16 1 [.ag (cp_.p .v)] [.tmp 2] [] [] [] fun n (a0,_)=>d7_ n (cp_.of a0)
def od65:OD:=⟨[(0,.view .iCond),(1,.view .iCond),(5,.k)],[.sl .v .iCond,.sl .v .iCond,.i .i64],[.ext]⟩
def od66:OD:=⟨[(0,.view .iCond),(1,.view .iCond)],[.sl .v .iCond,.sl .v .iCond],[.ext]⟩
def bJ_.e:FE:=mkE rd0 225 32 1 [.sl .v .iCond,.sl .v .iCond] [.tmp 4] [] [(3,od65)] [(0,od66)] (un2 bJ_)
def od67:OD:=⟨[(0,.view .int),(1,.view .int),(5,.k)],[.sl .v .int,.sl .v .int,.i .i64],[.ext]⟩
def od68:OD:=⟨[(0,.view .int),(1,.view .int)],[.sl .v .int,.sl .v .int],[.ext]⟩
def bZ_.e:FE:=mkE rd0 226 32 1 [.sl .v .int,.sl .v .int] [.tmp 4] [] [(3,od67)] [(0,od68)] (un2 bZ_)
def dv_.e:FE:=mkE rd0 171 66 1 [.ag (ay_.p .v),.ag (ay_.p .v)] [.tmp 4] [] [] [] fun n (a0,a1,_)=>dv_ n (ay_.of a0) (ay_.of a1)
def eO_.e:FE:=mkE rd26 172 11 1 [.i .i64] [.cell 2 29] [] [] [] (un1 eO_)
def eq_.e:FE:=mkE rd27 227 12 1 [.ag (ay_.p .v),.ag (TRow.p .v),.i .i64] [.cell 6 29] [] [] [] fun n (a0,a1,a2,_)=>eq_ n (ay_.of a0) (TRow.of a1) a2
def od69:OD:=⟨[(1,.box [.k,.view .iCond,.k,.k,.k,.view .int,.k,.k,.k,.view .iRow,.view .iKid]),(4,.own .s .iJson),(5,.own .d .int),(6,.k)],[.pb 1 0,.rt 2,.rt 3,.i .i64],[.ext,.box (bn_.p .v),.arr .s .iJson 2,.arr .d .int 2]⟩
def od70:OD:=⟨[(4,.own .s .iJson),(5,.own .d .int)],[.rt 1,.rt 2],[.ext,.arr .s .iJson 2,.arr .d .int 2]⟩
def rd28:RD:=⟨(List aa_) × (List Int),[.sl .s .iJson,.sl .d .int],fun (a0,a1,_)=>(a0,a1),fun (a0,a1)=>(a0,a1,())⟩
def bp_.e:FE:=mkE rd28 173 49 1 [.ag (bn_.p .v)] [.tmp 2,.tmp 3] [] [(5,od69)] [(0,od70)] fun n (a0,_)=>bp_ n (bn_.of a0)
def od71:OD:=⟨[(0,.view .int),(1,.k),(5,.k)],[.sl .v .int,.i .i64,.i .i64],[.ext]⟩
def cv_.e:FE:=mkE rd5 257 19 1 [.sl .v .int,.i .i64] [.tmp 4] [] [(3,od71)] [(0,od3)] (un2 cv_)
def od72:OD:=⟨[(0,.view .int),(1,.view .iJson),(5,.k)],[.sl .v .int,.sl .v .iJson,.i .i64],[.ext]⟩
def od73:OD:=⟨[(0,.view .int),(1,.view .iJson),(6,.k)],[.sl .v .int,.sl .v .iJson,.i .i64],[.ext]⟩
def od74:OD:=⟨[(0,.view .int),(1,.view .iJson)],[.sl .v .int,.sl .v .iJson],[.ext]⟩
def aJ_.e:FE:=mkE rd0 228 39 1 [.sl .v .int,.sl .v .iJson] [.tmp 4] [] [(3,od72),(11,od73)] [(0,od74),(2,od74)] (un2 aJ_)
def c8_.e:FE:=mkE rd24 258 15 1 [.sl .v .int,.i .i64] [.tmp 4] [] [] [] (un2 c8_)
def od75:OD:=⟨[(1,.box [.k,.k,.k,.view .iJson,.view .str]),(2,.box [.k,.k,.k,.k,.k]),(3,.box [.k,.k,.k,.own .d .iJson,.own .d .str]),(4,.k)],[.pb 1 0,.pb 2 0,.pb 3 0,.i .i64],[.ext,.box (aa_.p .v),.box [.i .i64,.i .i64,.s,.nils,.nils],.box [.i .i64,.i .i64,.s,.rt 4,.rt 5],.arr .d .iJson 2,.arr .d .str 2]⟩
def od76:OD:=⟨[(2,.box [.k,.k,.k,.k,.k]),(3,.box [.k,.k,.k,.own .d .iJson,.own .d .str])],[.pb 1 0,.pb 2 0],[.ext,.box [.i .i64,.i .i64,.s,.nils,.nils],.box [.i .i64,.i .i64,.s,.rt 3,.rt 4],.arr .d .iJson 2,.arr .d .str 2]⟩
def bc_.e:FE:=mkE rd26 46 35 1 [.ag (aa_.p .v)] [.cell 2 29] [] [(4,od75)] [(0,od76)] fun n (a0,_)=>bc_ n (aa_.of a0)
def dt_.e:FE:=mkE rd24 259 22 1 [.sl .v .int,.i .i64,.i .i64] [.tmp 6] [] [] [] (un3 dt_)
def od77:OD:=⟨[(0,.view .iJson),(1,.view .int),(2,.view .iJson),(3,.view .int),(9,.own .d .iOp),(10,.own .d .int),(11,.k)],[.sl .v .iJson,.sl .v .int,.sl .v .iJson,.sl .v .int,.rt 1,.rt 2,.i .i64],[.ext,.arr .d .iOp 2,.arr .d .int 2]⟩
def od78:OD:=⟨[(0,.view .iJson),(1,.view .int),(2,.view .iJson),(3,.view .int),(9,.own .d .iOp),(10,.own .d .int),(12,.k)],[.sl .v .iJson,.sl .v .int,.sl .v .iJson,.sl .v .int,.rt 1,.rt 2,.i .i64],[.ext,.arr .d .iOp 2,.arr .d .int 2]⟩
def od79:OD:=⟨[(0,.view .iJson),(1,.view .int),(2,.view .iJson),(3,.view .int),(9,.own .d .iOp),(10,.own .d .int)],[.sl .v .iJson,.sl .v .int,.sl .v .iJson,.sl .v .int,.rt 1,.rt 2],[.ext,.arr .d .iOp 2,.arr .d .int 2]⟩
def od80:OD:=⟨[(9,.own .d .iOp)],[.rt 1],[.ext,.arr .d .iOp 2]⟩
def rd29:RD:=⟨(List TOp),[.sl .d .iOp],fun (a0,_)=>a0,fun r=>(r,())⟩
def aH_.e:FE:=mkE rd29 229 116 1 [.sl .v .iJson,.sl .v .int,.sl .v .iJson,.sl .v .int] [.tmp 8] [] [(5,od77),(13,od78)] [(0,od79),(2,od80)] (un4 aH_)
def eZ_.e:FE:=mkE rd29 175 25 1 [.sl .v .iJson,.sl .v .int,.sl .v .iJson,.sl .v .int] [.tmp 8] [] [] [] (un4 eZ_)
def od81:OD:=⟨[(0,.k),(1,.view .iOp),(5,.own .d .iOp),(6,.k)],[.s,.sl .v .iOp,.rt 1,.i .i64],[.ext,.arr .d .iOp 2]⟩
def od82:OD:=⟨[(5,.own .d .iOp)],[.rt 1],[.ext,.arr .d .iOp 2]⟩
def cc_.e:FE:=mkE rd29 174 38 1 [.s,.sl .v .iOp] [.tmp 4] [] [(4,od81)] [(0,od82)] (un2 cc_)
def c9_.e:FE:=mkE rd29 122 52 1 [.ag (bn_.p .v),.ag (bn_.p .v)] [.tmp 4] [] [] [] fun n (a0,a1,_)=>c9_ n (bn_.of a0) (bn_.of a1)
def od83:OD:=⟨[(1,.box [.k,.view .str,.k,.k,.k,.view .iJson,.view .str]),(3,.k)],[.pb 1 0,.i .i64],[.ext,.box (TOp.p .v)]⟩
def od84:OD:=⟨[(1,.box [.k,.view .str,.k,.k,.k,.view .iJson,.view .str])],[.pb 1 0],[.ext,.box (TOp.p .v)]⟩
def cr_.e:FE:=mkE rd0 135 43 1 [.ag (TOp.p .v)] [.tmp 2] [] [(6,od83)] [(0,od84)] fun n (a0,_)=>cr_ n (TOp.of a0)
def rd30:RD:=⟨(List Bs),[.sl .d .str],fun (a0,_)=>a0,fun r=>(r,())⟩
def dj_.e:FE:=mkE rd30 110 2 1 [] [.tmp 0] [] [] [] fun n _=>dj_ n ()
def od85:OD:=⟨[(0,.view .str),(3,.own .d .u8),(4,.k)],[.sl .v .str,.rt 1,.i .i64],[.ext,.arr .d .u8 2]⟩
def od86:OD:=⟨[(0,.view .str),(3,.own .d .u8),(4,.k),(5,.k)],[.sl .v .str,.rt 1,.i .i64,.i .i64],[.ext,.arr .d .u8 2]⟩
def od87:OD:=⟨[(3,.own .d .u8)],[.rt 1],[.ext,.arr .d .u8 2]⟩
def aE_.e:FE:=mkE oe_ 144 52 1 [.sl .v .str] [.tmp 2] [] [(10,od86),(4,od85)] [(0,od87),(2,od85)] (un1 aE_)
def dU_.e:FE:=mkE rd6 99 34 1 [.ag (TOp.p .v)] [.cell 2 29] [] [] [] fun n (a0,_)=>dU_ n (TOp.of a0)
def od88:OD:=⟨[(0,.k),(3,.own .d .u8),(4,.k)],[.s,.rt 1,.i .i64],[.ext,.arr .d .u8 2]⟩
def bt_.e:FE:=mkE oe_ 143 35 1 [.s] [.tmp 2] [] [(4,od88)] [(0,od87)] (un1 bt_)
def od89:OD:=⟨[(1,.box [.k,.k,.k,.view .iJson,.view .str]),(3,.k),(4,.k)],[.pb 1 0,.s,.i .i64],[.ext,.box (aa_.p .v)]⟩
def od90:OD:=⟨[(1,.box [.k,.k,.k,.view .iJson,.view .str]),(3,.k)],[.pb 1 0,.s],[.ext,.box (aa_.p .v)]⟩
def aO_.e:FE:=mkE oe_ 98 64 1 [.ag (aa_.p .v)] [.tmp 2] [] [(17,od89)] [(1,od90)] fun n (a0,_)=>aO_ n (aa_.of a0)
def cZ_.e:FE:=mkE oe_ 52 13 1 [.ag (aa_.p .v)] [.tmp 2] [] [] [] fun n (a0,_)=>cZ_ n (aa_.of a0)
def od91:OD:=⟨[(0,.view .iOp),(3,.box [.k,.k,.k,.own .s .iJson,.k]),(4,.k)],[.sl .v .iOp,.pb 1 0,.i .i64],[.ext,.box [.i .i64,.i .i64,.s,.rt 2,.nils],.arr .s .iJson 2]⟩
def od92:OD:=⟨[(3,.box [.k,.k,.k,.own .s .iJson,.k])],[.pb 1 0],[.ext,.box [.i .i64,.i .i64,.s,.rt 2,.nils],.arr .s .iJson 2]⟩
def a5_.e:FE:=mkE rd5 170 34 1 [.sl .v .iOp] [.tmp 2] [] [(4,od91)] [(0,od92)] (un1 a5_)
def d5_.e:FE:=mkE rd0 121 27 1 [.ag (bn_.p .v),.ag (bn_.p .v)] [.tmp 4] [] [] [] fun n (a0,a1,_)=>d5_ n (bn_.of a0) (bn_.of a1)
def rd31:RD:=⟨cp_ × aX_ × Bool,[.ag (cp_.p .d),.ag [.i .i64,.i .i64,.i .i64,.i .i64,.i .i64,.s,.sl .v .iJson,.sl .v .str,.sl .d .iOp],.b],fun (a0,a1,a2,_)=>((cp_.of a0),(aX_.of a1),a2),fun (a0,a1,a2)=>(cp_.to a0,aX_.to a1,a2,())⟩
def df_.e:FE:=mkE rd31 77 49 1 [.ag (cp_.p .v)] [.cell 2 111,.cell 3 35,.tmp 4] [] [] [] fun n (a0,_)=>df_ n (cp_.of a0)
def rd32:RD:=⟨TMut × af_,[.ag (TMut.p .d),.bx (af_.p .v)],fun (a0,a1,_)=>((TMut.of a0),(af_.of a1)),fun (a0,a1)=>(TMut.to a0,af_.to a1,())⟩
def ds_.e:FE:=mkE rd32 127 102 2 [.bx (af_.p .v),.ag (ax_.p .v)] [.cell 4 179] [.pb 1 0] [] [] fun n (a0,a1,_)=>ds_ n (af_.of a0) (ax_.of a1)
def eP_.e:FE:=mkE rd0 178 43 1 [.ag [.sl .v .int],.ag (TMut.p .v)] [.tmp 4] [] [] [] fun n (a0,a1,_)=>eP_ n (aY_.of a0) (TMut.of a1)
def od93:OD:=⟨[(1,.box [.view .int,.k,.view .s_iRow]),(2,.box [.k,.k,.k]),(3,.box [.own .d .int,.k,.own .d .s_iRow]),(4,.k)],[.pb 1 0,.pb 2 0,.pb 3 0,.i .i64],[.ext,.box (ax_.p .v),.box [.nils,.i .i64,.nils],.box [.rt 4,.i .i64,.rt 5],.arr .d .int 2,.arr .d .s_iRow 2]⟩
def od94:OD:=⟨[(2,.box [.k,.k,.k]),(3,.box [.own .d .int,.k,.own .d .s_iRow])],[.pb 1 0,.pb 2 0],[.ext,.box [.nils,.i .i64,.nils],.box [.rt 3,.i .i64,.rt 4],.arr .d .int 2,.arr .d .s_iRow 2]⟩
def rd33:RD:=⟨ax_,[.ag (ax_.p .d)],fun (a0,_)=>(ax_.of a0),fun r=>(ax_.to r,())⟩
def bv_.e:FE:=mkE rd33 125 30 1 [.ag (ax_.p .v)] [.cell 2 101] [] [(4,od93)] [(0,od94)] fun n (a0,_)=>bv_ n (ax_.of a0)
def rd34:RD:=⟨ax_ × aV_ × Bool,[.ag [.sl .d .int,.i .i64,.sl .s .s_iRow],.ag (aV_.p .d),.b],fun (a0,a1,a2,_)=>((ax_.of a0),(aV_.of a1),a2),fun (a0,a1,a2)=>(ax_.to a0,aV_.to a1,a2,())⟩
def fi_.e:FE:=mkE rd34 179 82 3 [.ag [.sl .d .int,.i .i64,.sl .s .s_iRow],.ag (TMut.p .v)] [.cell 4 101,.cell 5 175,.tmp 6] [] [] [] fun n (a0,a1,_)=>fi_ n (ax_.of a0) (TMut.of a1)
def ex_.e:FE:=mkE rd34 126 38 1 [.ag (ax_.p .v),.ag (TMut.p .v)] [.cell 4 101,.cell 5 175,.tmp 6] [] [] [] fun n (a0,a1,_)=>ex_ n (ax_.of a0) (TMut.of a1)
def od95:OD:=⟨[(0,.box [.view .u8,.k,.k]),(5,.box [.view .int,.k,.view .s_iRow]),(6,.own .s .iMut),(7,.k)],[.pb 1 0,.pb 2 0,.rt 3,.i .i64],[.ext,.box (af_.p .v),.box (ax_.p .v),.arr .s .iMut 2]⟩
def od96:OD:=⟨[(0,.box [.view .u8,.k,.k]),(5,.box [.view .int,.k,.view .s_iRow]),(6,.own .s .iMut),(7,.k),(8,.box [.k,.k,.k,.view .int])],[.pb 1 0,.pb 2 0,.rt 3,.i .i64,.pb 4 0],[.ext,.box (af_.p .v),.box (ax_.p .v),.arr .s .iMut 2,.box (TMut.p .v)]⟩
def od97:OD:=⟨[(6,.own .s .iMut)],[.rt 2],[.ext,.box (af_.p .v),.arr .s .iMut 2]⟩
def rd35:RD:=⟨(List TMut) × af_,[.sl .s .iMut,.bx (af_.p .v)],fun (a0,a1,_)=>(a0,(af_.of a1)),fun (a0,a1)=>(a0,af_.to a1,())⟩
def aC_.e:FE:=⟨_,⟨79,43,2,[.bx (af_.p .v),.ag (ax_.p .v)],rd35.rp,rd35.toR,rd35.ofR,[.ptr [.v,.v,.v],.ag [.v,.v,.v]],[.o,.ptr [.v,.v,.v]],[.own .s .iMut,.box [.view .u8,.k,.k]],[.tmp 4],[.pb 1 0],[(9,od96),(5,od95)],[(9,od95)],[(0,od97)]⟩,fun _=>true,fun n (a0,a1,_)=>aC_ n (af_.of a0) (ax_.of a1)⟩
def od98:OD:=⟨[(1,.view .iMut),(2,.box [.view .int,.k,.view .s_iRow]),(4,.box [.k,.k,.k]),(7,.own .d .iChange),(8,.box [.own .d .int,.k,.own .s .s_iRow]),(9,.own .d .iChange),(10,.k)],[.sl .v .iMut,.pb 1 0,.pb 2 0,.rt 3,.pb 4 0,.rt 5,.i .i64],[.ext,.box (ax_.p .v),.box [.nils,.i .i64,.nils],.arr .d .iChange 2,.box [.rt 6,.i .i64,.rt 7],.arr .d .iChange 2,.arr .d .int 2,.arr .s .s_iRow 2]⟩
def od99:OD:=⟨[(2,.box [.view .int,.k,.view .s_iRow]),(4,.box [.k,.k,.k]),(8,.box [.own .d .int,.k,.own .s .s_iRow]),(9,.own .d .iChange)],[.pb 1 0,.pb 2 0,.pb 3 0,.rt 4],[.ext,.box (ax_.p .v),.box [.nils,.i .i64,.nils],.box [.rt 5,.i .i64,.rt 6],.arr .d .iChange 2,.arr .d .int 2,.arr .s .s_iRow 2]⟩
def rd36:RD:=⟨ax_ × (List aV_) × Bool,[.ag [.sl .d .int,.i .i64,.sl .s .s_iRow],.sl .d .iChange,.b],fun (a0,a1,a2,_)=>((ax_.of a0),a1,a2),fun (a0,a1,a2)=>(ax_.to a0,a1,a2,())⟩
def bC_.e:FE:=mkE rd36 78 67 1 [.ag (ax_.p .v),.sl .v .iMut] [.cell 4 101,.tmp 5,.tmp 6] [] [(12,od98)] [(0,od99)] fun n (a0,a1,_)=>bC_ n (ax_.of a0) a1
def rd37:RD:=⟨bn_,[.ag [.i .i64,.sl .d .iCond,.i .i64,.b,.i .i64,.sl .d .int,.b,.i .i64,.i .i64,.sl .s .iRow,.sl .d .iKid]],fun (a0,_)=>(bn_.of a0),fun r=>(bn_.to r,())⟩
def de_.e:FE:=mkE rd37 180 76 1 [.ag (bn_.p .v),.ag (aV_.p .v)] [.cell 4 109] [] [] [] fun n (a0,a1,_)=>de_ n (bn_.of a0) (aV_.of a1)
def od100:OD:=⟨[(1,.view .iChange),(4,.box [.k,.k,.k,.k,.k,.k,.k,.k,.k,.k,.k]),(5,.box [.k,.own .d .iCond,.k,.k,.k,.own .d .int,.k,.k,.k,.own .s .iRow,.own .d .iKid]),(6,.k)],[.sl .v .iChange,.pb 1 0,.pb 2 0,.i .i64],[.ext,.box [.i .i64,.nils,.i .i64,.b,.i .i64,.nils,.b,.i .i64,.i .i64,.nils,.nils],.box [.i .i64,.rt 3,.i .i64,.b,.i .i64,.rt 4,.b,.i .i64,.i .i64,.rt 5,.rt 6],.arr .d .iCond 2,.arr .d .int 2,.arr .s .iRow 2,.arr .d .iKid 2]⟩
def od101:OD:=⟨[(4,.box [.k,.k,.k,.k,.k,.k,.k,.k,.k,.k,.k]),(5,.box [.k,.own .d .iCond,.k,.k,.k,.own .d .int,.k,.k,.k,.own .s .iRow,.own .d .iKid])],[.pb 1 0,.pb 2 0],[.ext,.box [.i .i64,.nils,.i .i64,.b,.i .i64,.nils,.b,.i .i64,.i .i64,.nils,.nils],.box [.i .i64,.rt 3,.i .i64,.b,.i .i64,.rt 4,.b,.i .i64,.i .i64,.rt 5,.rt 6],.arr .d .iCond 2,.arr .d .int 2,.arr .s .iRow 2,.arr .d .iKid 2]⟩
def aT_.e:FE:=mkE rd37 128 22 1 [.ag (bn_.p .v),.sl .v .iChange] [.cell 4 109] [] [(4,od100)] [(0,od101)] fun n (a0,a1,_)=>aT_ n (bn_.of a0) a1
def rd38:RD:=⟨cp_,[.ag [.i .i64,.sl .d .iCond,.i .i64,.b,.i .i64,.sl .d .int,.b,.i .i64,.i .i64,.sl .s .iRow,.sl .d .iKid,.i .i64,.i .i64,.sl .d .iCond,.i .i64,.b,.i .i64,.sl .d .int,.b,.i .i64,.i .i64,.sl .d .iRow,.sl .d .iKid,.i .i64,.b]],fun (a0,_)=>(cp_.of a0),fun r=>(cp_.to r,())⟩
def dT_.e:FE:=mkE rd38 80 18 1 [.ag (cp_.p .v),.sl .v .iChange] [.cell 4 111] [] [] [] fun n (a0,a1,_)=>dT_ n (cp_.of a0) a1
def od102:OD:=⟨[(0,.box [.view .u8,.k,.k]),(2,.box [.k,.k,.k]),(3,.box [.k,.k,.k,.k,.k,.k,.k,.k,.k,.k,.k,.k,.k,.k,.k,.k,.k,.k,.k,.k,.k,.k,.k,.k,.k]),(4,.box [.view .int,.k,.view .s_iRow])],[.pb 1 0,.pb 2 0,.pb 3 0,.pb 4 0],[.ext,.box (af_.p .v),.box [.nils,.i .i64,.nils],.box [.i .i64,.nils,.i .i64,.b,.i .i64,.nils,.b,.i .i64,.i .i64,.nils,.nils,.i .i64,.i .i64,.nils,.i .i64,.b,.i .i64,.nils,.b,.i .i64,.i .i64,.nils,.nils,.i .i64,.b],.box (ax_.p .v)]⟩
def od103:OD:=⟨[(0,.box [.view .u8,.k,.k]),(2,.box [.k,.k,.k]),(3,.box [.k,.k,.k,.k,.k,.k,.k,.k,.k,.k,.k,.k,.k,.k,.k,.k,.k,.k,.k,.k,.k,.k,.k,.k,.k]),(4,.box [.view .int,.k,.view .s_iRow]),(5,.box [.k,.view .iCond,.k,.k,.k,.view .int,.k,.k,.k,.view .iRow,.view .iKid,.k,.k,.view .iCond,.k,.k,.k,.view .int,.k,.k,.k,.view .iRow,.view .iKid,.k,.k]),(7,.k)],[.pb 1 0,.pb 2 0,.pb 3 0,.pb 4 0,.pb 5 0,.i .i64],[.ext,.box (af_.p .v),.box [.nils,.i .i64,.nils],.box [.i .i64,.nils,.i .i64,.b,.i .i64,.nils,.b,.i .i64,.i .i64,.nils,.nils,.i .i64,.i .i64,.nils,.i .i64,.b,.i .i64,.nils,.b,.i .i64,.i .i64,.nils,.nils,.i .i64,.b],.box (ax_.p .v),.box (cp_.p .v)]⟩
def od104:OD:=⟨[(0,.box [.view .u8,.k,.k]),(2,.box [.k,.k,.k]),(3,.box [.k,.k,.k,.k,.k,.k,.k,.k,.k,.k,.k,.k,.k,.k,.k,.k,.k,.k,.k,.k,.k,.k,.k,.k,.k]),(4,.box [.view .int,.k,.view .s_iRow]),(5,.box [.k,.view .iCond,.k,.k,.k,.view .int,.k,.k,.k,.view .iRow,.view .iKid,.k,.k,.view .iCond,.k,.k,.k,.view .int,.k,.k,.k,.view .iRow,.view .iKid,.k,.k]),(7,.k),(29,.k)],[.pb 1 0,.pb 2 0,.pb 3 0,.pb 4 0,.pb 5 0,.i .i64,.b],[.ext,.box (af_.p .v),.box [.nils,.i .i64,.nils],.box [.i .i64,.nils,.i .i64,.b,.i .i64,.nils,.b,.i .i64,.i .i64,.nils,.nils,.i .i64,.i .i64,.nils,.i .i64,.b,.i .i64,.nils,.b,.i .i64,.i .i64,.nils,.nils,.i .i64,.b],.box (ax_.p .v),.box (cp_.p .v)]⟩
def od105:OD:=⟨[(2,.box [.k,.k,.k]),(3,.box [.k,.k,.k,.k,.k,.k,.k,.k,.k,.k,.k,.k,.k,.k,.k,.k,.k,.k,.k,.k,.k,.k,.k,.k,.k]),(4,.box [.view .int,.k,.view .s_iRow]),(5,.box [.k,.view .iCond,.k,.k,.k,.view .int,.k,.k,.k,.view .iRow,.view .iKid,.k,.k,.view .iCond,.k,.k,.k,.view .int,.k,.k,.k,.view .iRow,.view .iKid,.k,.k])],[.pb 2 0,.pb 3 0,.pb 4 0,.pb 5 0],[.ext,.box (af_.p .v),.box [.nils,.i .i64,.nils],.box [.i .i64,.nils,.i .i64,.b,.i .i64,.nils,.b,.i .i64,.i .i64,.nils,.nils,.i .i64,.i .i64,.nils,.i .i64,.b,.i .i64,.nils,.b,.i .i64,.i .i64,.nils,.nils,.i .i64,.b],.box (ax_.p .v),.box (cp_.p .v)]⟩
def rd39:RD:=⟨ax_ × cp_ × af_,[.ag (ax_.p .v),.ag (cp_.p .v),.bx (af_.p .v)],fun (a0,a1,a2,_)=>((ax_.of a0),(cp_.of a1),(af_.of a2)),fun (a0,a1,a2)=>(ax_.to a0,cp_.to a1,af_.to a2,())⟩
def as_.e:FE:=⟨_,⟨106,52,2,[.bx (af_.p .v)],rd39.rp,rd39.toR,rd39.ofR,[.ptr [.v,.v,.v]],[.ag [.v,.v,.v],.ag [.v,.v,.v,.v,.v,.v,.v,.v,.v,.v,.v,.v,.v,.v,.v,.v,.v,.v,.v,.v,.v,.v,.v,.v,.v],.ptr [.v,.v,.v]],[.ag [.view .int,.k,.view .s_iRow],.ag [.k,.view .iCond,.k,.k,.k,.view .int,.k,.k,.k,.view .iRow,.view .iKid,.k,.k,.view .iCond,.k,.k,.k,.view .int,.k,.k,.k,.view .iRow,.view .iKid,.k,.k],.box [.view .u8,.k,.k]],[.cell 2 101,.cell 3 111],[.pb 1 0],[(10,od104),(5,od103),(1,od102)],[(10,od103)],[(0,od105)]⟩,fun _=>true,fun n (a0,_)=>as_ n (af_.of a0)⟩
def rd40:RD:=⟨aX_ × af_,[.ag [.i .i64,.i .i64,.i .i64,.i .i64,.i .i64,.s,.sl .v .iJson,.sl .v .str,.sl .d .iOp],.bx (af_.p .v)],fun (a0,a1,_)=>((aX_.of a0),(af_.of a1)),fun (a0,a1)=>(aX_.to a0,af_.to a1,())⟩
def cQ_.e:FE:=mkE rd40 59 30 2 [.bx (af_.p .v)] [.cell 2 35] [.pb 1 0] [] [] fun n (a0,_)=>cQ_ n (af_.of a0)
def od106:OD:=⟨[(2,.box [.k,.k,.k,.k,.k]),(3,.box [.k,.k,.k,.own .s .iJson,.own .d .str]),(4,.k)],[.pb 2 0,.pb 3 0,.i .i64],[.ext,.box (af_.p .v),.box [.i .i64,.i .i64,.s,.nils,.nils],.box [.i .i64,.i .i64,.s,.rt 4,.rt 5],.arr .s .iJson 2,.arr .d .str 2]⟩
def od107:OD:=⟨[(2,.box [.k,.k,.k,.k,.k]),(3,.box [.k,.k,.k,.own .s .iJson,.own .d .str])],[.pb 2 0,.pb 3 0],[.ext,.box (af_.p .v),.box [.i .i64,.i .i64,.s,.nils,.nils],.box [.i .i64,.i .i64,.s,.rt 4,.rt 5],.arr .s .iJson 2,.arr .d .str 2]⟩
def bz_.e:FE:=mkE rd7 82 51 2 [.bx (af_.p .v)] [.cell 2 29] [.pb 1 0] [(10,od106)] [(1,od107)] fun n (a0,_)=>bz_ n (af_.of a0)
def od108:OD:=⟨[(0,.box [.view .u8,.k,.k]),(3,.box [.k,.k,.k,.view .iJson,.view .str]),(5,.own .d .str),(6,.k)],[.pb 1 0,.pb 2 0,.rt 3,.i .i64],[.ext,.box (af_.p .v),.box (aa_.p .v),.arr .d .str 2]⟩
def od109:OD:=⟨[(0,.box [.view .u8,.k,.k]),(5,.own .d .str)],[.pb 1 0,.rt 2],[.ext,.box (af_.p .v),.arr .d .str 2]⟩
def rd41:RD:=⟨(List Bs) × af_,[.sl .d .str,.bx (af_.p .v)],fun (a0,a1,_)=>(a0,(af_.of a1)),fun (a0,a1)=>(a0,af_.to a1,())⟩
def bl_.e:FE:=mkE rd41 129 65 2 [.bx (af_.p .v),.ag (aa_.p .v)] [.tmp 4] [.pb 1 0] [(4,od108)] [(0,od109)] fun n (a0,a1,_)=>bl_ n (af_.of a0) (aa_.of a1)
def od110:OD:=⟨[(0,.k),(3,.k),(4,.k)],[.s,.i .i64,.i .i64],[.ext]⟩
def bB_.e:FE:=mkE rd5 232 41 1 [.s] [.tmp 2] [] [(7,od110)] [(0,od54)] (un1 bB_)
def fj_.e:FE:=mkE rd5 181 23 1 [.ag (aa_.p .v),.s] [.tmp 4] [] [] [] fun n (a0,a1,_)=>fj_ n (aa_.of a0) a1
def od111:OD:=⟨[(1,.view .str),(2,.box [.k,.k,.k,.view .iJson,.view .str]),(4,.box [.k,.k,.k,.k,.k]),(6,.k)],[.sl .v .str,.pb 1 0,.pb 2 0,.i .i64],[.ext,.box (aa_.p .v),.box [.i .i64,.i .i64,.s,.nils,.nils]]⟩
def od112:OD:=⟨[(2,.box [.k,.k,.k,.view .iJson,.view .str]),(4,.box [.k,.k,.k,.k,.k])],[.pb 1 0,.pb 2 0],[.ext,.box (aa_.p .v),.box [.i .i64,.i .i64,.s,.nils,.nils]]⟩
def rd42:RD:=⟨aa_ × Bool,[.ag (aa_.p .d),.b],fun (a0,a1,_)=>((aa_.of a0),a1),fun (a0,a1)=>(aa_.to a0,a1,())⟩
def cM_.e:FE:=mkE rd42 130 34 1 [.ag (aa_.p .v),.sl .v .str] [.cell 4 29,.tmp 5] [] [(6,od111)] [(0,od112)] fun n (a0,a1,_)=>cM_ n (aa_.of a0) a1
def rd43:RD:=⟨TOp × af_,[.ag [.i .i64,.sl .d .str,.i .i64,.i .i64,.s,.sl .s .iJson,.sl .d .str],.bx (af_.p .v)],fun (a0,a1,_)=>((TOp.of a0),(af_.of a1)),fun (a0,a1)=>(TOp.to a0,af_.to a1,())⟩
def dL_.e:FE:=mkE rd43 83 64 2 [.bx (af_.p .v),.ag (aa_.p .v)] [.cell 4 87] [.pb 1 0] [] [] fun n (a0,a1,_)=>dL_ n (af_.of a0) (aa_.of a1)
def rd44:RD:=⟨aX_ × af_,[.ag [.i .i64,.i .i64,.i .i64,.i .i64,.i .i64,.s,.sl .v .iJson,.sl .v .str,.sl .s .iOp],.bx (af_.p .v)],fun (a0,a1,_)=>((aX_.of a0),(af_.of a1)),fun (a0,a1)=>(aX_.to a0,af_.to a1,())⟩
def d4_.e:FE:=mkE rd44 38 41 2 [.bx (af_.p .v)] [.cell 2 35] [.pb 1 0] [] [] fun n (a0,_)=>d4_ n (af_.of a0)
def rd45:RD:=⟨aX_,[.ag [.i .i64,.i .i64,.i .i64,.i .i64,.i .i64,.s,.sl .v .iJson,.sl .v .str,.sl .s .iOp]],fun (a0,_)=>(aX_.of a0),fun r=>(aX_.to r,())⟩
def cU_.e:FE:=mkE rd45 15 6 1 [.sl .v .u8] [.cell 2 35] [] [] [] (un1 cU_)
def aN_.e:FE:=mkE rd0 55 15 1 (b3_.p .v) [.tmp 6] [] [] [] (un3 aN_)
def db_.e:FE:=mkE rd0 54 5 1 [.i .i64] [.tmp 2] [] [] [] (un1 db_)
def bm_.e:FE:=mkE rd0 233 5 1 [.i .i64] [.tmp 2] [] [] [] (un1 bm_)
def od113:OD:=⟨[(0,.k),(5,.k),(6,.k)],[.s,.i .i64,.i .i64],[.ext]⟩
def az_.e:FE:=mkE rd0 183 19 1 [.s] [.tmp 2] [] [(3,od113)] [(0,od55)] (un1 az_)
def od114:OD:=⟨[(0,.view .str),(5,.view .str),(6,.k),(7,.k)],[.sl .v .str,.sl .v .str,.i .i64,.i .i64],[.ext]⟩
def au_.e:FE:=mkE rd0 234 29 1 [.sl .v .str] [.tmp 2] [] [(3,od114)] [(0,od3)] (un1 au_)
def eT_.e:FE:=mkE rd0 182 90 1 [.ag (aa_.p .v)] [.tmp 2] [] [] [] fun n (a0,_)=>eT_ n (aa_.of a0)
def od115:OD:=⟨[(1,.k),(5,.k),(16,.view .iJson),(17,.k),(18,.k)],[.i .i64,.i .i64,.sl .v .iJson,.i .i64,.i .i64],[.ext]⟩
def od116:OD:=⟨[(5,.k)],[.i .i64],[.ext]⟩
def bI_.e:FE:=mkE rd5 131 32 1 [.ag (aa_.p .v),.i .i64] [.tmp 4] [] [(7,od115)] [(0,od116)] fun n (a0,a1,_)=>bI_ n (aa_.of a0) a1
def c7_.e:FE:=mkE rd0 89 6 1 [.ag (aa_.p .v)] [.tmp 2] [] [] [] fun n (a0,_)=>c7_ n (aa_.of a0)
def od117:OD:=⟨[(0,.k),(3,.own .d .u8),(7,.k),(8,.k)],[.s,.rt 1,.i .i64,.i .i64],[.ext,.arr .d .u8 2]⟩
def bW_.e:FE:=mkE oe_ 138 35 1 [.s] [.tmp 2] [] [(4,od117)] [(0,od87)] (un1 bW_)
def strconv_Itoa.e:FE:=mkE oe_ 95 5 1 [.i .i64] [.tmp 2] [] [] [] (un1 strconv_Itoa)
def strings_Join.e:FE:=mkE oe_ 139 75 1 [.sl .v .str,.s] [.tmp 4] [] [] [] (un2 strings_Join)
def od118:OD:=⟨[(1,.box [.k,.k,.k,.view .iJson,.view .str]),(3,.own .d .str),(9,.view .iJson),(10,.k),(11,.k)],[.pb 1 0,.rt 2,.sl .v .iJson,.i .i64,.i .i64],[.ext,.box (aa_.p .v),.arr .d .str 2]⟩
def od119:OD:=⟨[(1,.box [.k,.k,.k,.view .iJson,.view .str]),(3,.own .d .str)],[.pb 1 0,.rt 2],[.ext,.box (aa_.p .v),.arr .d .str 2]⟩
def a8_.e:FE:=mkE oe_ 96 66 1 [.ag (aa_.p .v)] [.tmp 2] [] [(4,od118)] [(0,od119)] fun n (a0,_)=>a8_ n (aa_.of a0)
def dq_.e:FE:=mkE oe_ 49 13 1 [.ag (aa_.p .v)] [.tmp 2] [] [] [] fun n (a0,_)=>dq_ n (aa_.of a0)
def dW_.e:FE:=mkE rd0 56 28 1 [.ag (aa_.p .v)] [.tmp 2] [] [] [] fun n (a0,_)=>dW_ n (aa_.of a0)
def od120:OD:=⟨[(1,.box [.k,.view .str,.k,.k,.k,.view .iJson,.view .str]),(6,.view .str),(7,.k),(8,.k)],[.pb 1 0,.sl .v .str,.i .i64,.i .i64],[.ext,.box (TOp.p .v)]⟩
def cs_.e:FE:=mkE rd0 132 40 1 [.ag (TOp.p .v)] [.tmp 2] [] [(3,od120)] [(0,od84)] fun n (a0,_)=>cs_ n (TOp.of a0)
def dl_.e:FE:=mkE rd30 140 2 1 [] [.tmp 0] [] [] [] fun n _=>dl_ n ()
def strings_ReplaceAll.e:FE:=mkE oe_ 196 11 1 [.s,.s,.s] [.tmp 6] [] [] [] (un3 strings_ReplaceAll)
def od121:OD:=⟨[(3,.k),(6,.view .str),(7,.k),(8,.k)],[.s,.sl .v .str,.i .i64,.i .i64],[.ext]⟩
def od122:OD:=⟨[(3,.k)],[.s],[.ext]⟩
def bS_.e:FE:=mkE oe_ 141 20 1 [.sl .v .str] [.tmp 2] [] [(4,od121)] [(0,od122)] (un1 bS_)
def dx_.e:FE:=mkE rd30 88 6 1 [.sl .v .str] [.tmp 2] [] [] [] (un1 dx_)
def od123:OD:=⟨[(2,.box [.k,.k,.k,.k,.k]),(3,.box [.k,.k,.k,.own .d .iJson,.own .d .str]),(17,.view .iJson),(18,.k),(19,.k)],[.pb 1 0,.pb 2 0,.sl .v .iJson,.i .i64,.i .i64],[.ext,.box [.i .i64,.i .i64,.s,.nils,.nils],.box [.i .i64,.i .i64,.s,.rt 3,.rt 4],.arr .d .iJson 2,.arr .d .str 2]⟩
def a7_.e:FE:=mkE rd26 42 32 1 [.ag (aa_.p .v)] [.cell 2 29] [] [(4,od123)] [(0,od76)] fun n (a0,_)=>a7_ n (aa_.of a0)
def eb_.e:FE:=mkE rd26 142 8 3 [.ag (aa_.p .d)] [.cell 2 29] [] [] [] fun n (a0,_)=>eb_ n (aa_.of a0)
def ed_.e:FE:=mkE rd26 97 41 1 [.ag (TOp.p .v)] [.cell 2 29] [] [] [] fun n (a0,_)=>ed_ n (TOp.of a0)
def od124:OD:=⟨[(2,.box [.k,.k,.k,.k,.k]),(4,.box [.k,.k,.k,.own .d .iJson,.k]),(9,.view .iOp),(10,.k),(11,.k)],[.pb 1 0,.pb 2 0,.sl .v .iOp,.i .i64,.i .i64],[.ext,.box [.i .i64,.i .i64,.s,.nils,.nils],.box [.i .i64,.i .i64,.s,.rt 3,.nils],.arr .d .iJson 2]⟩
def od125:OD:=⟨[(2,.box [.k,.k,.k,.k,.k]),(4,.box [.k,.k,.k,.own .d .iJson,.k])],[.pb 1 0,.pb 2 0],[.ext,.box [.i .i64,.i .i64,.s,.nils,.nils],.box [.i .i64,.i .i64,.s,.rt 3,.nils],.arr .d .iJson 2]⟩
def bq_.e:FE:=mkE rd42 50 29 1 [.sl .v .iOp] [.cell 2 29,.tmp 3] [] [(4,od124)] [(0,od125)] (un1 bq_)
def dy_.e:FE:=mkE rd5 57 21 1 [.sl .v .iOp] [.tmp 2] [] [] [] (un1 dy_)
def cT_.e:FE:=mkE rd0 18 57 1 [.ag (aX_.p .v)] [.tmp 2] [] [] [] fun n (a0,_)=>cT_ n (aX_.of a0)
def ec_.e:FE:=mkE oe_ 48 5 1 [.i .i64] [.tmp 2] [] [] [] (un1 ec_)
def co_.e:FE:=mkE oe_ 16 43 1 [.ag (aX_.p .v)] [.tmp 2] [] [] [] fun n (a0,_)=>co_ n (aX_.of a0)
def od126:OD:=⟨[(0,.view .iOp),(2,.box [.k,.k,.k,.k,.k]),(4,.box [.k,.k,.k,.own .s .iJson,.k]),(5,.k)],[.sl .v .iOp,.pb 1 0,.pb 2 0,.i .i64],[.ext,.box [.i .i64,.i .i64,.s,.nils,.nils],.box [.i .i64,.i .i64,.s,.rt 3,.nils],.arr .s .iJson 2]⟩
def od127:OD:=⟨[(0,.view .iOp),(2,.box [.k,.k,.k,.k,.k]),(4,.box [.k,.k,.k,.own .s .iJson,.k])],[.sl .v .iOp,.pb 1 0,.pb 2 0],[.ext,.box [.i .i64,.i .i64,.s,.nils,.nils],.box [.i .i64,.i .i64,.s,.rt 3,.nils],.arr .s .iJson 2]⟩
def rd46:RD:=⟨aa_ × Bool,[.ag [.i .i64,.i .i64,.s,.sl .s .iJson,.sl .d .str],.b],fun (a0,a1,_)=>((aa_.of a0),a1),fun (a0,a1)=>(aa_.to a0,a1,())⟩
def bN_.e:FE:=mkE rd46 53 38 1 [.sl .v .iOp] [.cell 2 29,.tmp 3] [] [(4,od126)] [(0,od127)] (un1 bN_)
def d8_.e:FE:=mkE rd0 45 51 1 [.ag (aX_.p .v)] [.tmp 2] [] [] [] fun n (a0,_)=>d8_ n (aX_.of a0)
def c3_.e:FE:=mkE oe_ 17 43 1 [.ag (aX_.p .v)] [.tmp 2] [] [] [] fun n (a0,_)=>c3_ n (aX_.of a0)
def bi_.e:FE:=mkE rd0 197 18 1 [.s,.s] [.tmp 4] [] [] [] (un2 bi_)
def rd47:RD:=⟨Bs × Bool,(aB_.p .v),fun (a0,a1,_)=>(a0,a1),fun (a0,a1)=>(a0,a1,())⟩
def bR_.e:FE:=mkE rd47 145 15 1 [.s,.s] [.tmp 4,.tmp 5] [] [] [] (un2 bR_)
def cP_.e:FE:=mkE rd47 100 11 1 [.s,.s] [.tmp 4,.tmp 5] [] [] [] (un2 cP_)
def b7_.e:FE:=mkE rd5 113 143 1 [.s,.s] [.tmp 4] [] [] [] (un2 b7_)
def rd48:RD:=⟨Bs × Bs × Bool,[.s,.s,.b],fun (a0,a1,a2,_)=>(a0,a1,a2),fun (a0,a1,a2)=>(a0,a1,a2,())⟩
def ci_.e:FE:=mkE rd48 198 23 1 [.s,.s] [.tmp 4,.tmp 5,.tmp 6] [] [] [] (un2 ci_)
def ep_.e:FE:=mkE rd48 146 13 1 [.s,.s] [.tmp 4,.tmp 5,.tmp 6] [] [] [] (un2 ep_)
def bH_.e:FE:=mkE oe_ 150 13 1 [.s,.s] [.tmp 4] [] [] [] (un2 bH_)
def cH_.e:FE:=mkE oe_ 104 8 1 [.s,.s] [.tmp 4] [] [] [] (un2 cH_)
def rd49:RD:=⟨Bs × Bs,[.s,.s],fun (a0,a1,_)=>(a0,a1),fun (a0,a1)=>(a0,a1,())⟩
def dp_.e:FE:=mkE rd49 101 19 1 [.s,.s] [.tmp 4,.tmp 5] [] [] [] (un2 dp_)
def rd50:RD:=⟨Int × Bool,[.i .i64,.er],fun (a0,a1,_)=>(a0,a1),fun (a0,a1)=>(a0,a1,())⟩
def cS_.e:FE:=mkE rd50 102 18 1 [.s] [.tmp 2,.tmp 3] [] [] [] (un1 cS_)
def rd51:RD:=⟨Bool × aB_,[.b,.bx (aB_.p .v)],fun (a0,a1,_)=>(a0,(aB_.of a1)),fun (a0,a1)=>(a0,aB_.to a1,())⟩
def bs_.e:FE:=mkE rd51 204 28 2 [.bx (aB_.p .v),.s] [.tmp 4] [.pb 1 0] [] [] fun n (a0,a1,_)=>bs_ n (aB_.of a0) a1
def c0_.e:FE:=mkE rd0 205 8 1 [.s,.s] [.tmp 4] [] [] [] (un2 c0_)
def rd52:RD:=⟨aB_,[.bx (aB_.p .v)],fun (a0,_)=>(aB_.of a0),fun r=>(aB_.to r,())⟩
def cl_.e:FE:=mkE rd52 253 11 2 [.bx (aB_.p .v),.s] [] [.pb 1 0] [] [] fun n (a0,a1,_)=>cl_ n (aB_.of a0) a1
def od128:OD:=⟨[(0,.box [.k,.k]),(3,.own .d .u8)],[.pb 1 0,.rt 2],[.ext,.box (aB_.p .v),.arr .d .u8 2]⟩
def od129:OD:=⟨[],[],[.ext,.box (aB_.p .v)]⟩
def rd53:RD:=⟨Bs × aB_,[.s,.bx (aB_.p .v)],fun (a0,a1,_)=>(a0,(aB_.of a1)),fun (a0,a1)=>(a0,aB_.to a1,())⟩
def aw_.e:FE:=mkE rd53 206 42 2 [.bx (aB_.p .v)] [.tmp 2] [.pb 1 0] [(4,od128)] [(0,od129)] fun n (a0,_)=>aw_ n (aB_.of a0)
def od130:OD:=⟨[(0,.box [.k,.k]),(1,.k),(2,.k),(3,.k),(8,.box [.k,.k,.k,.k,.k]),(9,.box [.k,.k,.k,.own .d .iJson,.own .d .str]),(10,.k)],[.pb 1 0,.i .i64,.s,.i .i64,.pb 2 0,.pb 3 0,.b],[.ext,.box (aB_.p .v),.box [.i .i64,.i .i64,.s,.nils,.nils],.box [.i .i64,.i .i64,.s,.rt 4,.rt 5],.arr .d .iJson 2,.arr .d .str 2]⟩
def od131:OD:=⟨[(0,.box [.k,.k]),(2,.k),(8,.box [.k,.k,.k,.k,.k]),(9,.box [.k,.k,.k,.own .d .iJson,.own .d .str])],[.pb 1 0,.s,.pb 2 0,.pb 3 0],[.ext,.box (aB_.p .v),.box [.i .i64,.i .i64,.s,.nils,.nils],.box [.i .i64,.i .i64,.s,.rt 4,.rt 5],.arr .d .iJson 2,.arr .d .str 2]⟩
def rd54:RD:=⟨aa_ × aB_,[.ag (aa_.p .d),.bx (aB_.p .v)],fun (a0,a1,_)=>((aa_.of a0),(aB_.of a1)),fun (a0,a1)=>(aa_.to a0,aB_.to a1,())⟩
def an_.e:FE:=mkE rd54 207 55 2 [.bx (aB_.p .v),.i .i64,.s,.i .i64] [.cell 8 29] [.pb 1 0] [(7,od130)] [(0,od131)] fun n (a0,a1,a2,a3,_)=>an_ n (aB_.of a0) a1 a2 a3
def od132:OD:=⟨[(0,.box [.k,.k]),(2,.box [.k,.k,.k,.k,.k]),(3,.k)],[.pb 1 0,.pb 2 0,.i .i64],[.ext,.box (aB_.p .v),.box [.i .i64,.i .i64,.s,.nils,.nils]]⟩
def ao_.e:FE:=mkE rd54 208 63 2 [.bx (aB_.p .v)] [.cell 2 29] [.pb 1 0] [(3,od132)] [(0,od132)] fun n (a0,_)=>ao_ n (aB_.of a0)
def aZ_.e:FE:=mkE rd54 149 54 2 [.bx (aB_.p .v),.i .i64] [.cell 4 29] [.pb 1 0] [] [] fun n (a0,a1,_)=>aZ_ n (aB_.of a0) a1
def dI_.e:FE:=mkE rd42 103 27 1 [.s] [.cell 2 29,.tmp 3] [] [] [] (un1 dI_)
def od133:OD:=⟨[(0,.view .str),(1,.k),(7,.k),(8,.k)],[.sl .v .str,.s,.i .i64,.i .i64],[.ext]⟩
def aF_.e:FE:=mkE rd5 211 19 1 [.sl .v .str,.s] [.tmp 4] [] [(3,od133)] [(0,od3)] (un2 aF_)
def ej_.e:FE:=mkE rd42 209 25 1 [.ag (aa_.p .v),.s] [.cell 4 29,.tmp 5] [] [] [] fun n (a0,a1,_)=>ej_ n (aa_.of a0) a1
def strings_Split.e:FE:=mkE rd30 254 8 1 [.s,.s] [.tmp 4] [] [] [] (un2 strings_Split)
def od134:OD:=⟨[(0,.k),(4,.own .d .str),(13,.view .str),(14,.k),(15,.k)],[.s,.rt 1,.sl .v .str,.i .i64,.i .i64],[.ext,.arr .d .str 2]⟩
def od135:OD:=⟨[(0,.k),(4,.own .d .str)],[.s,.rt 1],[.ext,.arr .d .str 2]⟩
def rd55:RD:=⟨(List Bs) × Bool,[.sl .d .str,.b],fun (a0,a1,_)=>(a0,a1),fun (a0,a1)=>(a0,a1,())⟩
def bD_.e:FE:=mkE rd55 210 36 1 [.s] [.tmp 2,.tmp 3] [] [(7,od134)] [(0,od135)] (un1 bD_)
def od136:OD:=⟨[(0,.view .str),(1,.view .str),(12,.k),(13,.k)],[.sl .v .str,.sl .v .str,.i .i64,.i .i64],[.ext]⟩
def aI_.e:FE:=mkE rd0 260 26 1 [.sl .v .str,.sl .v .str] [.tmp 4] [] [(6,od136)] [(0,od3)] (un2 aI_)
def od137:OD:=⟨[(1,.view .iJson),(2,.k),(15,.view .iJson),(16,.k),(17,.k)],[.sl .v .iJson,.clo 235 [],.sl .v .iJson,.i .i64,.i .i64],[.ext]⟩
def aj_.e:FE:=mkE rd0 261 32 1 [.sl .v .iJson,.sl .v .iJson,.clo 235 []] [.tmp 6] [] [(6,od137)] [(0,od3)] fun n (a0,a1,_,_)=>aj_ n a0 a1
def d2_.e:FE:=mkE rd0 235 38 1 [.ag (aa_.p .v),.ag (aa_.p .v)] [.tmp 4] [] [] [] fun n (a0,a1,_)=>d2_ n (aa_.of a0) (aa_.of a1)
def dN_.e:FE:=mkE rd0 212 16 1 [.ag (aa_.p .v),.ag (aa_.p .v)] [.tmp 4] [] [] [] fun n (a0,a1,_)=>dN_ n (aa_.of a0) (aa_.of a1)
def rd56:RD:=⟨TOp × Bool,[.ag (TOp.p .d),.b],fun (a0,a1,_)=>((TOp.of a0),a1),fun (a0,a1)=>(TOp.to a0,a1,())⟩
def dX_.e:FE:=mkE rd56 151 66 1 [.ag (aa_.p .v)] [.cell 2 87,.tmp 3] [] [] [] fun n (a0,_)=>dX_ n (aa_.of a0)
def od138:OD:=⟨[(1,.box [.k,.k,.k,.view .iJson,.view .str]),(4,.own .d .iOp),(11,.view .iJson),(12,.k),(13,.k)],[.pb 1 0,.rt 2,.sl .v .iJson,.i .i64,.i .i64],[.ext,.box (aa_.p .v),.arr .d .iOp 2]⟩
def od139:OD:=⟨[(1,.box [.k,.k,.k,.view .iJson,.view .str]),(4,.own .d .iOp)],[.pb 1 0,.rt 2],[.ext,.box (aa_.p .v),.arr .d .iOp 2]⟩
def rd57:RD:=⟨(List TOp) × Bool,[.sl .d .iOp,.b],fun (a0,a1,_)=>(a0,a1),fun (a0,a1)=>(a0,a1,())⟩
def bY_.e:FE:=mkE rd57 105 33 1 [.ag (aa_.p .v)] [.tmp 2,.tmp 3] [] [(4,od138)] [(0,od139)] fun n (a0,_)=>bY_ n (aa_.of a0)
def rd58:RD:=⟨aX_,[.ag (aX_.p .d)],fun (a0,_)=>(aX_.of a0),fun r=>(aX_.to r,())⟩
def dm_.e:FE:=mkE rd58 58 96 1 [.s] [.cell 2 35] [] [] [] (un1 dm_)
def rd59:RD:=⟨aX_ × Bool,[.ag (aX_.p .d),.b],fun (a0,a1,_)=>((aX_.of a0),a1),fun (a0,a1)=>(aX_.to a0,a1,())⟩
def cu_.e:FE:=mkE rd59 19 19 1 [.s] [.cell 2 35,.tmp 3] [] [] [] (un1 cu_)
def cy_.e:FE:=mkE oe_ 20 37 1 [.sl .v .u8] [.tmp 2] [] [] [] (un1 cy_)
def od140:OD:=⟨[(0,.k),(3,.own .d .str),(4,.k),(5,.k)],[.s,.rt 1,.i .i64,.i .i64],[.ext,.arr .d .str 2]⟩
def od141:OD:=⟨[(3,.own .d .str)],[.rt 1],[.ext,.arr .d .str 2]⟩
def bj_.e:FE:=mkE rd30 61 27 1 [.s] [.tmp 2] [] [(5,od140)] [(0,od141)] (un1 bj_)
def cI_.e:FE:=mkE oe_ 62 22 1 [.s,.s] [.tmp 4] [] [] [] (un2 cI_)
def rd60:RD:=⟨Int × a4_,[.i .u8,.bx (a4_.p .v)],fun (a0,a1,_)=>(a0,(a4_.of a1)),fun (a0,a1)=>(a0,a4_.to a1,())⟩
def cX_.e:FE:=mkE rd60 152 22 2 [.bx (a4_.p .v)] [.tmp 2] [.pb 1 0] [] [] fun n (a0,_)=>cX_ n (a4_.of a0)
def od142:OD:=⟨[(0,.box [.k,.k,.k,.k]),(3,.k),(4,.k),(5,.k)],[.pb 1 0,.b,.i .i64,.i .i64],[.ext,.box (a4_.p .v)]⟩
def rd61:RD:=⟨Int × a4_,[.i .i64,.bx (a4_.p .v)],fun (a0,a1,_)=>(a0,(a4_.of a1)),fun (a0,a1)=>(a0,a4_.to a1,())⟩
def aD_.e:FE:=mkE rd61 107 65 2 [.bx (a4_.p .v)] [.tmp 2] [.pb 1 0] [(7,od142)] [(0,od142)] fun n (a0,_)=>aD_ n (a4_.of a0)
def rd62:RD:=⟨Int × Bool,[.i .i64,.b],fun (a0,a1,_)=>(a0,a1),fun (a0,a1)=>(a0,a1,())⟩
def dF_.e:FE:=mkE rd62 63 22 1 [.s] [.tmp 2,.tmp 3] [] [] [] (un1 dF_)
def rd63:RD:=⟨a4_,[.bx (a4_.p .v)],fun (a0,_)=>(a4_.of a0),fun r=>(a4_.to r,())⟩
def ca_.e:FE:=mkE rd63 153 50 2 [.bx (a4_.p .v),.s] [] [.pb 1 0] [] [] fun n (a0,a1,_)=>ca_ n (a4_.of a0) a1
def od143:OD:=⟨[(0,.box [.k,.k,.k,.k]),(3,.own .d .u8)],[.pb 1 0,.rt 2],[.ext,.box (a4_.p .v),.arr .d .u8 2]⟩
def rd64:RD:=⟨Bs × a4_,[.s,.bx (a4_.p .v)],fun (a0,a1,_)=>(a0,(a4_.of a1)),fun (a0,a1)=>(a0,a4_.to a1,())⟩
def aG_.e:FE:=mkE rd64 154 62 2 [.bx (a4_.p .v)] [.tmp 2] [.pb 1 0] [(4,od143)] [(0,od143)] fun n (a0,_)=>aG_ n (a4_.of a0)
def od144:OD:=⟨[(0,.box [.k,.k,.k,.k]),(1,.k),(4,.box [.k,.k,.k,.k,.k]),(5,.box [.k,.k,.k,.own .d .iJson,.own .d .str]),(6,.k)],[.pb 1 0,.i .i64,.pb 2 0,.pb 3 0,.s],[.ext,.box (a4_.p .v),.box [.i .i64,.i .i64,.s,.nils,.nils],.box [.i .i64,.i .i64,.s,.rt 4,.rt 5],.arr .d .iJson 2,.arr .d .str 2]⟩
def od145:OD:=⟨[(0,.box [.k,.k,.k,.k]),(4,.box [.k,.k,.k,.k,.k]),(5,.box [.k,.k,.k,.own .d .iJson,.own .d .str]),(6,.k)],[.pb 1 0,.pb 2 0,.pb 3 0,.s],[.ext,.box (a4_.p .v),.box [.i .i64,.i .i64,.s,.nils,.nils],.box [.i .i64,.i .i64,.s,.rt 4,.rt 5],.arr .d .iJson 2,.arr .d .str 2]⟩
def rd65:RD:=⟨aa_ × a4_,[.ag (aa_.p .d),.bx (a4_.p .v)],fun (a0,a1,_)=>((aa_.of a0),(a4_.of a1)),fun (a0,a1)=>(aa_.to a0,a4_.to a1,())⟩
def aW_.e:FE:=mkE rd65 155 61 2 [.bx (a4_.p .v),.i .i64] [.cell 4 29] [.pb 1 0] [(8,od144)] [(0,od145)] fun n (a0,a1,_)=>aW_ n (a4_.of a0) a1
def bP_.e:FE:=mkE rd65 108 61 2 [.bx (a4_.p .v),.i .i64] [.cell 4 29] [.pb 1 0] [] [] fun n (a0,a1,_)=>bP_ n (a4_.of a0) a1
def dV_.e:FE:=mkE rd42 64 41 1 [.s] [.cell 2 29,.tmp 3] [] [] [] (un1 dV_)
def dS_.e:FE:=mkE rd42 109 29 1 [.ag (aa_.p .v),.s] [.cell 4 29,.tmp 5] [] [] [] fun n (a0,a1,_)=>dS_ n (aa_.of a0) a1
def od146:OD:=⟨[(0,.k),(4,.own .d .str),(5,.own .d .str),(6,.own .d .u8),(7,.k)],[.s,.rt 1,.rt 2,.rt 3,.i .i64],[.ext,.arr .d .str 2,.arr .d .str 2,.arr .d .u8 2]⟩
def od147:OD:=⟨[(0,.k),(4,.own .d .str),(5,.own .d .str),(6,.own .d .u8)],[.s,.rt 1,.rt 2,.rt 3],[.ext,.arr .d .str 2,.arr .d .str 2,.arr .d .u8 2]⟩
def a3_.e:FE:=mkE rd55 111 86 1 [.s] [.tmp 2,.tmp 3] [] [(6,od146)] [(0,od147)] (un1 a3_)
def od148:OD:=⟨[(1,.box [.k,.k,.k,.view .iJson,.view .str]),(2,.box [.k,.k,.k,.k,.k,.k,.k]),(4,.box [.k,.k,.k,.k,.k,.k,.k]),(5,.box [.k,.k,.k,.own .d .iJson,.own .d .str]),(7,.box [.k,.k,.k,.own .d .iJson,.own .d .str]),(9,.own .d .str),(10,.k)],[.pb 1 0,.pb 2 0,.pb 3 0,.pb 4 0,.pb 5 0,.rt 6,.i .i64],[.ext,.box (aa_.p .v),.box [.i .i64,.nils,.i .i64,.i .i64,.s,.nils,.nils],.box [.i .i64,.nils,.i .i64,.i .i64,.s,.nils,.nils],.box [.i .i64,.i .i64,.s,.rt 7,.rt 8],.box [.i .i64,.i .i64,.s,.rt 9,.rt 10],.arr .d .str 2,.arr .d .iJson 2,.arr .d .str 2,.arr .d .iJson 2,.arr .d .str 2]⟩
def od149:OD:=⟨[(1,.box [.k,.k,.k,.view .iJson,.view .str]),(2,.box [.k,.k,.k,.k,.k,.k,.k]),(4,.box [.k,.view .str,.k,.k,.k,.view .iJson,.view .str]),(12,.k)],[.pb 1 0,.pb 2 0,.pb 3 0,.b],[.ext,.box (aa_.p .v),.box [.i .i64,.nils,.i .i64,.i .i64,.s,.nils,.nils],.box (TOp.p .v)]⟩
def od150:OD:=⟨[(1,.box [.k,.k,.k,.view .iJson,.view .str]),(2,.box [.k,.k,.k,.k,.k,.k,.k]),(4,.box [.k,.k,.k,.k,.k,.k,.k]),(7,.box [.k,.k,.k,.own .d .iJson,.own .d .str])],[.pb 1 0,.pb 2 0,.pb 3 0,.pb 4 0],[.ext,.box (aa_.p .v),.box [.i .i64,.nils,.i .i64,.i .i64,.s,.nils,.nils],.box [.i .i64,.nils,.i .i64,.i .i64,.s,.nils,.nils],.box [.i .i64,.i .i64,.s,.rt 5,.rt 6],.arr .d .iJson 2,.arr .d .str 2]⟩
def rd66:RD:=⟨TOp × Bool,[.ag (TOp.p .v),.b],fun (a0,a1,_)=>((TOp.of a0),a1),fun (a0,a1)=>(TOp.to a0,a1,())⟩
def bd_.e:FE:=mkE rd66 65 78 1 [.ag (aa_.p .v)] [.cell 2 87,.tmp 3] [] [(7,od148),(15,od149)] [(0,od150)] fun n (a0,_)=>bd_ n (aa_.of a0)
def od151:OD:=⟨[(0,.k),(2,.box [.k,.k,.k,.k,.k,.k,.k,.k,.k]),(4,.box [.k,.k,.k,.k,.k,.k,.own .d .iJson,.own .d .str,.own .s .iOp]),(5,.own .d .str),(6,.k)],[.s,.pb 1 0,.pb 2 0,.rt 3,.i .i64],[.ext,.box [.i .i64,.i .i64,.i .i64,.i .i64,.i .i64,.s,.nils,.nils,.nils],.box [.i .i64,.i .i64,.i .i64,.i .i64,.i .i64,.s,.rt 4,.rt 5,.rt 6],.arr .d .str 2,.arr .d .iJson 2,.arr .d .str 2,.arr .s .iOp 2]⟩
def od152:OD:=⟨[(0,.k),(2,.box [.k,.k,.k,.k,.k,.k,.k,.k,.k]),(4,.box [.k,.k,.k,.k,.k,.k,.own .d .iJson,.own .d .str,.own .s .iOp]),(5,.own .d .str),(6,.k),(8,.box [.k,.k,.k,.own .s .iJson,.own .d .str]),(10,.k)],[.s,.pb 1 0,.pb 2 0,.rt 3,.i .i64,.pb 4 0,.i .i64],[.ext,.box [.i .i64,.i .i64,.i .i64,.i .i64,.i .i64,.s,.nils,.nils,.nils],.box [.i .i64,.i .i64,.i .i64,.i .i64,.i .i64,.s,.rt 5,.rt 6,.rt 7],.arr .d .str 2,.box [.i .i64,.i .i64,.s,.rt 8,.rt 9],.arr .d .iJson 2,.arr .d .str 2,.arr .s .iOp 2,.arr .s .iJson 2,.arr .d .str 2]⟩
def od153:OD:=⟨[(0,.k),(2,.box [.k,.k,.k,.k,.k,.k,.k,.k,.k]),(4,.box [.k,.k,.k,.k,.k,.k,.own .d .iJson,.own .d .str,.own .s .iOp])],[.s,.pb 1 0,.pb 2 0],[.ext,.box [.i .i64,.i .i64,.i .i64,.i .i64,.i .i64,.s,.nils,.nils,.nils],.box [.i .i64,.i .i64,.i .i64,.i .i64,.i .i64,.s,.rt 3,.rt 4,.rt 5],.arr .d .iJson 2,.arr .d .str 2,.arr .s .iOp 2]⟩
def rd67:RD:=⟨aX_ × Bool,[.ag [.i .i64,.i .i64,.i .i64,.i .i64,.i .i64,.s,.sl .d .iJson,.sl .d .str,.sl .s .iOp],.b],fun (a0,a1,_)=>((aX_.of a0),a1),fun (a0,a1)=>(aX_.to a0,a1,())⟩
def ad_.e:FE:=mkE rd67 21 110 1 [.s] [.cell 2 35,.tmp 3] [] [(20,od152),(5,od151)] [(0,od153),(3,od151)] (un1 ad_)
def laws_FnEvents.e:FE:=mkE rd0 4 102 1 [.sl .v .u8] [.tmp 2] [] [] [] (un1 laws_FnEvents)
def ents:List FE:=[laws_FnEvents.e,f8_.e,cU_.e,co_.e,c3_.e,cT_.e,cu_.e,cy_.e,ad_.e,cb_.e,d4_.e,ah_.e,ac_.e,a7_.e,d8_.e,bc_.e,ec_.e,dq_.e,bq_.e,aK_.e,cZ_.e,bN_.e,db_.e,aN_.e,dW_.e,dy_.e,dm_.e,cQ_.e,c5_.e,bj_.e,cI_.e,dF_.e,dV_.e,bd_.e,eN_.e,cJ_.e,cm_.e,aP_.e,d6_.e,ak_.e,df_.e,bC_.e,aC_.e,dT_.e,bu_.e,bz_.e,dL_.e,do_.e,dc_.e,cx_.e,bL_.e,dx_.e,c7_.e,b4_.e,aq_.e,cL_.e,strconv_Itoa.e,a8_.e,ed_.e,aO_.e,dU_.e,cP_.e,dp_.e,cS_.e,dI_.e,cH_.e,bY_.e,as_.e,aD_.e,bP_.e,dS_.e,dj_.e,a3_.e,dw_.e,b7_.e,dM_.e,aL_.e,a0_.e,b0_.e,dP_.e,d7_.e,dk_.e,d5_.e,c9_.e,cY_.e,bA_.e,bv_.e,ex_.e,ds_.e,aT_.e,bl_.e,cM_.e,bI_.e,cs_.e,aR_.e,cr_.e,bW_.e,strings_Join.e,dl_.e,bS_.e,eb_.e,bt_.e,aE_.e,bR_.e,ep_.e,aZ_.e,bH_.e,dX_.e,cX_.e,ca_.e,aG_.e,aW_.e,a1_.e,dr_.e,bG_.e,a6_.e,aA_.e,ea_.e,bK_.e,aQ_.e,ce_.e,a9_.e,a5_.e,dv_.e,eO_.e,bp_.e,cc_.e,eZ_.e,bV_.e,b1_.e,eP_.e,fi_.e,de_.e,fj_.e,eT_.e,az_.e,b2_.e,ag_.e,strings_ReplaceAll.e,bi_.e,ci_.e,bs_.e,c0_.e,aw_.e,an_.e,ao_.e,ej_.e,bD_.e,aF_.e,dN_.e,bh_.e,cd_.e,cw_.e,bQ_.e,bU_.e,du_.e,bO_.e,dd_.e,c6_.e,b5_.e,bJ_.e,bZ_.e,eq_.e,aJ_.e,aH_.e,ch_.e,bT_.e,bB_.e,bm_.e,au_.e,d2_.e,cl_.e,strings_Split.e,dO_.e,ey_.e,cv_.e,c8_.e,dt_.e,aI_.e,aj_.e]
def fzL:List Nat:=[15,21,37,38,39,40,53,59,60,65,71,74,75,76,77,78,79,80,81,82,83,84,85,87,99,106,115,116,117,120,126,127,128,129,162,163,166,168,173,179,180,219,221,222,227]
def cx (n nt:Nat):Cx:=⟨nt,tt,sigE ents,KE n ents,fun f=>fzL.any (Nat.beq f)⟩
theorem okk {n:Nat} {e:FE} {fn:Func} (s:Stps e.R e.d.cut) (hfn:E.P.funcs[e.d.fid]?=some fn) (h:e.L (cx n e.d.nt) fn n s=e.Q (cx n e.d.nt) fn (e.F (n+1)) s):e.Oks E (cx n) n:=FE.ok s mixedOk hfn h
end Go.Pi
end
section
namespace Go.Pi
open Go.Proofs
theorem f8_.ok (n:Nat):f8_.e.Oks E (cx n) n:=okk () Tryz.func8 (by kernel_rfl)
theorem cb_.ok (n:Nat):cb_.e.Oks E (cx n) n:=okk (.lp fun κe=>cb_.step4 n (od1.k (κe 0)),()) Tryz.func37 (by kernel_rfl)
theorem do_.ok (n:Nat):do_.e.Oks E (cx n) n:=okk () Tryz.func84 (by kernel_rfl)
theorem ah_.ok (n:Nat):ah_.e.Oks E (cx n) n:=okk () Tryz.func39 (by kernel_rfl)
theorem cm_.ok (n:Nat):cm_.e.Oks E (cx n) n:=okk () Tryz.func71 (by kernel_rfl)
theorem c5_.ok (n:Nat):c5_.e.Oks E (cx n) n:=okk () Tryz.func60 (by kernel_rfl)
theorem bu_.ok (n:Nat):bu_.e.Oks E (cx n) n:=okk () Tryz.func81 (by kernel_rfl)
theorem dc_.ok (n:Nat):dc_.e.Oks E (cx n) n:=okk () Tryz.func85 (by kernel_rfl)
theorem cx_.ok (n:Nat):cx_.e.Oks E (cx n) n:=okk (.lp fun κe=>cx_.step3 n (od3.k (κe 0)),()) Tryz.func86 (by kernel_rfl)
theorem bL_.ok (n:Nat):bL_.e.Oks E (cx n) n:=okk (.lp fun κe=>bL_.step5 n (od5.k (κe 0)),()) Tryz.func87 (by kernel_rfl)
theorem ac_.ok (n:Nat):ac_.e.Oks E (cx n) n:=okk (.lp fun κe=>ac_.step20 n (ac_ n) (od8.k (κe 1)),.lp fun κe=>ac_.step28 n (ac_ n) (od9.k (κe 3)),()) Tryz.func40 (by kernel_rfl)
theorem aL_.ok (n:Nat):aL_.e.Oks E (cx n) n:=okk (.lp fun κe=>aL_.step4 n (od11.k (κe 0)),()) Tryz.func115 (by kernel_rfl)
theorem b4_.ok (n:Nat):b4_.e.Oks E (cx n) n:=okk () Tryz.func91 (by kernel_rfl)
theorem a1_.ok (n:Nat):a1_.e.Oks E (cx n) n:=okk (.lp fun κe=>a1_.step3 n (od13.k (κe 0)),()) Tryz.func160 (by kernel_rfl)
theorem dr_.ok (n:Nat):dr_.e.Oks E (cx n) n:=okk () Tryz.func161 (by kernel_rfl)
theorem dM_.ok (n:Nat):dM_.e.Oks E (cx n) n:=okk () Tryz.func114 (by kernel_rfl)
theorem a6_.ok (n:Nat):a6_.e.Oks E (cx n) n:=okk (.lp fun κe=>a6_.step4 n (od15.k (κe 0)),()) Tryz.func163 (by kernel_rfl)
theorem cd_.ok (n:Nat):cd_.e.Oks E (cx n) n:=okk (.lp fun κe=>cd_.step3 n (od3.k (κe 0)),()) Tryz.func216 (by kernel_rfl)
theorem cw_.ok (n:Nat):cw_.e.Oks E (cx n) n:=okk () Tryz.func217 (by kernel_rfl)
theorem bh_.ok (n:Nat):bh_.e.Oks E (cx n) n:=okk (.lp fun κe=>bh_.step5 n (od18.k (κe 0)),()) Tryz.func215 (by kernel_rfl)
theorem bG_.ok (n:Nat):bG_.e.Oks E (cx n) n:=okk (.lp fun κe=>bG_.step6 n (od20.k (κe 0)),()) Tryz.func162 (by kernel_rfl)
theorem a0_.ok (n:Nat):a0_.e.Oks E (cx n) n:=okk (.lp fun κe=>a0_.step4 n (od22.k (κe 0)),()) Tryz.func116 (by kernel_rfl)
theorem aP_.ok (n:Nat):aP_.e.Oks E (cx n) n:=okk (.lp fun κe=>aP_.step4 n (od24.k (κe 0)),()) Tryz.func74 (by kernel_rfl)
theorem cJ_.ok (n:Nat):cJ_.e.Oks E (cx n) n:=okk () Tryz.func69 (by kernel_rfl)
theorem ak_.ok (n:Nat):ak_.e.Oks E (cx n) n:=okk (.lp fun κe=>ak_.step7 n (od27.k (κe 0)),.lp fun κe=>ak_.step16 n (od28.k (κe 2)),()) Tryz.func76 (by kernel_rfl)
theorem ch_.ok (n:Nat):ch_.e.Oks E (cx n) n:=okk (.lp fun κe=>ch_.step6 n (od3.k (κe 0)),()) Tryz.func230 (by kernel_rfl)
theorem b1_.ok (n:Nat):b1_.e.Oks E (cx n) n:=okk (.lp fun κe=>b1_.step3 n (od31.k (κe 0)),()) Tryz.func177 (by kernel_rfl)
theorem bA_.ok (n:Nat):bA_.e.Oks E (cx n) n:=okk (.lp fun κe=>bA_.step6 n (od3.k (κe 0)),()) Tryz.func124 (by kernel_rfl)
theorem aA_.ok (n:Nat):aA_.e.Oks E (cx n) n:=okk (.lp fun κe=>aA_.step7 n (od35.k (κe 0)),.lp fun κe=>aA_.step16 n (od35.k (κe 2)),()) Tryz.func164 (by kernel_rfl)
theorem ea_.ok (n:Nat):ea_.e.Oks E (cx n) n:=okk () Tryz.func165 (by kernel_rfl)
theorem dO_.ok (n:Nat):dO_.e.Oks E (cx n) n:=okk () Tryz.func255 (by kernel_rfl)
theorem bQ_.ok (n:Nat):bQ_.e.Oks E (cx n) n:=okk (.lp fun κe=>bQ_.step3 n (od3.k (κe 0)),()) Tryz.func218 (by kernel_rfl)
theorem bT_.ok (n:Nat):bT_.e.Oks E (cx n) n:=okk () Tryz.func231 (by kernel_rfl)
theorem ey_.ok (n:Nat):ey_.e.Oks E (cx n) n:=okk () Tryz.func256 (by kernel_rfl)
theorem bU_.ok (n:Nat):bU_.e.Oks E (cx n) n:=okk (.lp fun κe=>bU_.step5 n (od38.k (κe 0)),()) Tryz.func219 (by kernel_rfl)
theorem bK_.ok (n:Nat):bK_.e.Oks E (cx n) n:=okk (.lp fun κe=>bK_.step8 n (od40.k (κe 0)),()) Tryz.func166 (by kernel_rfl)
theorem aQ_.ok (n:Nat):aQ_.e.Oks E (cx n) n:=okk (.lp fun κe=>aQ_.step5 n (od42.k (κe 0)),()) Tryz.func167 (by kernel_rfl)
theorem b0_.ok (n:Nat):b0_.e.Oks E (cx n) n:=okk (.lp fun κe=>b0_.step8 n (od44.k (κe 0)),()) Tryz.func117 (by kernel_rfl)
theorem d6_.ok (n:Nat):d6_.e.Oks E (cx n) n:=okk () Tryz.func75 (by kernel_rfl)
theorem bV_.ok (n:Nat):bV_.e.Oks E (cx n) n:=okk (.lp fun κe=>bV_.step4 n (od46.k (κe 0)),()) Tryz.func176 (by kernel_rfl)
theorem cY_.ok (n:Nat):cY_.e.Oks E (cx n) n:=okk () Tryz.func123 (by kernel_rfl)
theorem dP_.ok (n:Nat):dP_.e.Oks E (cx n) n:=okk () Tryz.func118 (by kernel_rfl)
theorem b5_.ok (n:Nat):b5_.e.Oks E (cx n) n:=okk (.lp fun κe=>b5_.step3 n (od3.k (κe 0)),()) Tryz.func224 (by kernel_rfl)
theorem a9_.ok (n:Nat):a9_.e.Oks E (cx n) n:=okk (.lp fun κe=>a9_.step4 n (od49.k (κe 0)),()) Tryz.func169 (by kernel_rfl)
theorem eN_.ok (n:Nat):eN_.e.Oks E (cx n) n:=okk () Tryz.func68 (by kernel_rfl)
theorem du_.ok (n:Nat):du_.e.Oks E (cx n) n:=okk () Tryz.func220 (by kernel_rfl)
theorem aK_.ok (n:Nat):aK_.e.Oks E (cx n) n:=okk (.lp fun κe=>aK_.step7 n (od51.k (κe 0)),()) Tryz.func51 (by kernel_rfl)
theorem c6_.ok (n:Nat):c6_.e.Oks E (cx n) n:=okk () Tryz.func223 (by kernel_rfl)
theorem bO_.ok (n:Nat):bO_.e.Oks E (cx n) n:=okk (.lp fun κe=>bO_.step4 n (od53.k (κe 0)),()) Tryz.func221 (by kernel_rfl)
theorem b2_.ok (n:Nat):b2_.e.Oks E (cx n) n:=okk (.lp fun κe=>b2_.step3 n (od55.k (κe 0)),()) Tryz.func188 (by kernel_rfl)
theorem ag_.ok (n:Nat):ag_.e.Oks E (cx n) n:=okk (.lp fun κe=>ag_.step6 n (od57.k (κe 0)),()) Tryz.func189 (by kernel_rfl)
theorem aR_.ok (n:Nat):aR_.e.Oks E (cx n) n:=okk (.lp fun κe=>aR_.step23 n (aR_ n) (od59.k (κe 1)),()) Tryz.func134 (by kernel_rfl)
theorem cL_.ok (n:Nat):cL_.e.Oks E (cx n) n:=okk () Tryz.func93 (by kernel_rfl)
theorem dd_.ok (n:Nat):dd_.e.Oks E (cx n) n:=okk () Tryz.func222 (by kernel_rfl)
theorem ce_.ok (n:Nat):ce_.e.Oks E (cx n) n:=okk (.lp fun κe=>ce_.step4 n (od61.k (κe 0)),()) Tryz.func168 (by kernel_rfl)
theorem dk_.ok (n:Nat):dk_.e.Oks E (cx n) n:=okk () Tryz.func120 (by kernel_rfl)
theorem aq_.ok (n:Nat):aq_.e.Oks E (cx n) n:=okk (.lp fun κe=>aq_.step6 n (aq_ n) (od64.k (κe 0)),.lp fun κe=>aq_.step14 n (aq_ n) (od3.k (κe 2)),()) Tryz.func92 (by kernel_rfl)
theorem dw_.ok (n:Nat):dw_.e.Oks E (cx n) n:=okk () Tryz.func112 (by kernel_rfl)
theorem d7_.ok (n:Nat):d7_.e.Oks E (cx n) n:=okk () Tryz.func119 (by kernel_rfl)
theorem bJ_.ok (n:Nat):bJ_.e.Oks E (cx n) n:=okk (.lp fun κe=>bJ_.step3 n (od66.k (κe 0)),()) Tryz.func225 (by kernel_rfl)
theorem bZ_.ok (n:Nat):bZ_.e.Oks E (cx n) n:=okk (.lp fun κe=>bZ_.step3 n (od68.k (κe 0)),()) Tryz.func226 (by kernel_rfl)
theorem dv_.ok (n:Nat):dv_.e.Oks E (cx n) n:=okk () Tryz.func171 (by kernel_rfl)
theorem eO_.ok (n:Nat):eO_.e.Oks E (cx n) n:=okk () Tryz.func172 (by kernel_rfl)
theorem eq_.ok (n:Nat):eq_.e.Oks E (cx n) n:=okk () Tryz.func227 (by kernel_rfl)
theorem bp_.ok (n:Nat):bp_.e.Oks E (cx n) n:=okk (.lp fun κe=>bp_.step5 n (od70.k (κe 0)),()) Tryz.func173 (by kernel_rfl)
theorem cv_.ok (n:Nat):cv_.e.Oks E (cx n) n:=okk (.lp fun κe=>cv_.step3 n (od3.k (κe 0)),()) Tryz.func257 (by kernel_rfl)
theorem aJ_.ok (n:Nat):aJ_.e.Oks E (cx n) n:=okk (.lp fun κe=>aJ_.step3 n (od74.k (κe 0)),.lp fun κe=>aJ_.step11 n (od74.k (κe 2)),()) Tryz.func228 (by kernel_rfl)
theorem c8_.ok (n:Nat):c8_.e.Oks E (cx n) n:=okk () Tryz.func258 (by kernel_rfl)
theorem bc_.ok (n:Nat):bc_.e.Oks E (cx n) n:=okk (.lp fun κe=>bc_.step4 n (bc_ n) (od76.k (κe 0)),()) Tryz.func46 (by kernel_rfl)
theorem dt_.ok (n:Nat):dt_.e.Oks E (cx n) n:=okk () Tryz.func259 (by kernel_rfl)
theorem aH_.ok (n:Nat):aH_.e.Oks E (cx n) n:=okk (.lp fun κe=>aH_.step5 n (od79.k (κe 0)),.lp fun κe=>aH_.step13 n (od80.k (κe 2)),()) Tryz.func229 (by kernel_rfl)
theorem eZ_.ok (n:Nat):eZ_.e.Oks E (cx n) n:=okk () Tryz.func175 (by kernel_rfl)
theorem cc_.ok (n:Nat):cc_.e.Oks E (cx n) n:=okk (.lp fun κe=>cc_.step4 n (od82.k (κe 0)),()) Tryz.func174 (by kernel_rfl)
theorem c9_.ok (n:Nat):c9_.e.Oks E (cx n) n:=okk () Tryz.func122 (by kernel_rfl)
theorem cr_.ok (n:Nat):cr_.e.Oks E (cx n) n:=okk (.lp fun κe=>cr_.step6 n (od84.k (κe 0)),()) Tryz.func135 (by kernel_rfl)
theorem dj_.ok (n:Nat):dj_.e.Oks E (cx n) n:=okk () Tryz.func110 (by kernel_rfl)
theorem aE_.ok (n:Nat):aE_.e.Oks E (cx n) n:=okk (.lp fun κe=>aE_.step10 n (od85.k (κe 2)),.lp fun κe=>aE_.step4 n (od87.k (κe 0)),()) Tryz.func144 (by kernel_rfl)
theorem dU_.ok (n:Nat):dU_.e.Oks E (cx n) n:=okk () Tryz.func99 (by kernel_rfl)
theorem bt_.ok (n:Nat):bt_.e.Oks E (cx n) n:=okk (.lp fun κe=>bt_.step4 n (od87.k (κe 0)),()) Tryz.func143 (by kernel_rfl)
theorem aO_.ok (n:Nat):aO_.e.Oks E (cx n) n:=okk (.lp fun κe=>aO_.step17 n (aO_ n) (od90.k (κe 1)),()) Tryz.func98 (by kernel_rfl)
theorem cZ_.ok (n:Nat):cZ_.e.Oks E (cx n) n:=okk () Tryz.func52 (by kernel_rfl)
theorem a5_.ok (n:Nat):a5_.e.Oks E (cx n) n:=okk (.lp fun κe=>a5_.step4 n (od92.k (κe 0)),()) Tryz.func170 (by kernel_rfl)
theorem d5_.ok (n:Nat):d5_.e.Oks E (cx n) n:=okk () Tryz.func121 (by kernel_rfl)
theorem df_.ok (n:Nat):df_.e.Oks E (cx n) n:=okk () Tryz.func77 (by kernel_rfl)
theorem ds_.ok (n:Nat):ds_.e.Oks E (cx n) n:=okk () Tryz.func127 (by kernel_rfl)
theorem eP_.ok (n:Nat):eP_.e.Oks E (cx n) n:=okk () Tryz.func178 (by kernel_rfl)
theorem bv_.ok (n:Nat):bv_.e.Oks E (cx n) n:=okk (.lp fun κe=>bv_.step4 n (od94.k (κe 0)),()) Tryz.func125 (by kernel_rfl)
theorem fi_.ok (n:Nat):fi_.e.Oks E (cx n) n:=okk () Tryz.func179 (by kernel_rfl)
theorem ex_.ok (n:Nat):ex_.e.Oks E (cx n) n:=okk () Tryz.func126 (by kernel_rfl)
theorem aC_.ok (n:Nat):aC_.e.Oks E (cx n) n:=okk (.tl fun κd _=>aC_.tail9 n (od95.k κd),.lp fun κe=>aC_.step5 n (od97.k (κe 0)),()) Tryz.func79 (by kernel_rfl)
theorem bC_.ok (n:Nat):bC_.e.Oks E (cx n) n:=okk (.lp fun κe=>bC_.step12 n (od99.k (κe 0)),()) Tryz.func78 (by kernel_rfl)
theorem de_.ok (n:Nat):de_.e.Oks E (cx n) n:=okk () Tryz.func180 (by kernel_rfl)
theorem aT_.ok (n:Nat):aT_.e.Oks E (cx n) n:=okk (.lp fun κe=>aT_.step4 n (od101.k (κe 0)),()) Tryz.func128 (by kernel_rfl)
theorem dT_.ok (n:Nat):dT_.e.Oks E (cx n) n:=okk () Tryz.func80 (by kernel_rfl)
theorem as_.ok (n:Nat):as_.e.Oks E (cx n) n:=okk (.tl fun κd _=>as_.tail10 n (od103.k κd),.lp fun κe=>as_.step5 n (od105.k (κe 0)),.tl fun _ _=>as_.tail1 n,()) Tryz.func106 (by kernel_rfl)
theorem cQ_.ok (n:Nat):cQ_.e.Oks E (cx n) n:=okk () Tryz.func59 (by kernel_rfl)
theorem bz_.ok (n:Nat):bz_.e.Oks E (cx n) n:=okk (.lp fun κe=>bz_.step10 n (od107.k (κe 1)),()) Tryz.func82 (by kernel_rfl)
theorem bl_.ok (n:Nat):bl_.e.Oks E (cx n) n:=okk (.lp fun κe=>bl_.step4 n (od109.k (κe 0)),()) Tryz.func129 (by kernel_rfl)
theorem bB_.ok (n:Nat):bB_.e.Oks E (cx n) n:=okk (.lp fun κe=>bB_.step7 n (od54.k (κe 0)),()) Tryz.func232 (by kernel_rfl)
theorem fj_.ok (n:Nat):fj_.e.Oks E (cx n) n:=okk () Tryz.func181 (by kernel_rfl)
theorem cM_.ok (n:Nat):cM_.e.Oks E (cx n) n:=okk (.lp fun κe=>cM_.step6 n (od112.k (κe 0)),()) Tryz.func130 (by kernel_rfl)
theorem dL_.ok (n:Nat):dL_.e.Oks E (cx n) n:=okk () Tryz.func83 (by kernel_rfl)
theorem d4_.ok (n:Nat):d4_.e.Oks E (cx n) n:=okk () Tryz.func38 (by kernel_rfl)
theorem cU_.ok (n:Nat):cU_.e.Oks E (cx n) n:=okk () Tryz.func15 (by kernel_rfl)
theorem aN_.ok (n:Nat):aN_.e.Oks E (cx n) n:=okk () Tryz.func55 (by kernel_rfl)
theorem db_.ok (n:Nat):db_.e.Oks E (cx n) n:=okk () Tryz.func54 (by kernel_rfl)
theorem bm_.ok (n:Nat):bm_.e.Oks E (cx n) n:=okk () Tryz.func233 (by kernel_rfl)
theorem az_.ok (n:Nat):az_.e.Oks E (cx n) n:=okk (.lp fun κe=>az_.step3 n (od55.k (κe 0)),()) Tryz.func183 (by kernel_rfl)
theorem au_.ok (n:Nat):au_.e.Oks E (cx n) n:=okk (.lp fun κe=>au_.step3 n (od3.k (κe 0)),()) Tryz.func234 (by kernel_rfl)
theorem eT_.ok (n:Nat):eT_.e.Oks E (cx n) n:=okk () Tryz.func182 (by kernel_rfl)
theorem bI_.ok (n:Nat):bI_.e.Oks E (cx n) n:=okk (.lp fun κe=>bI_.step7 n (bI_ n) (od116.k (κe 0)),()) Tryz.func131 (by kernel_rfl)
theorem c7_.ok (n:Nat):c7_.e.Oks E (cx n) n:=okk () Tryz.func89 (by kernel_rfl)
theorem bW_.ok (n:Nat):bW_.e.Oks E (cx n) n:=okk (.lp fun κe=>bW_.step4 n (od87.k (κe 0)),()) Tryz.func138 (by kernel_rfl)
theorem a8_.ok (n:Nat):a8_.e.Oks E (cx n) n:=okk (.lp fun κe=>a8_.step4 n (a8_ n) (od119.k (κe 0)),()) Tryz.func96 (by kernel_rfl)
theorem dq_.ok (n:Nat):dq_.e.Oks E (cx n) n:=okk () Tryz.func49 (by kernel_rfl)
theorem dW_.ok (n:Nat):dW_.e.Oks E (cx n) n:=okk () Tryz.func56 (by kernel_rfl)
theorem cs_.ok (n:Nat):cs_.e.Oks E (cx n) n:=okk (.lp fun κe=>cs_.step3 n (od84.k (κe 0)),()) Tryz.func132 (by kernel_rfl)
theorem dl_.ok (n:Nat):dl_.e.Oks E (cx n) n:=okk () Tryz.func140 (by kernel_rfl)
theorem bS_.ok (n:Nat):bS_.e.Oks E (cx n) n:=okk (.lp fun κe=>bS_.step4 n (od122.k (κe 0)),()) Tryz.func141 (by kernel_rfl)
theorem dx_.ok (n:Nat):dx_.e.Oks E (cx n) n:=okk () Tryz.func88 (by kernel_rfl)
theorem a7_.ok (n:Nat):a7_.e.Oks E (cx n) n:=okk (.lp fun κe=>a7_.step4 n (a7_ n) (od76.k (κe 0)),()) Tryz.func42 (by kernel_rfl)
theorem eb_.ok (n:Nat):eb_.e.Oks E (cx n) n:=okk () Tryz.func142 (by kernel_rfl)
theorem ed_.ok (n:Nat):ed_.e.Oks E (cx n) n:=okk () Tryz.func97 (by kernel_rfl)
theorem bq_.ok (n:Nat):bq_.e.Oks E (cx n) n:=okk (.lp fun κe=>bq_.step4 n (od125.k (κe 0)),()) Tryz.func50 (by kernel_rfl)
theorem dy_.ok (n:Nat):dy_.e.Oks E (cx n) n:=okk () Tryz.func57 (by kernel_rfl)
theorem cT_.ok (n:Nat):cT_.e.Oks E (cx n) n:=okk () Tryz.func18 (by kernel_rfl)
theorem ec_.ok (n:Nat):ec_.e.Oks E (cx n) n:=okk () Tryz.func48 (by kernel_rfl)
theorem co_.ok (n:Nat):co_.e.Oks E (cx n) n:=okk () Tryz.func16 (by kernel_rfl)
theorem bN_.ok (n:Nat):bN_.e.Oks E (cx n) n:=okk (.lp fun κe=>bN_.step4 n (od127.k (κe 0)),()) Tryz.func53 (by kernel_rfl)
theorem d8_.ok (n:Nat):d8_.e.Oks E (cx n) n:=okk () Tryz.func45 (by kernel_rfl)
theorem c3_.ok (n:Nat):c3_.e.Oks E (cx n) n:=okk () Tryz.func17 (by kernel_rfl)
theorem bi_.ok (n:Nat):bi_.e.Oks E (cx n) n:=okk () Tryz.func197 (by kernel_rfl)
theorem bR_.ok (n:Nat):bR_.e.Oks E (cx n) n:=okk () Tryz.func145 (by kernel_rfl)
theorem cP_.ok (n:Nat):cP_.e.Oks E (cx n) n:=okk () Tryz.func100 (by kernel_rfl)
theorem ci_.ok (n:Nat):ci_.e.Oks E (cx n) n:=okk () Tryz.func198 (by kernel_rfl)
theorem ep_.ok (n:Nat):ep_.e.Oks E (cx n) n:=okk () Tryz.func146 (by kernel_rfl)
theorem bH_.ok (n:Nat):bH_.e.Oks E (cx n) n:=okk () Tryz.func150 (by kernel_rfl)
theorem cH_.ok (n:Nat):cH_.e.Oks E (cx n) n:=okk () Tryz.func104 (by kernel_rfl)
theorem dp_.ok (n:Nat):dp_.e.Oks E (cx n) n:=okk () Tryz.func101 (by kernel_rfl)
theorem bs_.ok (n:Nat):bs_.e.Oks E (cx n) n:=okk () Tryz.func204 (by kernel_rfl)
theorem c0_.ok (n:Nat):c0_.e.Oks E (cx n) n:=okk () Tryz.func205 (by kernel_rfl)
theorem cl_.ok (n:Nat):cl_.e.Oks E (cx n) n:=okk () Tryz.func253 (by kernel_rfl)
theorem aw_.ok (n:Nat):aw_.e.Oks E (cx n) n:=okk (.lp fun κe=>aw_.step4 n (od129.k (κe 0)),()) Tryz.func206 (by kernel_rfl)
theorem an_.ok (n:Nat):an_.e.Oks E (cx n) n:=okk (.lp fun κe=>an_.step7 n (aZ_ n) (od131.k (κe 0)),()) Tryz.func207 (by kernel_rfl)
theorem ao_.ok (n:Nat):ao_.e.Oks E (cx n) n:=okk (.lp fun κe=>ao_.step3 n (od132.k (κe 0)),()) Tryz.func208 (by kernel_rfl)
theorem aZ_.ok (n:Nat):aZ_.e.Oks E (cx n) n:=okk () Tryz.func149 (by kernel_rfl)
theorem dI_.ok (n:Nat):dI_.e.Oks E (cx n) n:=okk () Tryz.func103 (by kernel_rfl)
theorem aF_.ok (n:Nat):aF_.e.Oks E (cx n) n:=okk (.lp fun κe=>aF_.step3 n (od3.k (κe 0)),()) Tryz.func211 (by kernel_rfl)
theorem ej_.ok (n:Nat):ej_.e.Oks E (cx n) n:=okk () Tryz.func209 (by kernel_rfl)
theorem bD_.ok (n:Nat):bD_.e.Oks E (cx n) n:=okk (.lp fun κe=>bD_.step7 n (od135.k (κe 0)),()) Tryz.func210 (by kernel_rfl)
theorem aI_.ok (n:Nat):aI_.e.Oks E (cx n) n:=okk (.lp fun κe=>aI_.step6 n (od3.k (κe 0)),()) Tryz.func260 (by kernel_rfl)
theorem aj_.ok (n:Nat):aj_.e.Oks E (cx n) n:=okk (.lp fun κe=>aj_.step6 n (d2_ n) (od3.k (κe 0)),()) Tryz.func261 (by kernel_rfl)
theorem d2_.ok (n:Nat):d2_.e.Oks E (cx n) n:=okk () Tryz.func235 (by kernel_rfl)
theorem dN_.ok (n:Nat):dN_.e.Oks E (cx n) n:=okk () Tryz.func212 (by kernel_rfl)
theorem dX_.ok (n:Nat):dX_.e.Oks E (cx n) n:=okk () Tryz.func151 (by kernel_rfl)
theorem bY_.ok (n:Nat):bY_.e.Oks E (cx n) n:=okk (.lp fun κe=>bY_.step4 n (od139.k (κe 0)),()) Tryz.func105 (by kernel_rfl)
theorem dm_.ok (n:Nat):dm_.e.Oks E (cx n) n:=okk () Tryz.func58 (by kernel_rfl)
theorem cu_.ok (n:Nat):cu_.e.Oks E (cx n) n:=okk () Tryz.func19 (by kernel_rfl)
theorem cy_.ok (n:Nat):cy_.e.Oks E (cx n) n:=okk () Tryz.func20 (by kernel_rfl)
theorem bj_.ok (n:Nat):bj_.e.Oks E (cx n) n:=okk (.lp fun κe=>bj_.step5 n (od141.k (κe 0)),()) Tryz.func61 (by kernel_rfl)
theorem cI_.ok (n:Nat):cI_.e.Oks E (cx n) n:=okk () Tryz.func62 (by kernel_rfl)
theorem cX_.ok (n:Nat):cX_.e.Oks E (cx n) n:=okk () Tryz.func152 (by kernel_rfl)
theorem aD_.ok (n:Nat):aD_.e.Oks E (cx n) n:=okk (.lp fun κe=>aD_.step7 n (od142.k (κe 0)),()) Tryz.func107 (by kernel_rfl)
theorem dF_.ok (n:Nat):dF_.e.Oks E (cx n) n:=okk () Tryz.func63 (by kernel_rfl)
theorem ca_.ok (n:Nat):ca_.e.Oks E (cx n) n:=okk () Tryz.func153 (by kernel_rfl)
theorem aG_.ok (n:Nat):aG_.e.Oks E (cx n) n:=okk (.lp fun κe=>aG_.step4 n (od143.k (κe 0)),()) Tryz.func154 (by kernel_rfl)
theorem aW_.ok (n:Nat):aW_.e.Oks E (cx n) n:=okk (.lp fun κe=>aW_.step8 n (bP_ n) (od145.k (κe 0)),()) Tryz.func155 (by kernel_rfl)
theorem bP_.ok (n:Nat):bP_.e.Oks E (cx n) n:=okk () Tryz.func108 (by kernel_rfl)
theorem dV_.ok (n:Nat):dV_.e.Oks E (cx n) n:=okk () Tryz.func64 (by kernel_rfl)
theorem dS_.ok (n:Nat):dS_.e.Oks E (cx n) n:=okk () Tryz.func109 (by kernel_rfl)
theorem a3_.ok (n:Nat):a3_.e.Oks E (cx n) n:=okk (.lp fun κe=>a3_.step6 n (od147.k (κe 0)),()) Tryz.func111 (by kernel_rfl)
theorem bd_.ok (n:Nat):bd_.e.Oks E (cx n) n:=okk (.lp fun κe=>bd_.step7 n (od150.k (κe 0)),.tl fun _ _=>bd_.tail15 n,()) Tryz.func65 (by kernel_rfl)
theorem ad_.ok (n:Nat):ad_.e.Oks E (cx n) n:=okk (.lp fun κe=>ad_.step20 n (od151.k (κe 3)),.lp fun κe=>ad_.step5 n (od153.k (κe 0)),()) Tryz.func21 (by kernel_rfl)
theorem laws_FnEvents.ok (n:Nat):laws_FnEvents.e.Oks E (cx n) n:=okk () Tryz.func4 (by kernel_rfl)
end Go.Pi
end
section
namespace Go.Pi
def InsM (P:Program) (f:FuncId) (e:TypeId) (K B:Nat):Prop :=
 ∀ (w:World) (S:Value) (n:Nat) (vals:List Value) (U:Value) (m:Nat) (us:List Value) (i:Nat),w.ownsRow 0 e K S n vals→w.ownsRow 0 e K U m us→(∀ b,cR_ S b≠0→cR_ U b=0)→i≤n →
   (∀ v ∈ vals,v.oneCell'=true)→(∀ v ∈ us,v.oneCell'=true)→(n+m)*B≤140737488355328 →
   Calls P f (List.toArray [S,.int .i64 i,U]) w fun e' w'=>∃ R,e' = .returned R∧w'.ownsRow 0 e K R (n+m) (vals.take (i*K)++us++vals.drop (i*K))∧oZ_ w w' (fun b=>cR_ S b≠0) ∧
    ∀ b,cR_ R b≠0→(w.heap.size≤b∨cR_ S b≠0)∧b<w'.heap.size
def DelM (P:Program) (f:FuncId) (e:TypeId) (K:Nat):Prop :=
 ∀ (w:World) (S:Value) (n:Nat) (vals:List Value) (i j:Nat),w.ownsRow 0 e K S n vals→i≤j→j≤n→(∀ v ∈ vals,v.oneCell'=true) →
   Calls P f (List.toArray [S,.int .i64 i,.int .i64 j]) w fun e' w'=>∃ R,e' = .returned R∧w'.ownsRow 0 e K R (n - (j - i)) (vals.take (i*K)++vals.drop (j*K))∧oZ_ w w' (fun b=>cR_ S b≠0) ∧
    ∀ b,cR_ R b≠0→(w.heap.size≤b∨cR_ S b≠0)∧b<w'.heap.size
def M.both:M→M→M
 |.d,.d=>.d
 |_,_=>.s
variable [ai_]
open ai_
variable {E:Env} {w w':World} {F F':Nat→Prop}
theorem RL.own_inv {m t xs v l vs φ} (hm:m ≠ .v) (h:RL E w F (.sl m t xs::l) (v::vs) φ):∃ vals φ₁ φ₂,w.ownsRow 0 (E.eid t) t.width v xs.length vals∧RL E w F (aU_ m.sub t xs) vals φ₁∧(∀ b,cR_ v b≠0→F b)∧RL E w F l vs φ₂∧∀ b,φ b=cR_ v b+φ₁ b+φ₂ b:=by
 cases h with
 |scal _ _ _ _ _ h=>exact h.elim
 |view=>exact absurd rfl hm
 |own m t xs v vals φ₁ l vs φ₂ φ h1 h2 h3 h4 h5 h6=>exact ⟨vals,φ₁,φ₂,h2,h3,h4,h5,h6⟩
theorem RL.len_inv {a l Vs φ} (h:RL E w F (a::l) Vs φ):∃ v vs,Vs=v::vs:=by
 obtain ⟨v,vs,_,_,h,_⟩:=RL.uncons h
 exact ⟨v,vs,h⟩
theorem rE_ [al_] {φ:Nat→Nat} (h1:∀ b,φ b≤1) (low:∀ b,φ b≠0→F b∧b<w.heap.size) {S:Value} (hSF:∀ b,cR_ S b≠0→F b) {t:TC} {zs:List (El t)} {vals:List Value} {ψ:Nat→Nat}
  (hz:RL E w F (aU_ .d t zs) vals ψ) (eφ:∀ b,cR_ S b+ψ b≤φ b) {R:Value} (hR:w'.ownsRow 0 (E.eid t) t.width R zs.length vals) (hg:oZ_ w w' (fun b=>cR_ S b≠0))
  (hRb:∀ b,cR_ R b≠0→(w.heap.size≤b∨cR_ S b≠0)∧b<w'.heap.size) :
  ∃ φ',RL E w' (fun b=>(F b∧φ b=0)∨φ' b≠0) [.sl .d t zs] [R] φ'∧(∀ b,φ' b≤1)∧(∀ b,φ' b≠0→φ b≠0∨w.heap.size≤b) ∧
    w'.os=w.os∧w'.tape=w.tape∧w'.output=w.output∧w.heap.size≤w'.heap.size∧∀ b,b<w.heap.size→φ b=0→w'.heap[b]?=w.heap[b]?:=by
 have key:∀ b,cR_ R b≠0→cR_ S b≠0∨w.heap.size≤b:=fun b hb=>(hRb b hb).1.symm
 have elt:∀ b,ψ b≠0→cR_ R b=0∧cR_ S b=0:=fun b hb=>by
  have q1:=eφ b;have q2:=h1 b
  have s0:cR_ S b=0:=by omega
  refine ⟨Classical.byContradiction fun hr => ?_,s0⟩
  rcases key b hr with hs|hs
  · exact hs s0
  · have:=(low b (by omega)).2;omega
 refine ⟨fun b=>cR_ R b+ψ b,?_,fun b => ?_,fun b hb => ?_,hg.os,hg.tape,hg.output,hg.size,fun b hb h0=>hg.heap b hb fun hc=>hc (by have:=eφ b;omega)⟩
 · refine .own .d t zs R vals ψ [] _ (fun _=>0) _ (by decide) hR ?_ (fun b hb=>.inr (by show cR_ R b+_≠0;omega)) (.nil _ fun _=>rfl) (fun b=>rfl)
   refine hz.frame hg.size (fun b hb=>⟨hg.heap b (hz.low b hb).2 fun hc=>hc (elt b hb).2,.inr (by show cR_ R b+ψ b≠0;omega)⟩) fun b hb hn=>⟨hg.heap b hb fun hc=>hn (hSF b hc),fun hc => ?_⟩
   rcases hc with ⟨hf,-⟩|hc
   · exact hn hf
   · have hc:cR_ R b+ψ b≠0:=hc
     by_cases hr0:cR_ R b=0
     · exact hn (hz.low b (by omega)).1
     · rcases key b hr0 with hs|hs
       · exact hn (hSF b hs)
       · omega
 · show cR_ R b+ψ b≤1
   have q1:=eφ b;have q2:=h1 b;have:=oh_ R b
   by_cases h0:ψ b=0
   · omega
   · have:=elt b h0;omega
 · have hb:cR_ R b+ψ b≠0:=hb
   by_cases h0:ψ b=0
   · rcases key b (by omega) with hs|hs
     · exact .inl (by have:=eφ b;omega)
     · exact .inr hs
   · exact .inl (by have:=eφ b;omega)
theorem nl_ [al_] {φ:Nat→Nat} (h1:∀ b,φ b≤1) (low:∀ b,φ b≠0→F b∧b<w.heap.size) {S:Value} (hSF:∀ b,cR_ S b≠0→F b) {t:TC} {zs:List (El t)} {L:List AV} {vals:List Value} {ψ:Nat→Nat}
  (hz:RL E w F L vals ψ) (hL:L.map AV.asView=aU_ .v t zs) (eφ:∀ b,cR_ S b+ψ b≤φ b) {R:Value} (hR:w'.ownsRow 0 (E.eid t) t.width R zs.length vals) (hg:oZ_ w w' (fun b=>cR_ S b≠0))
  (hRb:∀ b,cR_ R b≠0→(w.heap.size≤b∨cR_ S b≠0)∧b<w'.heap.size) :
  ∃ φ',RL E w' (fun b=>(F b∧φ b=0)∨φ' b≠0) [.sl .s t zs] [R] φ'∧(∀ b,φ' b≤1)∧(∀ b,φ' b≠0→φ b≠0∨w.heap.size≤b) ∧
    w'.os=w.os∧w'.tape=w.tape∧w'.output=w.output∧w.heap.size≤w'.heap.size∧∀ b,b<w.heap.size→φ b=0→w'.heap[b]?=w.heap[b]?:=by
 have key:∀ b,cR_ R b≠0→cR_ S b≠0∨w.heap.size≤b:=fun b hb=>(hRb b hb).1.symm
 have hv:=hz.seen (F':=fun b=>F b∧ψ b=0) (fun b hb hc=>hb hc.2) (fun b _ hn hc=>hn hc.1)
 rw [hL] at hv
 refine ⟨cR_ R,?_,oh_ R,fun b hb => ?_,hg.os,hg.tape,hg.output,hg.size,fun b hb h0=>hg.heap b hb fun hc=>hc (by have:=eφ b;omega)⟩
 · refine .own .s t zs R vals (fun _=>0) [] _ (fun _=>0) _ (by decide) hR ?_ (fun b hb=>.inr hb) (.nil _ fun _=>rfl) (fun b=>rfl)
   refine hv.frame hg.size (fun b hb=>absurd rfl hb) fun b hb hn=>⟨hg.heap b hb fun hc=>hn ⟨hSF b hc,by have:=eφ b;have:=h1 b;omega⟩,fun hc => ?_⟩
   rcases hc with ⟨hf,h0⟩|hc
   · exact hn ⟨hf,by have:=eφ b;omega⟩
   · rcases key b hc with hs|hs
     · exact hn ⟨hSF b hs,by have:=eφ b;have:=h1 b;omega⟩
     · omega
 · rcases key b hb with hs|hs
   · exact .inl (by have:=eφ b;omega)
   · exact .inr hs
theorem RL.int_inv {k n l v vs φ} (h:RL E w F (.i k n::l) (v::vs) φ):v = .int k n∧RL E w F l vs φ:=by
 cases h with
 |scal _ _ _ _ _ h1 h2=>exact ⟨h1,h2⟩
theorem codedD [al_] {m:M} {t:TC} (zs:List (El t)):∀ a ∈ aU_ m t zs,∃ m,a.coded m:=fun a ha=>⟨m,d0_ a ha⟩
theorem sY_ [al_] {f:FuncId} {t:TC} {m1 m2:M} (hm1:m1 ≠ .v) (hm2:m2 ≠ .v) (h:InsM E.P f (E.eid t) t.width t.bytes) {xs ys:List (El t)} {i:Nat} (hi:i≤xs.length) (hb:(xs.length+ys.length)*t.bytes≤140737488355328) :
  eu_ E f [.sl m1 t xs,.i .i64 i,.sl m2 t ys] (.sl (M.both m1 m2) t (xs.take i++ys++xs.drop i)) [] [.o,.v,.o]:=by
 intro w F Vs φ hrl h1 hlow _
 have low:∀ b,φ b≠0→F b∧b<w.heap.size:=hrl.low
 obtain ⟨S,_,rfl⟩:=hrl.len_inv
 replace hrl:=hrl.own_inv hm1
 obtain ⟨vals,φx,φ2,hS,hx,hSF,hrl,e1⟩:=hrl
 obtain ⟨I,_,rfl⟩:=hrl.len_inv
 replace hrl:=hrl.int_inv
 obtain ⟨rfl,hrl⟩:=hrl
 obtain ⟨U,_,rfl⟩:=hrl.len_inv
 replace hrl:=hrl.own_inv hm2
 obtain ⟨us,φy,φ4,hU,hy,hUF,hrl,e3⟩:=hrl
 obtain ⟨rfl,e4⟩:=RL.nil_inv hrl
 have eφ:∀ b,φ b=cR_ S b+φx b+(cR_ U b+φy b):=fun b=>by rw [e1,e3,e4];omega
 refine (h w S xs.length vals U ys.length us i hS hU (fun b hb=>by have:=h1 b;have:=eφ b;omega) hi (hx.one (codedD _)) (hy.one (codedD _)) hb).mono ?_
 rintro e' w' ⟨R,rfl,hR,hg,hRb⟩
 have hx':RL E w F (aU_ m1.sub t (xs.take i)++aU_ m1.sub t (xs.drop i)) vals φx:=by rw [←cz_,List.take_append_drop];exact hx
 obtain ⟨va,vb,φa,φb,rfl,ha,hb',e6⟩:=hx'.split
 have hla:va.length=i*t.width:=by rw [←ha.length,dz_,List.length_take,Nat.min_eq_left hi]
 rw [←hla,List.take_left,List.drop_left] at hR
 have hz:RL E w F (aU_ m1.sub t (xs.take i)++aU_ m2.sub t ys++aU_ m1.sub t (xs.drop i)) (va++us++vb) (fun b=>φa b+φy b+φb b) :=
  (ha.append hy (ψ:=fun b=>φa b+φy b) (fun b=>rfl)).append hb' (fun b=>rfl)
 have hl:(xs.take i++ys++xs.drop i).length=xs.length+ys.length:=by simp;omega
 have he:∀ b,cR_ S b+(φa b+φy b+φb b)≤φ b:=fun b=>by have:=eφ b;have:=e6 b;omega
 by_cases hd:m1 = .d∧m2 = .d
 · obtain ⟨rfl,rfl⟩:=hd
   have hz':RL E w F (aU_ .d t (xs.take i++ys++xs.drop i)) (va++us++vb) (fun b=>φa b+φy b+φb b):=by
    rw [cz_,cz_];exact hz
   obtain ⟨φ',k1,k2⟩:=rE_ (S:=S) (R:=R) h1 low hSF hz' he (by rw [hl];exact hR) hg hRb
   exact ⟨R,φ',rfl,k1,k2⟩
 · have hb2:M.both m1 m2 = .s:=by cases m1<;>cases m2<;>first|rfl|exact absurd rfl hm1|exact absurd rfl hm2|exact absurd ⟨rfl,rfl⟩ hd
   rw [hb2]
   obtain ⟨φ',k1,k2⟩:=nl_ (S:=S) (R:=R) (t:=t) (zs:=xs.take i++ys++xs.drop i) h1 low hSF hz (by rw [List.map_append,List.map_append,fG_,fG_,fG_,cz_,cz_]) he (by rw [hl];exact hR) hg hRb
   exact ⟨R,φ',rfl,k1,k2⟩
theorem td_ [al_] {f:FuncId} {t:TC} {m:M} (hm0:m ≠ .v) (h:DelM E.P f (E.eid t) t.width) {xs:List (El t)} {i j:Nat} (hij:i≤j) (hj:j≤xs.length) :
  eu_ E f [.sl m t xs,.i .i64 i,.i .i64 j] (.sl (M.both m m) t (xs.take i++xs.drop j)) [] [.o,.v,.v]:=by
 intro w F Vs φ hrl h1 hlow _
 have low:∀ b,φ b≠0→F b∧b<w.heap.size:=hrl.low
 obtain ⟨S,_,rfl⟩:=hrl.len_inv
 replace hrl:=hrl.own_inv hm0
 obtain ⟨vals,φx,φ2,hS,hx,hSF,hrl,e1⟩:=hrl
 obtain ⟨I,_,rfl⟩:=hrl.len_inv
 replace hrl:=hrl.int_inv
 obtain ⟨rfl,hrl⟩:=hrl
 obtain ⟨J,_,rfl⟩:=hrl.len_inv
 replace hrl:=hrl.int_inv
 obtain ⟨rfl,hrl⟩:=hrl
 obtain ⟨rfl,e4⟩:=RL.nil_inv hrl
 have eφ:∀ b,φ b=cR_ S b+φx b:=fun b=>by rw [e1,e4];omega
 refine (h w S xs.length vals i j hS hij hj (hx.one (codedD _))).mono ?_
 rintro e' w' ⟨R,rfl,hR,hg,hRb⟩
 have hx':RL E w F (aU_ m.sub t (xs.take i)++(aU_ m.sub t ((xs.drop i).take (j - i))++aU_ m.sub t (xs.drop j))) vals φx:=by
  rw [←cz_,←cz_]
  have:xs.drop j=(xs.drop i).drop (j - i):=by rw [List.drop_drop];congr 1;omega
  rw [this,List.take_append_drop,List.take_append_drop];exact hx
 obtain ⟨va,vc,φa,φc,rfl,ha,hc,e6⟩:=hx'.split
 obtain ⟨vm,vb,φm,φb,rfl,hm,hb',e7⟩:=hc.split
 have hla:va.length=i*t.width:=by rw [←ha.length,dz_,List.length_take,Nat.min_eq_left (by omega)]
 have hlm:vm.length=(j - i)*t.width:=by rw [←hm.length,dz_,List.length_take,List.length_drop,Nat.min_eq_left (by omega)]
 have hlj:(va++vm).length=j*t.width:=by rw [List.length_append,hla,hlm,←Nat.add_mul];congr 1;omega
 rw [←hla,List.take_left,←hlj,←List.append_assoc,List.drop_left] at hR
 have hz:RL E w F (aU_ m.sub t (xs.take i)++aU_ m.sub t (xs.drop j)) (va++vb) (fun b=>φa b+φb b):=ha.append hb' (fun b=>rfl)
 have hl:(xs.take i++xs.drop j).length=xs.length - (j - i):=by simp;omega
 have he:∀ b,cR_ S b+(φa b+φb b)≤φ b:=fun b=>by have:=eφ b;have:=e6 b;have:=e7 b;omega
 cases m with
 |v=>exact absurd rfl hm0
 |d=>
  have hz':RL E w F (aU_ .d t (xs.take i++xs.drop j)) (va++vb) (fun b=>φa b+φb b):=by
   rw [cz_];exact hz
  obtain ⟨φ',k1,k2⟩:=rE_ (S:=S) (R:=R) h1 low hSF hz' he (by rw [hl];exact hR) hg hRb
  exact ⟨R,φ',rfl,k1,k2⟩
 |s=>
  obtain ⟨φ',k1,k2⟩:=nl_ (S:=S) (R:=R) (t:=t) (zs:=xs.take i++xs.drop j) h1 low hSF hz (by rw [List.map_append,fG_,fG_,cz_]) he (by rw [hl];exact hR) hg hRb
  exact ⟨R,φ',rfl,k1,k2⟩
theorem nDel_ok [al_] {f:FuncId} {t:TC} {m:M} (hm0:m ≠ .v) (h:DelM E.P f (E.eid t) t.width) {xs r:List (El t)} {i j:Int} (hr:nDelete xs i j=some r) :
  eu_ E f [.sl m t xs,.i .i64 i,.i .i64 j] (.sl (M.both m m) t r) [] [.o,.v,.v]:=by
 unfold nDelete at hr
 by_cases hc:0≤i∧i≤j∧j≤(xs.length:Int)
 · obtain ⟨h1,h2,h3⟩:=hc
   obtain ⟨i,rfl⟩:=Int.eq_ofNat_of_zero_le h1
   obtain ⟨j,rfl⟩:=Int.eq_ofNat_of_zero_le (Int.le_trans h1 h2)
   simp only [h1,h2,h3,decide_true,Bool.and_true,cond_true,Option.some.injEq] at hr
   subst hr
   exact td_ hm0 h (by omega) (by omega)
 · have:(decide (0≤i)&&(decide (i≤j)&&decide (j≤(xs.length:Int))))=false:=by
    rw [Bool.eq_false_iff];intro h;simp only [Bool.and_eq_true,decide_eq_true_eq] at h;exact hc h
   rw [this] at hr;cases hr
theorem nIns_ok [al_] {f:FuncId} {t:TC} {m1 m2:M} (hm1:m1 ≠ .v) (hm2:m2 ≠ .v) (h:InsM E.P f (E.eid t) t.width t.bytes) {xs ys r:List (El t)} {i:Int} (hr:nInsert t.bytes xs i ys=some r) :
  eu_ E f [.sl m1 t xs,.i .i64 i,.sl m2 t ys] (.sl (M.both m1 m2) t r) [] [.o,.v,.o]:=by
 unfold nInsert at hr
 by_cases hc:0≤i∧i≤(xs.length:Int)
 · obtain ⟨h1,h2⟩:=hc
   obtain ⟨i,rfl⟩:=Int.eq_ofNat_of_zero_le h1
   by_cases hb:(xs.length+ys.length)*t.bytes≤140737488355328
   · simp only [h1,h2,hb,decide_true,Bool.and_true,cond_true,Option.some.injEq] at hr
     subst hr
     exact sY_ hm1 hm2 h (by omega) hb
   · simp [h1,h2,hb] at hr
 · have:(decide (0≤i)&&decide (i≤(xs.length:Int)))=false:=by
    rw [Bool.eq_false_iff];intro h;simp only [Bool.and_eq_true,decide_eq_true_eq] at h;exact hc h
   rw [this] at hr;cases hr
end Go.Pi
end
section
namespace Go.Proofs
open Go.Shelf Go.RowKit Go.Lib Go.Pi
section
variable {P:Program}
theorem tp_ {ops:Array Oper} {o:Oper} {a:Act} {w:World} {K:Act→World→Prop} {Q:Exit→Act→World→Prop} {E:Prop}
  (hg:o.guard=none) (d x:Operand) (dT sT:TypeId) (hop:o.op=Op.call { callee:=Callee.builtin Builtin.append,args:=#[d,x],argTypes:=#[dT,sT] })
  (v u:Value) (hd:a.eval d=v) (hx:a.eval x=u) {v':Value} {w':World} (hr:(Builtin.append_ #[dT,sT] o.type #[v,u]).run P w = .ok v' w') (hK:K (a.put o.dst v') w') :
  if Region.wanted o (yielded ops a.tmps)=true then Oper.wp P o a w K Q else E:=by
 have hw:Region.wanted o (yielded ops a.tmps)=true:=by simp [Region.wanted,hg]
 rw [if_pos hw]
 unfold Oper.wp
 simp [execOp,hop,resolve,invoke,builtin,hd,hx,hr,Result.andThen]
 exact hK
theorem sz_ (w:World) {ops:Array Oper} {iK_:List Oper} {o:Oper} {a:Act} {Q:Exit→Act→World→Prop} (hgd:o.guard=none) (d:Operand) (t:TypeId)
  (ho:o.op = .call { callee:=.builtin .clear,args:=#[d],argTypes:=#[t] }) (v:Value) (hd:a.eval d=v) {v':Value} {w':World}
  (hr:(Builtin.clear_ #[t] o.type #[v]).run P w = .ok v' w') (h:wpList P ops Q iK_ (a.put o.dst v') w'):wpList P ops Q (o::iK_) a w :=
 wpList_plain hgd fun _ hK=>by
  unfold Oper.wp execOp
  simp only [ho,resolve,invoke,builtin,Sem.run_bind,Sem.run_pure,Result.andThen_ok,List.map_toArray,List.map_cons,List.map_nil,hd,hr]
  exact hK _ _ h
theorem run_clear_k (w:World) (t e ty:TypeId) (z:Value) (ht:P.underlying t=some (.slice e)) (hv:∀ w,(zeroValue e).run P w = .ok z w) (g o n c:Nat) (hn:0<n) (cur:Array Value) (T:TypeId) (hg:w.heap[g]?=some (.cells cur T (0,0)))
  (hfit:o+(Builtin.zeroCells z.cells n).toList.length≤cur.size) (h1:∀ v ∈ (Builtin.zeroCells z.cells n).toList,v.oneCell'=true) :
  (Builtin.clear_ #[t] ty #[.slice (some ⟨g,o,none⟩) n c]).run P w = .ok (.tuple #[]) (w.setRow g (cur.toList.take o++(Builtin.zeroCells z.cells n).toList++cur.toList.drop (o+(Builtin.zeroCells z.cells n).toList.length)).toArray):=by
 have hst:=run_storeCells_at P g o T (Builtin.zeroCells z.cells n).toList 0 cur w hg (by simpa using hfit) h1
 obtain ⟨m,rfl⟩:∃ m,n=m+1:=⟨n - 1,by omega⟩
 simp only [Builtin.clear_,run_underlying ht,Sem.run_bind,Result.andThen_ok,hv]
 simp only [List.getElem?_toArray,List.getElem?_cons_zero,Sem.run_bind,run_underlying ht,Result.andThen_ok,hv,hst,Nat.add_zero,Sem.run_pure]
end
theorem to_ (w:World) {P:Program} {ops:Array Oper} {iK_:List Oper} {o:Oper} {a:Act} {Q:Exit→Act→World→Prop} (hgd:o.guard=none) (d s:Operand) (t t':TypeId)
  (ho:o.op = .call { callee:=.builtin .copy,args:=#[d,s],argTypes:=#[t,t'] }) (v u:Value) (hd:a.eval d=v) (hs:a.eval s=u) {v':Value} {w':World}
  (hr:(Builtin.copy_ #[t,t'] o.type #[v,u]).run P w = .ok v' w') (h:wpList P ops Q iK_ (a.put o.dst v') w'):wpList P ops Q (o::iK_) a w :=
 wpList_plain hgd fun _ hK=>by
  unfold Oper.wp execOp
  simp only [ho,resolve,invoke,builtin,Sem.run_bind,Sem.run_pure,Result.andThen_ok,List.map_toArray,List.map_cons,List.map_nil,hd,hs,hr]
  exact hK _ _ h
theorem step_copy_runI {P:Program} {ops:Array Oper} {o:Oper} {a:Act} {w:World} {K:Act→World→Prop} {Q:Exit→Act→World→Prop} {E:Prop}
  (hg:o.guard=none) (d x:Operand) (dT sT:TypeId) (hop:o.op=Op.call { callee:=Callee.builtin Builtin.copy,args:=#[d,x],argTypes:=#[dT,sT] })
  (v u:Value) (hd:a.eval d=v) (hx:a.eval x=u) {v':Value} {w':World} (hr:(Builtin.copy_ #[dT,sT] o.type #[v,u]).run P w = .ok v' w') (hK:K (a.put o.dst v') w') :
  if Region.wanted o (yielded ops a.tmps)=true then Oper.wp P o a w K Q else E:=by
 have hw:Region.wanted o (yielded ops a.tmps)=true:=by simp [Region.wanted,hg]
 rw [if_pos hw]
 unfold Oper.wp
 simp [execOp,hop,resolve,invoke,builtin,hd,hx,hr,Result.andThen]
 exact hK
theorem run_copy_rowK {P:Program} (w:World) (dT sT ty elem:TypeId) (k:Nat) (g o dLen dCap:Nat) (a:Addr) (sLen sCap:Nat) (cur:Array Value) (t:TypeId) (cs:List Value)
  (hu:P.underlying dT=some (.slice elem)) (hs:(P.info? elem).map (·.size)=some k)
  (hg:w.heap[g]?=some (.cells cur t (0,0))) (hn:cs.length=Nat.min sLen dLen*k)
  (hsrc:∀ j v,cs[j]?=some v→w.cell? (a.add j)=some v) (hfit:o+cs.length≤cur.size) (h1:∀ v ∈ cs,v.oneCell'=true) :
  (Builtin.copy_ #[dT,sT] ty #[.slice (some ⟨g,o,none⟩) dLen dCap,.slice (some a) sLen sCap]).run P w =
   .ok (goInt (Nat.min sLen dLen)) (w.setRow g (cur.toList.take o++cs++cur.toList.drop (o+cs.length)).toArray):=by
 have hl:=run_loadCells_list (P:=P) w a cs hsrc
 have hst:=run_storeCells_at P g o t cs 0 cur w hg (by simpa using hfit) h1
 cases hq:P.info? elem with
 |none=>simp [hq] at hs
 |some i=>
  have hi:i.size=k:=by simpa [hq] using hs
  simp [Builtin.copy_,run_underlying hu,Builtin.lenOf,Builtin.firstCells,sizeOf,typeInfo,hq,hi,←hn,hl,hst]
theorem zc_one (cs:Array Value) (h:cs.toList.all Value.oneCell'=true) (n:Nat):∀ v ∈ (Builtin.zeroCells cs n).toList,v.oneCell'=true:=by
 intro v hv
 simp only [Builtin.zeroCells,Array.toList_map,List.mem_map,Array.toList_range,List.mem_range] at hv
 obtain ⟨x,hx,rfl⟩:=hv
 have h0:0<cs.size:=Nat.pos_of_mul_pos_left (by omega:0<n*cs.size)
 have:x % cs.size<cs.size:=Nat.mod_lt _ h0
 rw [getElem!_pos cs _ this]
 exact List.all_eq_true.1 h _ (by simp)
theorem own_low {w:World} {e:TypeId} {K:Nat} {S:Value} {n:Nat} {vals:List Value} (h:w.ownsRow 0 e K S n vals):∀ b,cR_ S b≠0→b<w.heap.size:=by
 intro b hb
 rcases h.2 with ⟨rfl,_⟩|⟨g,cap,cur,rfl,_,hg,_⟩
 · simp [cR_] at hb
 · have:g=b:=by simp only [cR_] at hb;exact Classical.byContradiction fun h=>hb (if_neg h)
   subst this
   exact (Array.getElem?_eq_some_iff.1 hg).1
theorem drow_size (w:World) (g:Nat) (A:Array Value):w.heap.size≤(w.drew.setRow g A).heap.size:=by
 have:(w.drew.setRow g A).heap.size=w.drew.heap.size:=by simp [World.setRow]
 rw [this];exact Nat.le_refl _
theorem owns1_iff {w:World} {e:TypeId} {v:Value} {n:Nat} {xs:List Value}:w.ownsRow 0 e 1 v n xs ↔
  (xs.length=n∧(v = .slice none 0 0∧n=0∨∃ g cap cur,v = .slice (some ⟨g,0,none⟩) n cap∧0≤g∧w.heap[g]?=some (.cells cur e (0,0))∧n≤cap∧cap≤maxLen∧cur.size=cap∧cur.toList.take n=xs)):=by
 unfold World.ownsRow
 simp only [Nat.mul_one]
end Go.Proofs
end
section
namespace Go.Proofs
open Go.Shelf
def Tryz.laysM171_ren:Go.Shelf.Ren:=⟨fun|171=>95|243=>137|246=>192|283=>243|284=>244|285=>245|286=>246|129=>269|317=>268|318=>270|319=>271|320=>272|337=>283|338=>284|n=>n,fun|3=>3|9=>9|2=>2|4=>4|171=>266|0=>0|53=>267|37=>22|5=>5|173=>270|212=>292|51=>242|20=>20|213=>293|46=>184|232=>309|233=>310|n=>n,fun|17=>3|18=>4|19=>5|n=>n⟩
theorem Tryz.laysM171:Go.Proofs.LaysM.n171 Tryz.prog Tryz.laysM171_ren:={
 mixed:=by kernel_rfl
 f129:=Tryz.func269.trans (congrArg some (by kernel_rfl))
 f171:=Tryz.func95.trans (congrArg some (by kernel_rfl))
 f243:=Tryz.func137.trans (congrArg some (by kernel_rfl))
 f246:=Tryz.func192.trans (congrArg some (by kernel_rfl))
 f283:=Tryz.func243.trans (congrArg some (by kernel_rfl))
 f284:=Tryz.func244.trans (congrArg some (by kernel_rfl))
 f285:=Tryz.func245.trans (congrArg some (by kernel_rfl))
 f286:=Tryz.func246.trans (congrArg some (by kernel_rfl))
 f317:=Tryz.func268.trans (congrArg some (by kernel_rfl))
 f318:=Tryz.func270.trans (congrArg some (by kernel_rfl))
 f319:=Tryz.func271.trans (congrArg some (by kernel_rfl))
 f320:=Tryz.func272.trans (congrArg some (by kernel_rfl))
 f337:=Tryz.func283.trans (congrArg some (by kernel_rfl))
 f338:=Tryz.func284.trans (congrArg some (by kernel_rfl))
 t0:=Tryz.underlying0
 a0:=Tryz.isAgg0
 z0:=Tryz.sizeOf0
 v0:=Tryz.zeroValue0
 t2:=Tryz.underlying2
 a2:=Tryz.isAgg2
 z2:=Tryz.sizeOf2
 v2:=Tryz.zeroValue2
 t3:=Tryz.underlying3
 a3:=Tryz.isAgg3
 z3:=Tryz.sizeOf3
 v3:=Tryz.zeroValue3
 t4:=Tryz.underlying4
 a4:=Tryz.isAgg4
 z4:=Tryz.sizeOf4
 v4:=Tryz.zeroValue4
 t5:=Tryz.underlying5
 a5:=Tryz.isAgg5
 z5:=Tryz.sizeOf5
 v5:=Tryz.zeroValue5
 t9:=Tryz.underlying9
 a9:=Tryz.isAgg9
 z9:=Tryz.sizeOf9
 v9:=Tryz.zeroValue9
 t20:=Tryz.underlying20
 a20:=Tryz.isAgg20
 z20:=Tryz.sizeOf20
 v20:=Tryz.zeroValue20
 t37:=Tryz.underlying22
 a37:=Tryz.isAgg22
 z37:=Tryz.sizeOf22
 v37:=Tryz.zeroValue22
 t46:=Tryz.underlying184
 a46:=Tryz.isAgg184
 z46:=Tryz.sizeOf184
 v46:=Tryz.zeroValue184
 t51:=Tryz.underlying242
 a51:=Tryz.isAgg242
 z51:=Tryz.sizeOf242
 v51:=Tryz.zeroValue242
 t53:=Tryz.underlying267
 a53:=Tryz.isAgg267
 z53:=Tryz.sizeOf267
 v53:=Tryz.zeroValue267
 t171:=Tryz.underlying266
 a171:=Tryz.isAgg266
 z171:=Tryz.sizeOf266
 v171:=Tryz.zeroValue266
 t173:=Tryz.underlying270
 a173:=Tryz.isAgg270
 z173:=Tryz.sizeOf270
 v173:=Tryz.zeroValue270
 t212:=Tryz.underlying292
 a212:=Tryz.isAgg292
 z212:=Tryz.sizeOf292
 v212:=Tryz.zeroValue292
 t213:=Tryz.underlying293
 a213:=Tryz.isAgg293
 z213:=Tryz.sizeOf293
 t232:=Tryz.underlying309
 a232:=Tryz.isAgg309
 z232:=Tryz.sizeOf309
 v232:=Tryz.zeroValue309
 t233:=Tryz.underlying310
 a233:=Tryz.isAgg310
 z233:=Tryz.sizeOf310
 v233:=Tryz.zeroValue310
 g17:=by kernel_rfl
 g18:=by kernel_rfl
 g19:=by kernel_rfl
 i0:=by kernel_rfl
 i2:=by kernel_rfl
 i3:=by kernel_rfl
 i4:=by kernel_rfl
 i5:=by kernel_rfl
 i9:=by kernel_rfl
 i20:=by kernel_rfl
 i37:=by kernel_rfl
 i46:=by kernel_rfl
 i51:=by kernel_rfl
 i53:=by kernel_rfl
 i171:=by kernel_rfl
 i173:=by kernel_rfl
 i212:=by kernel_rfl
 i232:=by kernel_rfl
 i233:=by kernel_rfl
 m17:=by kernel_rfl
 m18:=by kernel_rfl
 m19:=by kernel_rfl }
open Go.RowKit Go.Sort Go.Lib in
theorem Tryz.strconv_Itoa (n:Int) (h0 : -9223372036854775808≤n) (h1:n≤9223372036854775807) (w:World) (htab:Lib.TabIs Tryz.prog w "internal/strconv.uint64pow10" .u64 Lib.pow10Tab) :
  Calls Tryz.prog 95 #[.int .i64 n] w fun e w'=>e = .returned (.string ⟨(Lib.itoa n).toArray⟩)∧∃ k os,w'=grow (w.drewN k) os:=Any.strconv_Itoa Tryz.laysM171 n h0 h1 w htab
end Go.Proofs
namespace Go.Pi
open Go.Proofs
theorem mr_:E.P.globalNamed "internal/strconv.uint64pow10" = some 3:=by kernel_rfl
theorem strconv_Itoa.ok (n:Nat):strconv_Itoa.e.Oks E (cx n) n:=fun _ _ _ _ h=>nItoa_ok (fun n h0 h1 w ht=>Tryz.strconv_Itoa n h0 h1 w ht) (.head _) mr_ h
end Go.Pi
end
section
namespace Go.Proofs
open Go.Shelf
def Tryz.laysC172_ren:Go.Shelf.Ren:=⟨fun|172=>102|244=>147|245=>148|247=>199|279=>200|280=>201|281=>202|282=>203|287=>250|316=>251|171=>95|205=>252|321=>277|322=>278|243=>137|246=>192|283=>243|284=>244|285=>245|286=>246|129=>269|317=>268|318=>270|319=>271|320=>272|337=>283|338=>284|n=>n,fun|9=>9|3=>3|75=>140|76=>141|4=>4|5=>5|167=>233|37=>22|0=>0|85=>234|2=>2|168=>236|53=>267|175=>274|46=>184|210=>277|127=>272|145=>303|143=>301|21=>21|171=>266|173=>270|212=>292|51=>242|20=>20|213=>293|232=>309|233=>310|80=>230|n=>n,fun|15=>1|16=>2|17=>3|18=>4|19=>5|n=>n⟩
theorem Tryz.laysC172:Go.Proofs.LaysC.n172 Tryz.prog Tryz.laysC172_ren:={
 mixed:=by kernel_rfl
 f129:=Tryz.func269.trans (congrArg some (by kernel_rfl))
 f171:=Tryz.func95.trans (congrArg some (by kernel_rfl))
 f172:=Tryz.func102.trans (congrArg some (by kernel_rfl))
 f205:=Tryz.func252.trans (congrArg some (by kernel_rfl))
 f243:=Tryz.func137.trans (congrArg some (by kernel_rfl))
 f244:=Tryz.func147.trans (congrArg some (by kernel_rfl))
 f245:=Tryz.func148.trans (congrArg some (by kernel_rfl))
 f246:=Tryz.func192.trans (congrArg some (by kernel_rfl))
 f247:=Tryz.func199.trans (congrArg some (by kernel_rfl))
 f279:=Tryz.func200.trans (congrArg some (by kernel_rfl))
 f280:=Tryz.func201.trans (congrArg some (by kernel_rfl))
 f281:=Tryz.func202.trans (congrArg some (by kernel_rfl))
 f282:=Tryz.func203.trans (congrArg some (by kernel_rfl))
 f283:=Tryz.func243.trans (congrArg some (by kernel_rfl))
 f284:=Tryz.func244.trans (congrArg some (by kernel_rfl))
 f285:=Tryz.func245.trans (congrArg some (by kernel_rfl))
 f286:=Tryz.func246.trans (congrArg some (by kernel_rfl))
 f287:=Tryz.func250.trans (congrArg some (by kernel_rfl))
 f316:=Tryz.func251.trans (congrArg some (by kernel_rfl))
 f317:=Tryz.func268.trans (congrArg some (by kernel_rfl))
 f318:=Tryz.func270.trans (congrArg some (by kernel_rfl))
 f319:=Tryz.func271.trans (congrArg some (by kernel_rfl))
 f320:=Tryz.func272.trans (congrArg some (by kernel_rfl))
 f321:=Tryz.func277.trans (congrArg some (by kernel_rfl))
 f322:=Tryz.func278.trans (congrArg some (by kernel_rfl))
 f337:=Tryz.func283.trans (congrArg some (by kernel_rfl))
 f338:=Tryz.func284.trans (congrArg some (by kernel_rfl))
 t0:=Tryz.underlying0
 a0:=Tryz.isAgg0
 z0:=Tryz.sizeOf0
 v0:=Tryz.zeroValue0
 t2:=Tryz.underlying2
 a2:=Tryz.isAgg2
 z2:=Tryz.sizeOf2
 v2:=Tryz.zeroValue2
 t3:=Tryz.underlying3
 a3:=Tryz.isAgg3
 z3:=Tryz.sizeOf3
 v3:=Tryz.zeroValue3
 t4:=Tryz.underlying4
 a4:=Tryz.isAgg4
 z4:=Tryz.sizeOf4
 v4:=Tryz.zeroValue4
 t5:=Tryz.underlying5
 a5:=Tryz.isAgg5
 z5:=Tryz.sizeOf5
 v5:=Tryz.zeroValue5
 t9:=Tryz.underlying9
 a9:=Tryz.isAgg9
 z9:=Tryz.sizeOf9
 v9:=Tryz.zeroValue9
 t20:=Tryz.underlying20
 a20:=Tryz.isAgg20
 z20:=Tryz.sizeOf20
 v20:=Tryz.zeroValue20
 t21:=Tryz.underlying21
 a21:=Tryz.isAgg21
 z21:=Tryz.sizeOf21
 v21:=Tryz.zeroValue21
 t37:=Tryz.underlying22
 a37:=Tryz.isAgg22
 z37:=Tryz.sizeOf22
 v37:=Tryz.zeroValue22
 t46:=Tryz.underlying184
 a46:=Tryz.isAgg184
 z46:=Tryz.sizeOf184
 v46:=Tryz.zeroValue184
 t51:=Tryz.underlying242
 a51:=Tryz.isAgg242
 z51:=Tryz.sizeOf242
 v51:=Tryz.zeroValue242
 t53:=Tryz.underlying267
 a53:=Tryz.isAgg267
 z53:=Tryz.sizeOf267
 v53:=Tryz.zeroValue267
 t75:=Tryz.underlying140
 a75:=Tryz.isAgg140
 z75:=Tryz.sizeOf140
 v75:=Tryz.zeroValue140
 t76:=Tryz.underlying141
 a76:=Tryz.isAgg141
 z76:=Tryz.sizeOf141
 v76:=Tryz.zeroValue141
 t85:=Tryz.underlying234
 a85:=Tryz.isAgg234
 z85:=Tryz.sizeOf234
 v85:=Tryz.zeroValue234
 t127:=Tryz.underlying272
 a127:=Tryz.isAgg272
 z127:=Tryz.sizeOf272
 v127:=Tryz.zeroValue272
 t143:=Tryz.underlying301
 a143:=Tryz.isAgg301
 z143:=Tryz.sizeOf301
 v143:=Tryz.zeroValue301
 t145:=Tryz.underlying303
 a145:=Tryz.isAgg303
 z145:=Tryz.sizeOf303
 v145:=Tryz.zeroValue303
 t167:=Tryz.underlying233
 a167:=Tryz.isAgg233
 z167:=Tryz.sizeOf233
 v167:=Tryz.zeroValue233
 t168:=Tryz.underlying236
 a168:=Tryz.isAgg236
 z168:=Tryz.sizeOf236
 v168:=Tryz.zeroValue236
 t171:=Tryz.underlying266
 a171:=Tryz.isAgg266
 z171:=Tryz.sizeOf266
 v171:=Tryz.zeroValue266
 t173:=Tryz.underlying270
 a173:=Tryz.isAgg270
 z173:=Tryz.sizeOf270
 v173:=Tryz.zeroValue270
 t175:=Tryz.underlying274
 a175:=Tryz.isAgg274
 z175:=Tryz.sizeOf274
 v175:=Tryz.zeroValue274
 t210:=Tryz.underlying277
 a210:=Tryz.isAgg277
 z210:=Tryz.sizeOf277
 v210:=Tryz.zeroValue277
 t212:=Tryz.underlying292
 a212:=Tryz.isAgg292
 z212:=Tryz.sizeOf292
 v212:=Tryz.zeroValue292
 t213:=Tryz.underlying293
 a213:=Tryz.isAgg293
 z213:=Tryz.sizeOf293
 t232:=Tryz.underlying309
 a232:=Tryz.isAgg309
 z232:=Tryz.sizeOf309
 v232:=Tryz.zeroValue309
 t233:=Tryz.underlying310
 a233:=Tryz.isAgg310
 z233:=Tryz.sizeOf310
 v233:=Tryz.zeroValue310
 g15:=by kernel_rfl
 g16:=by kernel_rfl
 g17:=by kernel_rfl
 g18:=by kernel_rfl
 g19:=by kernel_rfl
 t80:=Tryz.underlying230
 a80:=Tryz.isAgg230
 z80:=Tryz.sizeOf230
 v80:=Tryz.zeroValue230
 i0:=by kernel_rfl
 i2:=by kernel_rfl
 i3:=by kernel_rfl
 i4:=by kernel_rfl
 i5:=by kernel_rfl
 i9:=by kernel_rfl
 i20:=by kernel_rfl
 i21:=by kernel_rfl
 i37:=by kernel_rfl
 i46:=by kernel_rfl
 i51:=by kernel_rfl
 i53:=by kernel_rfl
 i75:=by kernel_rfl
 i76:=by kernel_rfl
 i80:=by kernel_rfl
 i85:=by kernel_rfl
 i127:=by kernel_rfl
 i143:=by kernel_rfl
 i145:=by kernel_rfl
 i167:=by kernel_rfl
 i168:=by kernel_rfl
 i171:=by kernel_rfl
 i173:=by kernel_rfl
 i175:=by kernel_rfl
 i210:=by kernel_rfl
 i212:=by kernel_rfl
 i232:=by kernel_rfl
 i233:=by kernel_rfl
 m15:=by kernel_rfl
 m16:=by kernel_rfl
 m17:=by kernel_rfl
 m18:=by kernel_rfl
 m19:=by kernel_rfl
 c0:=by kernel_rfl
 c2:=by kernel_rfl
 c3:=by kernel_rfl
 c4:=by kernel_rfl
 c5:=by kernel_rfl
 c9:=by kernel_rfl
 c20:=by kernel_rfl
 c21:=by kernel_rfl
 c37:=by kernel_rfl
 c46:=by kernel_rfl
 c51:=by kernel_rfl
 c53:=by kernel_rfl
 c75:=by kernel_rfl
 c76:=by kernel_rfl
 c80:=by kernel_rfl
 c85:=by kernel_rfl
 c127:=by kernel_rfl
 c143:=by kernel_rfl
 c145:=by kernel_rfl
 c167:=by kernel_rfl
 c168:=by kernel_rfl
 c171:=by kernel_rfl
 c173:=by kernel_rfl
 c175:=by kernel_rfl
 c210:=by kernel_rfl
 c212:=by kernel_rfl
 c213:=by kernel_rfl
 c232:=by kernel_rfl
 c233:=by kernel_rfl }
end Go.Proofs
namespace Go.Pi
open Go.Proofs
theorem atoiM:AtoiM E.P 102 1 2 5:=⟨fun s v w h1 h2=>Any.strconv_Atoi_ok Tryz.laysC172 s h1 v h2 w,fun s ev w h1 h2 h3 h4=>by
 cases ha:Lib.atoiAll s.data.toList
 · rename_i v;exact absurd ha (h2.1 v)
 · exact (Any.strconv_Atoi_syntax Tryz.laysC172 s h1 ha ev w h3 h4).mono fun e w' ⟨N,he,_,_,hb⟩=>⟨⟨_,_,he⟩,hb⟩
 · exact absurd ha h2.2,fun s ev w h1 h2 h3 h4=>(Any.strconv_Atoi_range Tryz.laysC172 s h1 h2 ev w h3 h4).mono fun e w' ⟨N,he,_,_,hb⟩=>⟨⟨_,_,he⟩,hb⟩⟩
end Go.Pi
namespace Go.Pi
open Go.Proofs
theorem cS_.ok (n:Nat):cS_.e.Oks E (cx n) n:=fun _ _ _ _ h=>nAtoi_ok atoiM (.tail _ (.tail _ (.head _))) (.tail _ (.tail _ (.tail _ (.head _)))) h
end Go.Pi
end
section
namespace Go.Proofs
open Go.Shelf
def Tryz.lays219_ren:Go.Shelf.Ren:=⟨fun|219=>113|217=>156|225=>157|224=>158|267=>159|266=>213|314=>214|n=>n,fun|9=>9|3=>3|4=>4|5=>5|46=>184|146=>243|51=>242|n=>n,fun|1=>0|n=>n⟩
theorem Tryz.lays219:Go.Proofs.Lays.n219 Tryz.prog Tryz.lays219_ren:={
 mixed:=by kernel_rfl
 f217:=Tryz.func156.trans (congrArg some (by kernel_rfl))
 f219:=Tryz.func113.trans (congrArg some (by kernel_rfl))
 f224:=Tryz.func158.trans (congrArg some (by kernel_rfl))
 f225:=Tryz.func157.trans (congrArg some (by kernel_rfl))
 f266:=Tryz.func213.trans (congrArg some (by kernel_rfl))
 f267:=Tryz.func159.trans (congrArg some (by kernel_rfl))
 f314:=Tryz.func214.trans (congrArg some (by kernel_rfl))
 t3:=Tryz.underlying3
 a3:=Tryz.isAgg3
 z3:=Tryz.sizeOf3
 v3:=Tryz.zeroValue3
 t4:=Tryz.underlying4
 a4:=Tryz.isAgg4
 z4:=Tryz.sizeOf4
 v4:=Tryz.zeroValue4
 t5:=Tryz.underlying5
 a5:=Tryz.isAgg5
 z5:=Tryz.sizeOf5
 v5:=Tryz.zeroValue5
 t9:=Tryz.underlying9
 a9:=Tryz.isAgg9
 z9:=Tryz.sizeOf9
 v9:=Tryz.zeroValue9
 t46:=Tryz.underlying184
 a46:=Tryz.isAgg184
 z46:=Tryz.sizeOf184
 v46:=Tryz.zeroValue184
 t51:=Tryz.underlying242
 a51:=Tryz.isAgg242
 z51:=Tryz.sizeOf242
 v51:=Tryz.zeroValue242
 t146:=Tryz.underlying243
 a146:=Tryz.isAgg243
 z146:=Tryz.sizeOf243
 v146:=Tryz.zeroValue243
 g1:=by kernel_rfl }
open Go.RowKit Go.Sort Go.Lib in
theorem Tryz.stringslite_Index_one (s:ByteArray) (c:UInt8) (w:World) :
  Calls Tryz.prog 113 #[.string s,.string ⟨#[c]⟩] w fun e w'=>e = .returned (.int .i64 (Lib.indexByte s.data.toList c))∧w'=w:=Any.stringslite_Index_one Tryz.lays219 s c w
end Go.Proofs
namespace Go.Pi
open Go.Proofs
theorem b7_.ok (n:Nat):b7_.e.Oks E (cx n) n:=fun _ _ _ _ h=>nIndex_ok (fun s c w=>Tryz.stringslite_Index_one s c w) h
end Go.Pi
end
section
namespace Go.Proofs
open Go.Shelf
def Tryz.lays156_ren:Go.Shelf.Ren:=⟨fun|156=>139|165=>193|166=>194|169=>195|240=>247|241=>248|276=>273|277=>274|n=>n,fun|31=>27|9=>9|3=>3|4=>4|0=>0|20=>20|72=>228|76=>141|70=>226|37=>22|75=>140|127=>272|164=>295|5=>5|80=>230|n=>n,fun|n=>n⟩
theorem Tryz.lays156:Go.Proofs.Lays.n156 Tryz.prog Tryz.lays156_ren:={
 mixed:=by kernel_rfl
 f156:=Tryz.func139.trans (congrArg some (by kernel_rfl))
 f165:=Tryz.func193.trans (congrArg some (by kernel_rfl))
 f166:=Tryz.func194.trans (congrArg some (by kernel_rfl))
 f169:=Tryz.func195.trans (congrArg some (by kernel_rfl))
 f240:=Tryz.func247.trans (congrArg some (by kernel_rfl))
 f241:=Tryz.func248.trans (congrArg some (by kernel_rfl))
 f276:=Tryz.func273.trans (congrArg some (by kernel_rfl))
 f277:=Tryz.func274.trans (congrArg some (by kernel_rfl))
 t0:=Tryz.underlying0
 a0:=Tryz.isAgg0
 z0:=Tryz.sizeOf0
 v0:=Tryz.zeroValue0
 t3:=Tryz.underlying3
 a3:=Tryz.isAgg3
 z3:=Tryz.sizeOf3
 v3:=Tryz.zeroValue3
 t4:=Tryz.underlying4
 a4:=Tryz.isAgg4
 z4:=Tryz.sizeOf4
 v4:=Tryz.zeroValue4
 t9:=Tryz.underlying9
 a9:=Tryz.isAgg9
 z9:=Tryz.sizeOf9
 v9:=Tryz.zeroValue9
 t20:=Tryz.underlying20
 a20:=Tryz.isAgg20
 z20:=Tryz.sizeOf20
 v20:=Tryz.zeroValue20
 t31:=Tryz.underlying27
 a31:=Tryz.isAgg27
 z31:=Tryz.sizeOf27
 v31:=Tryz.zeroValue27
 t37:=Tryz.underlying22
 a37:=Tryz.isAgg22
 z37:=Tryz.sizeOf22
 v37:=Tryz.zeroValue22
 t70:=Tryz.underlying226
 a70:=Tryz.isAgg226
 z70:=Tryz.sizeOf226
 v70:=Tryz.zeroValue226
 t72:=Tryz.underlying228
 a72:=Tryz.isAgg228
 z72:=Tryz.sizeOf228
 v72:=Tryz.zeroValue228
 t75:=Tryz.underlying140
 a75:=Tryz.isAgg140
 z75:=Tryz.sizeOf140
 v75:=Tryz.zeroValue140
 t76:=Tryz.underlying141
 a76:=Tryz.isAgg141
 z76:=Tryz.sizeOf141
 v76:=Tryz.zeroValue141
 t127:=Tryz.underlying272
 a127:=Tryz.isAgg272
 z127:=Tryz.sizeOf272
 v127:=Tryz.zeroValue272
 t164:=Tryz.underlying295
 a164:=Tryz.isAgg295
 z164:=Tryz.sizeOf295
 v164:=Tryz.zeroValue295 }
theorem Tryz.Builder_Extra_156:Builder.Extra Tryz.prog Tryz.lays156_ren:={
 sizeBuilder:=by kernel_rfl
 liesBuilder:=by kernel_rfl
 t5:=Tryz.underlying5
 a5:=Tryz.isAgg5
 z5:=Tryz.sizeOf5
 v5:=Tryz.zeroValue5
 infoByte:=by kernel_rfl
 cellsByte:=by kernel_rfl
 sizeByte:=by kernel_rfl
 neB5:=by decide }
open Go.RowKit Go.Sort Go.Lib in
theorem Tryz.strings_Join_none (a:Option Addr) (c:Nat) (sep:ByteArray) (w:World) :
  Calls Tryz.prog 139 #[.slice a 0 c,.string sep] w fun e w'=>e = .returned (.string ⟨#[]⟩)∧w'=w:=Any.strings_Join_none Tryz.lays156 Tryz.Builder_Extra_156 a c sep w
open Go.RowKit Go.Sort Go.Lib in
theorem Tryz.strings_Join (bk o c:Nat) (xs:List ByteArray) (sep:ByteArray) (w:World) (hcells:∀ (j:Nat) x,xs[j]?=some x→w.cell? ⟨bk,o+j,none⟩=some (.string x)) (hbk:bk<w.heap.size) (hN:xs.length≤140737488355328) (hcap:xs.length≤c) (hlen:(Lib.join (xs.map (·.data.toList)) sep.data.toList).length≤140737488355328) :
  Calls Tryz.prog 139 #[.slice (some ⟨bk,o,none⟩) xs.length c,.string sep] w fun e w'=>e = .returned (.string ⟨(Lib.join (xs.map (·.data.toList)) sep.data.toList).toArray⟩)∧Below w.heap.size w w':=Any.strings_Join Tryz.lays156 Tryz.Builder_Extra_156 bk o c xs sep w hcells hbk hN hcap hlen
end Go.Proofs
namespace Go.Pi
open Go.Proofs
theorem strings_Join.ok (n:Nat):strings_Join.e.Oks E (cx n) n:=fun _ _ _ _ h=>nJoin_ok ⟨fun a c sep w=>Tryz.strings_Join_none a c sep w,fun bk o c xs sep w h1 h2 h3 h4 h5=>Tryz.strings_Join bk o c xs sep w h1 h2 h3 h4 h5⟩ (fun _=>rfl) h
end Go.Pi
end
section
namespace Go.Proofs
open Go.Shelf
def Tryz.lays155_ren:Go.Shelf.Ren:=⟨fun|155=>196|154=>249|138=>275|165=>193|143=>72|166=>194|197=>276|169=>195|195=>285|218=>286|240=>247|241=>248|219=>113|260=>287|276=>273|277=>274|217=>156|225=>157|224=>158|267=>159|266=>213|314=>214|n=>n,fun|9=>9|3=>3|4=>4|72=>228|0=>0|76=>141|105=>298|21=>21|5=>5|70=>226|20=>20|37=>22|75=>140|127=>272|164=>295|46=>184|119=>311|139=>314|138=>313|146=>243|51=>242|80=>230|n=>n,fun|1=>0|3=>6|4=>7|n=>n⟩
theorem Tryz.lays155:Go.Proofs.Lays.n155 Tryz.prog Tryz.lays155_ren:={
 mixed:=by kernel_rfl
 f138:=Tryz.func275.trans (congrArg some (by kernel_rfl))
 f143:=Tryz.func72.trans (congrArg some (by kernel_rfl))
 f154:=Tryz.func249.trans (congrArg some (by kernel_rfl))
 f155:=Tryz.func196.trans (congrArg some (by kernel_rfl))
 f165:=Tryz.func193.trans (congrArg some (by kernel_rfl))
 f166:=Tryz.func194.trans (congrArg some (by kernel_rfl))
 f169:=Tryz.func195.trans (congrArg some (by kernel_rfl))
 f195:=Tryz.func285.trans (congrArg some (by kernel_rfl))
 f197:=Tryz.func276.trans (congrArg some (by kernel_rfl))
 f217:=Tryz.func156.trans (congrArg some (by kernel_rfl))
 f218:=Tryz.func286.trans (congrArg some (by kernel_rfl))
 f219:=Tryz.func113.trans (congrArg some (by kernel_rfl))
 f224:=Tryz.func158.trans (congrArg some (by kernel_rfl))
 f225:=Tryz.func157.trans (congrArg some (by kernel_rfl))
 f240:=Tryz.func247.trans (congrArg some (by kernel_rfl))
 f241:=Tryz.func248.trans (congrArg some (by kernel_rfl))
 f260:=Tryz.func287.trans (congrArg some (by kernel_rfl))
 f266:=Tryz.func213.trans (congrArg some (by kernel_rfl))
 f267:=Tryz.func159.trans (congrArg some (by kernel_rfl))
 f276:=Tryz.func273.trans (congrArg some (by kernel_rfl))
 f277:=Tryz.func274.trans (congrArg some (by kernel_rfl))
 f314:=Tryz.func214.trans (congrArg some (by kernel_rfl))
 t0:=Tryz.underlying0
 a0:=Tryz.isAgg0
 z0:=Tryz.sizeOf0
 v0:=Tryz.zeroValue0
 t3:=Tryz.underlying3
 a3:=Tryz.isAgg3
 z3:=Tryz.sizeOf3
 v3:=Tryz.zeroValue3
 t4:=Tryz.underlying4
 a4:=Tryz.isAgg4
 z4:=Tryz.sizeOf4
 v4:=Tryz.zeroValue4
 t5:=Tryz.underlying5
 a5:=Tryz.isAgg5
 z5:=Tryz.sizeOf5
 v5:=Tryz.zeroValue5
 t9:=Tryz.underlying9
 a9:=Tryz.isAgg9
 z9:=Tryz.sizeOf9
 v9:=Tryz.zeroValue9
 t20:=Tryz.underlying20
 a20:=Tryz.isAgg20
 z20:=Tryz.sizeOf20
 v20:=Tryz.zeroValue20
 t21:=Tryz.underlying21
 a21:=Tryz.isAgg21
 z21:=Tryz.sizeOf21
 v21:=Tryz.zeroValue21
 t37:=Tryz.underlying22
 a37:=Tryz.isAgg22
 z37:=Tryz.sizeOf22
 v37:=Tryz.zeroValue22
 t46:=Tryz.underlying184
 a46:=Tryz.isAgg184
 z46:=Tryz.sizeOf184
 v46:=Tryz.zeroValue184
 t51:=Tryz.underlying242
 a51:=Tryz.isAgg242
 z51:=Tryz.sizeOf242
 v51:=Tryz.zeroValue242
 t70:=Tryz.underlying226
 a70:=Tryz.isAgg226
 z70:=Tryz.sizeOf226
 v70:=Tryz.zeroValue226
 t72:=Tryz.underlying228
 a72:=Tryz.isAgg228
 z72:=Tryz.sizeOf228
 v72:=Tryz.zeroValue228
 t75:=Tryz.underlying140
 a75:=Tryz.isAgg140
 z75:=Tryz.sizeOf140
 v75:=Tryz.zeroValue140
 t76:=Tryz.underlying141
 a76:=Tryz.isAgg141
 z76:=Tryz.sizeOf141
 v76:=Tryz.zeroValue141
 t105:=Tryz.underlying298
 a105:=Tryz.isAgg298
 z105:=Tryz.sizeOf298
 v105:=Tryz.zeroValue298
 t119:=Tryz.underlying311
 a119:=Tryz.isAgg311
 z119:=Tryz.sizeOf311
 t127:=Tryz.underlying272
 a127:=Tryz.isAgg272
 z127:=Tryz.sizeOf272
 v127:=Tryz.zeroValue272
 t138:=Tryz.underlying313
 a138:=Tryz.isAgg313
 z138:=Tryz.sizeOf313
 v138:=Tryz.zeroValue313
 t139:=Tryz.underlying314
 a139:=Tryz.isAgg314
 z139:=Tryz.sizeOf314
 v139:=Tryz.zeroValue314
 t146:=Tryz.underlying243
 a146:=Tryz.isAgg243
 z146:=Tryz.sizeOf243
 v146:=Tryz.zeroValue243
 t164:=Tryz.underlying295
 a164:=Tryz.isAgg295
 z164:=Tryz.sizeOf295
 v164:=Tryz.zeroValue295
 g1:=by kernel_rfl
 g3:=by kernel_rfl
 g4:=by kernel_rfl }
theorem Tryz.Builder_Extra_155:Builder.Extra Tryz.prog Tryz.lays155_ren:={
 sizeBuilder:=by kernel_rfl
 liesBuilder:=by kernel_rfl
 t5:=Tryz.underlying5
 a5:=Tryz.isAgg5
 z5:=Tryz.sizeOf5
 v5:=Tryz.zeroValue5
 infoByte:=by kernel_rfl
 cellsByte:=by kernel_rfl
 sizeByte:=by kernel_rfl
 neB5:=by decide }
open Go.RowKit Go.Sort Go.Lib in
theorem Tryz.strings_ReplaceAll (s old new:ByteArray) (m:Int) (w:World) (hs:s.size<4294967281) (hm:w.cell? ⟨0,0,none⟩=some (.int .i64 m)) (h1:1≤old.size) (hlen:s.size+Lib.countB s old*new.size≤140737488355328) :
  Calls Tryz.prog 196 #[.string s,.string old,.string new] w fun e w'=>
   e = .returned (.string ⟨(Lib.replaceAll s.data.toList old.data.toList new.data.toList).toArray⟩)∧Below w.heap.size w w':=Any.strings_ReplaceAll Tryz.lays155 Tryz.Builder_Extra_155 s old new m w hs hm h1 hlen
end Go.Proofs
namespace Go.Pi
open Go.Proofs
theorem strings_ReplaceAll.ok (n:Nat):strings_ReplaceAll.e.Oks E (cx n) n:=fun _ _ _ _ h=>nRepl_ok (g:=0) (fun s old new m w h1 h2 h3 h4=>Tryz.strings_ReplaceAll s old new m w h1 h2 h3 h4) (.tail _ (.head _)) h
end Go.Pi
end
section
namespace Go.Proofs
open Go.Shelf
def Tryz.lays146_ren:Go.Shelf.Ren:=⟨fun|146=>254|221=>279|268=>288|138=>275|143=>72|195=>285|197=>276|218=>286|219=>113|260=>287|217=>156|225=>157|224=>158|267=>159|266=>213|314=>214|n=>n,fun|9=>9|31=>27|3=>3|4=>4|0=>0|105=>298|21=>21|5=>5|46=>184|119=>311|139=>314|138=>313|146=>243|51=>242|n=>n,fun|1=>0|3=>6|4=>7|n=>n⟩
theorem Tryz.lays146:Go.Proofs.Lays.n146 Tryz.prog Tryz.lays146_ren:={
 mixed:=by kernel_rfl
 f138:=Tryz.func275.trans (congrArg some (by kernel_rfl))
 f143:=Tryz.func72.trans (congrArg some (by kernel_rfl))
 f146:=Tryz.func254.trans (congrArg some (by kernel_rfl))
 f195:=Tryz.func285.trans (congrArg some (by kernel_rfl))
 f197:=Tryz.func276.trans (congrArg some (by kernel_rfl))
 f217:=Tryz.func156.trans (congrArg some (by kernel_rfl))
 f218:=Tryz.func286.trans (congrArg some (by kernel_rfl))
 f219:=Tryz.func113.trans (congrArg some (by kernel_rfl))
 f221:=Tryz.func279.trans (congrArg some (by kernel_rfl))
 f224:=Tryz.func158.trans (congrArg some (by kernel_rfl))
 f225:=Tryz.func157.trans (congrArg some (by kernel_rfl))
 f260:=Tryz.func287.trans (congrArg some (by kernel_rfl))
 f266:=Tryz.func213.trans (congrArg some (by kernel_rfl))
 f267:=Tryz.func159.trans (congrArg some (by kernel_rfl))
 f268:=Tryz.func288.trans (congrArg some (by kernel_rfl))
 f314:=Tryz.func214.trans (congrArg some (by kernel_rfl))
 t0:=Tryz.underlying0
 a0:=Tryz.isAgg0
 z0:=Tryz.sizeOf0
 v0:=Tryz.zeroValue0
 t3:=Tryz.underlying3
 a3:=Tryz.isAgg3
 z3:=Tryz.sizeOf3
 v3:=Tryz.zeroValue3
 t4:=Tryz.underlying4
 a4:=Tryz.isAgg4
 z4:=Tryz.sizeOf4
 v4:=Tryz.zeroValue4
 t5:=Tryz.underlying5
 a5:=Tryz.isAgg5
 z5:=Tryz.sizeOf5
 v5:=Tryz.zeroValue5
 t9:=Tryz.underlying9
 a9:=Tryz.isAgg9
 z9:=Tryz.sizeOf9
 v9:=Tryz.zeroValue9
 t21:=Tryz.underlying21
 a21:=Tryz.isAgg21
 z21:=Tryz.sizeOf21
 v21:=Tryz.zeroValue21
 t31:=Tryz.underlying27
 a31:=Tryz.isAgg27
 z31:=Tryz.sizeOf27
 v31:=Tryz.zeroValue27
 t46:=Tryz.underlying184
 a46:=Tryz.isAgg184
 z46:=Tryz.sizeOf184
 v46:=Tryz.zeroValue184
 t51:=Tryz.underlying242
 a51:=Tryz.isAgg242
 z51:=Tryz.sizeOf242
 v51:=Tryz.zeroValue242
 t105:=Tryz.underlying298
 a105:=Tryz.isAgg298
 z105:=Tryz.sizeOf298
 v105:=Tryz.zeroValue298
 t119:=Tryz.underlying311
 a119:=Tryz.isAgg311
 z119:=Tryz.sizeOf311
 t138:=Tryz.underlying313
 a138:=Tryz.isAgg313
 z138:=Tryz.sizeOf313
 v138:=Tryz.zeroValue313
 t139:=Tryz.underlying314
 a139:=Tryz.isAgg314
 z139:=Tryz.sizeOf314
 v139:=Tryz.zeroValue314
 t146:=Tryz.underlying243
 a146:=Tryz.isAgg243
 z146:=Tryz.sizeOf243
 v146:=Tryz.zeroValue243
 g1:=by kernel_rfl
 g3:=by kernel_rfl
 g4:=by kernel_rfl }
open Go.RowKit Go.Sort Go.Lib in
theorem Tryz.strings_Split (s sep:ByteArray) (m:Int) (w:World) (hs:s.size<4294967281) (hm:w.cell? ⟨0,0,none⟩=some (.int .i64 m)) (h1:1≤sep.size) :
  Calls Tryz.prog 254 #[.string s,.string sep] w fun e w'=>
   e = .returned (.slice (some ⟨w.heap.size,0,none⟩) (Lib.countB s sep+1) (Lib.countB s sep+1))∧w'=w.alloc (.cells ((Lib.splitB sep 0 (Lib.countB s sep) s).map Value.string).toArray 9):=Any.strings_Split Tryz.lays146 (by kernel_rfl) s sep m w hs hm h1
end Go.Proofs
namespace Go.Pi
open Go.Proofs
theorem strings_Split.ok (n:Nat):strings_Split.e.Oks E (cx n) n:=fun _ _ _ _ h=>nSplit_ok (g:=0) (T:=9) (fun s sep m w h1 h2 h3=>Tryz.strings_Split s sep m w h1 h2 h3) (.tail _ (.head _)) rfl (fun _ _=>rfl) rfl h
end Go.Pi
end
section
namespace Go.Pi
open Go.Proofs
theorem zer:zl ents=zr ents:=by kernel_rfl
theorem fcts:factL E.P ents ents=factR ents:=by kernel_rfl
theorem cxok (n nt:Nat) (a:AllE E n ents):CxOk E (cx n nt):=⟨ttOk,tcOk,u8Ok,KE_ok fcts a⟩
theorem allOk:∀ n,AllE E n ents
 |0=>all0 zer
 |n+1=>allS_ok (fun nt=>cxok n nt (allOk n)) (fun _=>KE_par) (show AllS E (cx n) n ents from ⟨laws_FnEvents.ok n,f8_.ok n,cU_.ok n,co_.ok n,c3_.ok n,cT_.ok n,cu_.ok n,cy_.ok n,ad_.ok n,cb_.ok n,d4_.ok n,ah_.ok n,ac_.ok n,a7_.ok n,d8_.ok n,bc_.ok n,ec_.ok n,dq_.ok n,bq_.ok n,aK_.ok n,cZ_.ok n,bN_.ok n,db_.ok n,aN_.ok n,dW_.ok n,dy_.ok n,dm_.ok n,cQ_.ok n,c5_.ok n,bj_.ok n,cI_.ok n,dF_.ok n,dV_.ok n,bd_.ok n,eN_.ok n,cJ_.ok n,cm_.ok n,aP_.ok n,d6_.ok n,ak_.ok n,df_.ok n,bC_.ok n,aC_.ok n,dT_.ok n,bu_.ok n,bz_.ok n,dL_.ok n,do_.ok n,dc_.ok n,cx_.ok n,bL_.ok n,dx_.ok n,c7_.ok n,b4_.ok n,aq_.ok n,cL_.ok n,strconv_Itoa.ok n,a8_.ok n,ed_.ok n,aO_.ok n,dU_.ok n,cP_.ok n,dp_.ok n,cS_.ok n,dI_.ok n,cH_.ok n,bY_.ok n,as_.ok n,aD_.ok n,bP_.ok n,dS_.ok n,dj_.ok n,a3_.ok n,dw_.ok n,b7_.ok n,dM_.ok n,aL_.ok n,a0_.ok n,b0_.ok n,dP_.ok n,d7_.ok n,dk_.ok n,d5_.ok n,c9_.ok n,cY_.ok n,bA_.ok n,bv_.ok n,ex_.ok n,ds_.ok n,aT_.ok n,bl_.ok n,cM_.ok n,bI_.ok n,cs_.ok n,aR_.ok n,cr_.ok n,bW_.ok n,strings_Join.ok n,dl_.ok n,bS_.ok n,eb_.ok n,bt_.ok n,aE_.ok n,bR_.ok n,ep_.ok n,aZ_.ok n,bH_.ok n,dX_.ok n,cX_.ok n,ca_.ok n,aG_.ok n,aW_.ok n,a1_.ok n,dr_.ok n,bG_.ok n,a6_.ok n,aA_.ok n,ea_.ok n,bK_.ok n,aQ_.ok n,ce_.ok n,a9_.ok n,a5_.ok n,dv_.ok n,eO_.ok n,bp_.ok n,cc_.ok n,eZ_.ok n,bV_.ok n,b1_.ok n,eP_.ok n,fi_.ok n,de_.ok n,fj_.ok n,eT_.ok n,az_.ok n,b2_.ok n,ag_.ok n,strings_ReplaceAll.ok n,bi_.ok n,ci_.ok n,bs_.ok n,c0_.ok n,aw_.ok n,an_.ok n,ao_.ok n,ej_.ok n,bD_.ok n,aF_.ok n,dN_.ok n,bh_.ok n,cd_.ok n,cw_.ok n,bQ_.ok n,bU_.ok n,du_.ok n,bO_.ok n,dd_.ok n,c6_.ok n,b5_.ok n,bJ_.ok n,bZ_.ok n,eq_.ok n,aJ_.ok n,aH_.ok n,ch_.ok n,bT_.ok n,bB_.ok n,bm_.ok n,au_.ok n,d2_.ok n,cl_.ok n,strings_Split.ok n,dO_.ok n,ey_.ok n,cv_.ok n,c8_.ok n,dt_.ok n,aI_.ok n,aj_.ok n,trivial⟩)
end Go.Pi
end
section
namespace Go.Pi
inductive Kd where
 |i (k:IntKind)
 |b
 |s
 |sl (t:TC)
def kdsL (P:Program) (rec_:TypeId→Option (List Kd)):List Field→Nat→Option (List Kd)
 |[],_=>some []
 |f::fs,off=>cond (Nat.beq f.offset off) (match rec_ f.type with
  |some ks=>cond (Nat.beq (P.cellsOf f.type) ks.length) (match kdsL P rec_ fs (off+ks.length) with
   |some r=>some (ks++r)
   |none=>none) none
  |none=>none) none
def kds (P:Program) (eX_:TypeId→Option TC):Nat→TypeId→Option (List Kd)
 |0,_=>none
 |d+1,T=>match P.underlying T with
  |some (.int k)=>some [.i k]
  |some .bool=>some [.b]
  |some .string=>some [.s]
  |some (.slice e)=>match eX_ e with
   |some t=>some [.sl t]
   |none=>none
  |some (.struct fs)=>match kdsL P (kds P eX_ d) fs.toList 0 with
   |some ks=>cond (Nat.beq (P.cellsOf T) ks.length) (some ks) none
   |none=>none
  |_=>none
inductive Good [ai_]:AV→Prop
 |i (k n):(Lit.int k n).wf=true→Good (.i k n)
 |b (q):Good (.b q)
 |s (l):l.length≤maxLen→Good (.s l)
 |sl (t xs):xs.length≤maxLen→(∀ x ∈ xs,∀ c ∈ ai_.enc .v t x,Good c)→Good (.sl .v t xs)
def KindOk:Kd→AV→Prop
 |.i k,a=>∃ n,a = .i k n
 |.b,a=>∃ q,a = .b q
 |.s,a=>∃ l,a = .s l
 |.sl t,a=>∃ xs,a = .sl .v t xs
def k1_:List Kd→List AV→Prop
 |[],[]=>True
 |k::ks,a::l=>KindOk k a∧k1_ ks l
 |_,_=>False
section
variable {H:Type} {enc:TypeId × Value→H} {P:Program} {w:World} {spare:Nat→Bool}
def qr_ (enc:TypeId × Value→H) (P:Program) (w:World) (spare:Nat→Bool) (eid:TC→TypeId) (F:Nat):Kd→Value→Prop
 |.i k,v=>∃ n,v = .int k n∧(Lit.int k n).wf=true
 |.b,v=>∃ q,v = .bool q
 |.s,v=>∃ s:ByteArray,v = .string s∧s.size≤maxLen
 |.sl t,v=>v = .slice none 0 0∨∃ (a:Addr) (len cap N:Nat),v = .slice (some a) len cap∧len≤cap∧cap≤maxLen∧N<F ∧
   ∀ i,i<len→∃ cs x,w.cells? 0 (a.add (i*P.cellsOf (eid t))) (P.cellsOf (eid t))=some cs∧DataW.trod enc P w 0 spare true N (eid t) cs=some x
def fs_ (enc:TypeId × Value→H) (P:Program) (w:World) (spare:Nat→Bool) (eid:TC→TypeId) (F:Nat):List Kd→List Value→Prop
 |[],[]=>True
 |k::ks,v::vs=>qr_ enc P w spare eid F k v∧fs_ enc P w spare eid F ks vs
 |_,_=>False
theorem qr_.mono {eid:TC→TypeId} {F F':Nat} (hF:F≤F') {k:Kd} {v:Value} (h:qr_ enc P w spare eid F k v):qr_ enc P w spare eid F' k v:=by
 cases k with
 |sl t=>
  rcases h with h|⟨a,len,cap,N,h1,h2,h3,h4,h5⟩
  · exact .inl h
  · exact .inr ⟨a,len,cap,N,h1,h2,h3,Nat.lt_of_lt_of_le h4 hF,h5⟩
 |_=>exact h
theorem fs_.mono {eid:TC→TypeId} {F F':Nat} (hF:F≤F'):∀ {ks:List Kd} {vs:List Value},fs_ enc P w spare eid F ks vs→fs_ enc P w spare eid F' ks vs
 |[],[],_=>trivial
 |k::ks,v::vs,h=>⟨h.1.mono hF,fs_.mono hF h.2⟩
 |[],_::_,h=>h.elim
 |_::_,[],h=>h.elim
theorem fs_.append {eid:TC→TypeId} {F:Nat}:∀ {ks:List Kd} {vs:List Value} {ks':List Kd} {vs':List Value},fs_ enc P w spare eid F ks vs→fs_ enc P w spare eid F ks' vs'→fs_ enc P w spare eid F (ks++ks') (vs++vs')
 |[],[],_,_,_,h=>h
 |k::ks,v::vs,_,_,h,h'=>⟨h.1,fs_.append h.2 h'⟩
 |[],_::_,_,_,h,_=>h.elim
 |_::_,[],_,_,h,_=>h.elim
theorem nJ_ {eX_:TypeId→Option TC} {eid:TC→TypeId} {n:Nat} {rec_:TypeId→Option (List Kd)} {cs:List Value} (hrec:∀ T ks cs x,rec_ T=some ks→DataW.trod enc P w 0 spare true n T cs=some x→fs_ enc P w spare eid n ks cs) :
  ∀ (fs:List Field) (off:Nat) (ks:List Kd),kdsL P rec_ fs off=some ks→(∀ f ∈ fs,∃ x,DataW.trod enc P w 0 spare true n f.type ((cs.drop f.offset).take (P.cellsOf f.type))=some x)→off+ks.length=cs.length→fs_ enc P w spare eid n ks (cs.drop off)
 |[],off,ks,h,_,hl=>by
  simp only [kdsL,Option.some.injEq] at h
  subst h
  rw [List.drop_eq_nil_of_le (by simp at hl;omega)]
  trivial
 |f::fs,off,ks,h,hx,hl=>by
  simp only [kdsL] at h
  obtain ⟨h1,h2⟩:=cj_ h
  have h1:=c1_.1 h1
  cases hr:rec_ f.type with
  |none=>rw [hr] at h2;cases h2
  |some k1=>
   rw [hr] at h2
   obtain ⟨h3,h4⟩:=cj_ h2
   have h3:=c1_.1 h3
   cases hk:kdsL P rec_ fs (off+k1.length) with
   |none=>rw [hk] at h4;cases h4
   |some r=>
    rw [hk] at h4
    simp only [Option.some.injEq] at h4
    subst h4
    obtain ⟨x,hx1⟩:=hx f (List.mem_cons_self ..)
    have h5:=hrec _ _ _ _ hr hx1
    have h6:=nJ_ (eX_:=eX_) hrec fs (off+k1.length) r hk (fun g hg=>hx g (List.mem_cons_of_mem _ hg)) (by simp at hl;omega)
    rw [h1,h3] at h5
    have:cs.drop off=(cs.drop off).take k1.length++cs.drop (off+k1.length):=by rw [←List.drop_drop,List.take_append_drop]
    rw [this]
    exact h5.append h6
theorem nZ_ {eX_:TypeId→Option TC} {eid:TC→TypeId} (hcode:∀ e t,eX_ e=some t→eid t=e):∀ (d F:Nat) (T:TypeId) (ks:List Kd) (cs:List Value) (x:DataW H × List MemPlace),kds P eX_ d T=some ks→DataW.trod enc P w 0 spare true F T cs=some x→fs_ enc P w spare eid F ks cs
 |0,F,T,ks,cs,x,hk,h=>by cases hk
 |d+1,F,T,ks,cs,x,hk,h=>by
  simp only [kds] at hk
  cases hu:P.underlying T with
  |none=>rw [hu] at hk;cases hk
  |some u=>
   rw [hu] at hk
   cases u<;>simp only at hk<;>(try (cases hk;done))
   case bool=>
    cases hk
    obtain ⟨q,rfl,_⟩:=DataW.trod_bool hu h
    exact ⟨⟨q,rfl⟩,trivial⟩
   case int k=>
    cases hk
    obtain ⟨n,rfl,_,hw⟩:=DataW.trod_int hu h
    exact ⟨⟨n,rfl,hw⟩,trivial⟩
   case string=>
    cases hk
    obtain ⟨s,rfl,_,hs⟩:=DataW.trod_string hu h
    exact ⟨⟨s,rfl,hs⟩,trivial⟩
   case slice e=>
    cases hc:eX_ e with
    |none=>rw [hc] at hk;cases hk
    |some t=>
     rw [hc] at hk
     cases hk
     have he:=hcode e t hc
     rcases DataW.trod_slice hu h with ⟨rfl,_⟩|⟨a,len,cap,elems,iK_,n,hF,rfl,_,_,hl,hm,hlen,hel,_,_⟩
     · exact ⟨.inl rfl,trivial⟩
     · refine ⟨.inr ⟨a,len,cap,n,rfl,hl,hm,by omega,fun i hi => ?_⟩,trivial⟩
       have h1:=hel i hi
       rw [List.getElem?_eq_getElem (by omega)] at h1
       rw [Option.bind_eq_some_iff] at h1
       obtain ⟨cs,k1,k2⟩:=h1
       exact ⟨cs,_,by rw [he];exact k1,by rw [he];exact k2⟩
   case struct fs=>
    obtain ⟨xs,n,hF,_,hcl,hxl,hx⟩:=DataW.trod_struct hu h
    cases hks:kdsL P (kds P eX_ d) fs.toList 0 with
    |none=>rw [hks] at hk;cases hk
    |some ks'=>
     rw [hks] at hk
     obtain ⟨h1,h2⟩:=cj_ hk
     have h1:=c1_.1 h1
     cases h2
     subst hF
     have:=nJ_ (eX_:=eX_) (eid:=eid) (n:=n) (cs:=cs) (fun T ks cs x k1 k2=>nZ_ hcode d n T ks cs x k1 k2) fs.toList 0 ks hks (fun f hf=>by
      obtain ⟨i,hi⟩:=List.getElem?_of_mem hf
      have hi':fs[i]?=some f:=by simpa using hi
      have h3:=hx i f hi'
      have hlt:i<xs.length:=by rw [hxl];exact (Array.getElem?_eq_some_iff.1 hi').1
      rw [List.getElem?_eq_getElem hlt] at h3
      exact ⟨_,h3⟩) (by omega)
     exact (this.mono (Nat.le_succ n))
end
end Go.Pi
end
section
namespace Go.Pi
variable [ai_]
open ai_
variable {H:Type} {enc':TypeId × Value→H} {E:Env} {w:World} {spare:Nat→Bool}
abbrev NoF:Nat→Prop:=fun _=>False
omit [ai_] in
theorem lU_:∀ {ks:List Kd} {l c:List AV},k1_ ks l→sims .v l c→c=l
 |[],[],[],_,_=>rfl
 |k::ks,a::l,b::c,h,hs=>by
  have e:=lU_ h.2 hs.2
  subst e
  have h1:=h.1
  have h2:=hs.1
  cases k<;>obtain ⟨x,rfl⟩:=h1<;>simp only [AV.sim] at h2<;>rw [h2]
 |[],[],_::_,_,h=>h.elim
 |[],_::_,_,h,_=>h.elim
 |_::_,[],_,h,_=>h.elim
 |_::_,_::_,[],_,h=>h.elim
structure mL_ (E:Env) (eX_:TypeId→Option TC) (kinds:TC→List Kd) (d:Nat):Prop where
 codeOk:∀ e t,eX_ e=some t→E.eid t=e
 kdsOk:∀ t,kds E.P eX_ d (E.eid t)=some (kinds t)
 dec:∀ t l,k1_ (kinds t) l→∃ y,dec t l=some y
 cells:∀ t,E.P.cellsOf (E.eid t)=t.width
theorem pt_ [al_] {t:TC} {N:Nat} (hel:∀ cs x,DataW.trod enc' E.P w 0 spare true N (E.eid t) cs=some x→∃ y:El t,RL E w NoF (enc .v t y) cs (fun _=>0)∧∀ c ∈ enc .v t y,Good c) {b o:Nat} (hW:E.P.cellsOf (E.eid t)=t.width) :
  ∀ len,(∀ i,i<len→∃ cs x,w.cells? 0 ((⟨b,o,none⟩:Addr).add (i*E.P.cellsOf (E.eid t))) (E.P.cellsOf (E.eid t))=some cs∧DataW.trod enc' E.P w 0 spare true N (E.eid t) cs=some x) →
  ∃ (xs:List (El t)) (vals:List Value),xs.length=len∧vals.length=len*t.width∧RL E w NoF (aU_ .v t xs) vals (fun _=>0)∧w.rangeAt b o vals∧∀ x ∈ xs,∀ c ∈ enc .v t x,Good c
 |0,_=>⟨[],[],rfl,by simp,RL.nil (fun _=>0) fun _=>rfl,fun j v h=>by simp at h,fun x hx=>by cases hx⟩
 |len+1,h=>by
  obtain ⟨xs,vals,h1,h2,h3,h4,h5⟩:=pt_ hel hW len fun i hi=>h i (by omega)
  obtain ⟨cs,x,k1,k2⟩:=h len (Nat.lt_succ_self _)
  obtain ⟨y,j1,j2⟩:=hel cs x k2
  obtain ⟨_,hl,hc⟩:=World.cells?_some k1
  rw [hW] at hl hc
  refine ⟨xs++[y],vals++cs,by simp [h1],by rw [List.length_append,h2,hl];exact (Nat.succ_mul _ _).symm,?_,fun j v hj => ?_,fun x hx => ?_⟩
  · rw [cz_]
    refine RL.append h3 (φ':=fun _=>0) ?_ (fun b=>rfl)
    simpa [aU_] using j1
  · by_cases hlt:j<vals.length
    · rw [List.getElem?_append_left hlt] at hj
      exact h4 j v hj
    · rw [List.getElem?_append_right (by omega)] at hj
      have hjl:j - vals.length<t.width:=by rw [←hl];exact (List.getElem?_eq_some_iff.1 hj).1
      have:=hc (j - vals.length) hjl
      rw [Addr.add_mid,Addr.add_mid,hj] at this
      rw [←this]
      congr 2
      omega
  · rcases List.mem_append.1 hx with hx|hx
    · exact h5 x hx
    · rw [List.mem_singleton] at hx;subst hx;exact j2
theorem cell_open [al_] {eX_:TypeId→Option TC} {kinds:TC→List Kd} {d:Nat} (hk:mL_ E eX_ kinds d) {F:Nat} (ih:∀ N,N<F→∀ t cs x,DataW.trod enc' E.P w 0 spare true N (E.eid t) cs=some x→∃ y:El t,RL E w NoF (enc .v t y) cs (fun _=>0)∧∀ c ∈ enc .v t y,Good c) {k:Kd} {v:Value} (h:qr_ enc' E.P w spare E.eid F k v) :
  ∃ a,KindOk k a∧RL E w NoF [a] [v] (fun _=>0)∧Good a:=by
 cases k with
 |i k=>obtain ⟨n,rfl,hw⟩:=h;exact ⟨.i k n,⟨n,rfl⟩,.scal _ _ _ _ _ rfl (.nil _ fun _=>rfl),.i _ _ hw⟩
 |b=>obtain ⟨q,rfl⟩:=h;exact ⟨.b q,⟨q,rfl⟩,.scal _ _ _ _ _ rfl (.nil _ fun _=>rfl),.b _⟩
 |s=>
  obtain ⟨s,rfl,hs⟩:=h
  refine ⟨.s s.data.toList,⟨_,rfl⟩,.scal _ _ _ _ _ ?_ (.nil _ fun _=>rfl),.s _ ?_⟩
  · show Value.string s = .string ⟨s.data.toList.toArray⟩
    simp
  · rw [Array.length_toList];exact hs
 |sl t=>
  rcases h with rfl|⟨a,len,cap,N,rfl,hl,hm,hN,hel⟩
  · exact ⟨.sl .v t [],⟨_,rfl⟩,.view t [] none 0 0 [] (fun _=>0) _ _ _ ⟨rfl,Nat.le_refl _⟩ (.nil _ fun _=>rfl) (fun _=>rfl) (fun hp=>by omega) (.nil _ fun _=>rfl),.sl _ _ (Nat.zero_le _) (fun x hx=>by cases hx)⟩
  · cases len with
    |zero=>exact ⟨.sl .v t [],⟨_,rfl⟩,.view t [] (some a) 0 cap [] (fun _=>0) _ _ _ ⟨rfl,hl⟩ (.nil _ fun _=>rfl) (fun _=>rfl) (fun hp=>by omega) (.nil _ fun _=>rfl),.sl _ _ (Nat.zero_le _) (fun x hx=>by cases hx)⟩
    |succ len=>
     have hW:=hk.cells t
     have hpos:0<t.width:=al_.pos t
     obtain ⟨cs0,x0,k1,_⟩:=hel 0 (Nat.succ_pos _)
     obtain ⟨_,hl0,hc0⟩:=World.cells?_some k1
     have hcell:=hc0 0 (by rw [hW];exact hpos)
     rw [List.getElem?_eq_getElem (by rw [hl0,hW];exact hpos)] at hcell
     have ha:a.spot=none:=by
      have h0:(a.add (0*E.P.cellsOf (E.eid t))).add 0=a:=by simp [Addr.add]
      rw [h0] at hcell
      unfold World.cell? at hcell
      split at hcell
      · cases hs:a.spot with
        |none=>rfl
        |some q=>simp [hs] at hcell
      · cases hcell
     obtain ⟨b,o,sp⟩:=a
     simp only at ha
     subst ha
     have hb:b<w.heap.size:=World.cells?_block k1 (by rw [hW];exact hpos) |> fun h=>by simpa [Addr.add] using h
     obtain ⟨xs,vals,e1,e2,e3,e4,e5⟩:=pt_ (ih N hN t) hW (len+1) hel
     refine ⟨.sl .v t xs,⟨_,rfl⟩,?_,.sl _ _ (by omega) e5⟩
     exact .view t xs (some ⟨b,o,none⟩) (len+1) cap vals (fun _=>0) _ _ _ ⟨e1.symm,hl⟩ e3 (fun _=>rfl) (fun _=>⟨b,o,rfl,e4,hb,fun h=>h⟩) (.nil _ fun _=>rfl)
theorem kC_ [al_] {eX_:TypeId→Option TC} {kinds:TC→List Kd} {d:Nat} (hk:mL_ E eX_ kinds d) {F:Nat} (ih:∀ N,N<F→∀ t cs x,DataW.trod enc' E.P w 0 spare true N (E.eid t) cs=some x→∃ y:El t,RL E w NoF (enc .v t y) cs (fun _=>0)∧∀ c ∈ enc .v t y,Good c) :
  ∀ {ks:List Kd} {vs:List Value},fs_ enc' E.P w spare E.eid F ks vs→∃ l,k1_ ks l∧RL E w NoF l vs (fun _=>0)∧∀ c ∈ l,Good c
 |[],[],_=>⟨[],trivial,.nil _ fun _=>rfl,fun c hc=>by cases hc⟩
 |k::ks,v::vs,h=>by
  obtain ⟨a,h1,h2,h3⟩:=cell_open hk ih h.1
  obtain ⟨l,k1,k2,k3⟩:=kC_ hk ih h.2
  refine ⟨a::l,⟨h1,k1⟩,RL.cons h2 k2 (fun b=>rfl),fun c hc => ?_⟩
  rcases List.mem_cons.1 hc with rfl|hc
  · exact h3
  · exact k3 c hc
 |[],_::_,h=>h.elim
 |_::_,[],h=>h.elim
theorem el_open [al_] {eX_:TypeId→Option TC} {kinds:TC→List Kd} {d:Nat} (hk:mL_ E eX_ kinds d):∀ (F:Nat) (t:TC) (cs:List Value) (x:DataW H × List MemPlace),DataW.trod enc' E.P w 0 spare true F (E.eid t) cs=some x →
  ∃ y:El t,RL E w NoF (enc .v t y) cs (fun _=>0)∧∀ c ∈ enc .v t y,Good c:=by
 intro F
 induction F using Nat.strongRecOn with
 |_ F ih=>
  intro t cs x h
  have h1:=nZ_ hk.codeOk d F _ _ _ _ (hk.kdsOk t) h
  obtain ⟨l,h2,h3,h4⟩:=kC_ hk ih h1
  obtain ⟨y,hy⟩:=hk.dec t l h2
  have h5:=al_.dec .v t l y hy
  have h6:=lU_ h2 h5
  exact ⟨y,by rw [h6];exact h3,by rw [h6];exact h4⟩
theorem arg_open [al_] {eX_:TypeId→Option TC} {kinds:TC→List Kd} {d:Nat} (hk:mL_ E eX_ kinds d) {T:TypeId} {ks:List Kd} (hT:kds E.P eX_ d T=some ks) {v:Value} {dd:DataW H} {ps:List MemPlace} (h:DataW.Trod enc' E.P w 0 spare true T v dd ps) :
  ∃ l,k1_ ks l∧RL E w NoF l v.cells.toList (fun _=>0)∧∀ c ∈ l,Good c:=by
 obtain ⟨F,hF⟩:=h
 exact kC_ hk (fun N _=>el_open hk N) (nZ_ hk.codeOk d F T ks _ _ hT hF)
end Go.Pi
end
section
namespace Go.Pi
open Go.RowKit
variable [ai_]
open ai_
omit [ai_] in
theorem dH_ {k:Kd} {ks:List Kd} {l:List AV} (h:k1_ (k::ks) l):∃ a l',l=a::l'∧KindOk k a∧k1_ ks l':=by
 cases l with
 |nil=>exact h.elim
 |cons a l=>exact ⟨a,l,rfl,h.1,h.2⟩
omit [ai_] in
theorem d1_ {l:List AV} (h:k1_ [] l):l=[]:=by
 cases l with
 |nil=>rfl
 |cons a l=>exact h.elim
def codeL (eid:TC→TypeId):List TC→TypeId→Option TC
 |[],_=>none
 |t::ts,e=>cond (Nat.beq (eid t) e) (some t) (codeL eid ts e)
omit [ai_] in
theorem sl_ {eid:TC→TypeId} {e:TypeId} {t:TC}:∀ ts,codeL eid ts e=some t→eid t=e
 |[],h=>by cases h
 |u::ts,h=>by
  simp only [codeL] at h
  cases hb:Nat.beq (eid u) e with
  |true=>rw [hb] at h;cases h;exact c1_.1 hb
  |false=>rw [hb] at h;exact sl_ ts h
theorem law_true [al_] {E:Env} {f:FuncId} {avs:List AV} {outs:List AV} {ps:List PS} (h:eu_ E f avs (.b true) outs ps) {w:World} (hgl:Glob E w NoF) {Vs:List Value} (hr:RL E w NoF avs Vs (fun _=>0)) :
  Calls E.P f Vs.toArray w fun e W'=>e = .returned (.bool true)∧Below w.heap.size w W':=by
 refine (h w NoF Vs _ hr (fun _=>Nat.zero_le _) (fun b hb=>hb.elim) hgl).mono fun e W' ⟨V,φ',he,h1,_,_,e1,e2,e3,e4,e5⟩=>⟨?_,e1,e2,e3,e4,fun k hk=>e5 k hk rfl⟩
 cases h1 with
 |scal a v l vs φ hs _=>rw [he,show V = .bool true from hs]
theorem ag_open {E:Env} {w:World} {l:List AV} {cs:Array Value} (h:RL E w NoF l (Value.agg cs).cells.toList (fun _=>0)) {l':List AV} {vs:List Value} (h':RL E w NoF l' vs (fun _=>0)) :
  RL E w NoF (.ag l::l') (.agg cs::vs) (fun _=>0):=by
 have:=RL.ag (E:=E) (w:=w) (F:=NoF) l cs.toList (fun _=>0) l' vs (fun _=>0) (fun _=>0) h h' (fun b=>rfl)
 simpa using this
end Go.Pi
end
section
namespace Go.Pi
open Go.Proofs Go.Proofs.YtmgcfhlcdhlafaaGreatDoor
open Go.ChangeShapes Go.WideShapes Go.ChangeAt Go.RowKit
def eX_:TypeId→Option TC:=codeL eid [.u8,.str,.int,.iJson,.iOp,.iRow,.s_iRow,.iCond,.iKid,.iMut,.iChange]
def kinds:TC→List Kd
 |.u8=>[.i .u8]
 |.str=>[.s]
 |.int=>[.i .i64]
 |.iJson=>[.i .i64,.i .i64,.s,.sl .iJson,.sl .str]
 |.iOp=>[.i .i64,.sl .str,.i .i64,.i .i64,.s,.sl .iJson,.sl .str]
 |.iRow=>[.i .i64,.sl .int]
 |.s_iRow=>[.sl .iRow]
 |.iCond=>[.i .i64,.i .i64,.i .i64]
 |.iKid=>[.i .i64,.i .i64]
 |.iMut=>[.i .i64,.i .i64,.i .i64,.sl .int]
 |.iChange=>[.i .i64,.b,.b,.i .i64,.sl .int,.i .i64,.sl .int]
theorem kindsOk:mL_ E eX_ kinds 12 where
 codeOk:=fun e t h=>sl_ _ h
 kdsOk:=by intro t;cases t<;>kernel_rfl
 cells:=by intro t;cases t<;>kernel_rfl
 dec:=by
  intro t l h
  cases t with
  |u8=>
   iterate 1 (replace h:=dH_ h;obtain ⟨_,_,rfl,⟨_,rfl⟩,h⟩:=h)
   replace h:=d1_ h;subst h;exact ⟨_,rfl⟩
  |str=>
   iterate 1 (replace h:=dH_ h;obtain ⟨_,_,rfl,⟨_,rfl⟩,h⟩:=h)
   replace h:=d1_ h;subst h;exact ⟨_,rfl⟩
  |int=>
   iterate 1 (replace h:=dH_ h;obtain ⟨_,_,rfl,⟨_,rfl⟩,h⟩:=h)
   replace h:=d1_ h;subst h;exact ⟨_,rfl⟩
  |iJson=>
   iterate 5 (replace h:=dH_ h;obtain ⟨_,_,rfl,⟨_,rfl⟩,h⟩:=h)
   replace h:=d1_ h;subst h;exact ⟨_,rfl⟩
  |iOp=>
   iterate 7 (replace h:=dH_ h;obtain ⟨_,_,rfl,⟨_,rfl⟩,h⟩:=h)
   replace h:=d1_ h;subst h;exact ⟨_,rfl⟩
  |iRow=>
   iterate 2 (replace h:=dH_ h;obtain ⟨_,_,rfl,⟨_,rfl⟩,h⟩:=h)
   replace h:=d1_ h;subst h;exact ⟨_,rfl⟩
  |s_iRow=>
   iterate 1 (replace h:=dH_ h;obtain ⟨_,_,rfl,⟨_,rfl⟩,h⟩:=h)
   replace h:=d1_ h;subst h;exact ⟨_,rfl⟩
  |iCond=>
   iterate 3 (replace h:=dH_ h;obtain ⟨_,_,rfl,⟨_,rfl⟩,h⟩:=h)
   replace h:=d1_ h;subst h;exact ⟨_,rfl⟩
  |iKid=>
   iterate 2 (replace h:=dH_ h;obtain ⟨_,_,rfl,⟨_,rfl⟩,h⟩:=h)
   replace h:=d1_ h;subst h;exact ⟨_,rfl⟩
  |iMut=>
   iterate 4 (replace h:=dH_ h;obtain ⟨_,_,rfl,⟨_,rfl⟩,h⟩:=h)
   replace h:=d1_ h;subst h;exact ⟨_,rfl⟩
  |iChange=>
   iterate 7 (replace h:=dH_ h;obtain ⟨_,_,rfl,⟨_,rfl⟩,h⟩:=h)
   replace h:=d1_ h;subst h;exact ⟨_,rfl⟩
namespace laws_FnEvents
theorem own:ownKnob Tryz.prog.godebug=none:=by kernel_rfl
theorem laidOut:laidOutB Tryz.prog=true:=by kernel_rfl
def sF_:DataW Unit→ByteArray
 |.iface _ (.ptr (.agg [.lit (.string l)]))=>⟨l.toArray⟩
 |_=>ByteArray.empty
def tab1:DataW Unit→List Value
 |.lit (.int k n)=>[Value.int k n]
 |_=>[]
def tab2:DataW Unit→List Value
 |.agg l=>l.flatMap tab1
 |d=>tab1 d
def fM_:DataW Unit→Array Value
 |.agg l=>(l.flatMap tab2).toArray
 |_ => #[]
def Pure:Prop:=∀ (o:List Int),(∀ c ∈ ([.sl .v .u8 o]:List AV),Good c)→∃ n,Go.Pi.laws_FnEvents n o=some true
noncomputable def low:Nat:=(World.holding Tryz.prog default ⟨#[],#[],[]⟩).heap.size
noncomputable def pK_ (os:Os):World :=
 let w0:=World.holding Tryz.prog os ⟨#[.cells #[.string (sF_ Rows.laid_strconv_ErrRange)] 303,.cells #[.string (sF_ Rows.laid_strconv_ErrSyntax)] 303],#[],[]⟩
 let put:=fun (h:Array Obj) (g:Nat) (cs:Array Value)=>h.modify g fun
  |.cells _ t frozen=>.cells cs t frozen
  |o=>o
 { w0 with heap:=put (put (put (put (put (put (put (w0.heap) 4 (fM_ Rows.laid_math_bits_deBruijn32tab)) 5 (fM_ Rows.laid_math_bits_deBruijn64tab)) 3 (fM_ Rows.laid_internal_strconv_uint64pow10)) 7 (fM_ Rows.laid_unicode_utf8_acceptRanges)) 2 (#[.iface 301 (.pointer (some ⟨low+0,0,none⟩))])) 1 (#[.iface 301 (.pointer (some ⟨low+1,0,none⟩))])) 6 (fM_ Rows.laid_unicode_utf8_first) }
theorem ow_ (os:Os) (args:Array Value):laidMet Tryz.prog Rows.fnEventsRow.laid ((pK_ os).forCall (fun _ _=>0) ⟨#[],args,[]⟩).memory :=
 laidMet_of_run' 8 (by kernel_rfl) (by kernel_rfl)
theorem lifted (hp:Pure) (os:Os) (started:os.Started) (H:Type) (enc:TypeId × Value→H) :
  ReturnsInHanded {} Tryz.checked os 4 .any (fun w args=>(Rows.fnEventsSpec.pre enc Tryz.prog Tryz.f4 Rows.fnEventsRow.domain false w args∧laidMet Tryz.prog Rows.fnEventsRow.laid w)∧sizedMet enc Tryz.prog Tryz.f4 (OpenSpec.ofChange Rows.fnEventsSpec) false w args) (Rows.fnEventsSpec.post enc Tryz.prog Tryz.f4 false true false false):=by
 refine returnsInHanded_of_calls own started (by kernel_rfl) (ChangeSpec.witness_at (enc:=enc) (C:=Tryz.checked) (os:=os) (X:=fun w _=>laidMet Tryz.prog Rows.fnEventsRow.laid w) false (pK_ os) #[.slice none 0 0] 8 rfl (by kernel_rfl) (by kernel_rfl) (by kernel_rfl) (by kernel_rfl) (by kernel_rfl) (ow_ os _)) ?_
 intro w0 tape inp _ hsh _ hok hpre _
 obtain ⟨_,_,_,fn',hfn',_,_,_,_,hval0⟩:=hok
 obtain rfl:fn'=Tryz.f4:=Option.some.inj (hfn'.symm.trans Tryz.func4)
 obtain ⟨⟨⟨ds,gs,before,hw0,hcnd⟩,hL0⟩,hz⟩:=hpre
 have hW:=DataW.Whole.of_heap (w':=w0.forCall tape inp) (by rfl) hw0
 have hL:laidMet Tryz.prog Rows.fnEventsRow.laid (w0.forCall tape inp):=hL0.of_heap (by rfl)
 clear hw0 hL0 hz hfn' hcnd
 generalize w0.forCall tape inp=W at hsh hval0 hW hL ⊢
 generalize inp.args=args at hval0 hW ⊢
 generalize w0.heap.size=base at hval0
 suffices hgo:Calls Tryz.prog 4 args W fun e W'=>∃ v,e = .returned v∧Rows.fnEventsSpec.post enc Tryz.prog Tryz.f4 false true false false W args v W' from hgo.mono fun e W' ⟨v,he,hp⟩=>by subst he;exact ChangeSpec.post_blind hp
 have hval:∀ (j:Nat) t v,Tryz.f4.params[j]?=some t→args[j]?=some v→Value.okWide Tryz.prog W .any base t v:=hval0
 have hW':=hW
 obtain ⟨p,q,hA0,hV,rfl,hfz,hnd⟩:=hW
 have hA:DataW.TrodAll enc Tryz.prog W 0 (fun _=>true) true Tryz.f4.params.toList args.toList ds p:=hA0
 rw [Tryz.params4] at hA hval
 obtain ⟨v0,vs0,d0,ds0,p0,q0,hargs,rfl,rfl,h0,r0⟩:=trodAll_cons hA
 obtain ⟨rfl,rfl,rfl⟩:=trodAll_nil r0
 obtain rfl:args = #[v0]:=by cases args;simp_all
 obtain ⟨rfl,rfl⟩:=trodVars_none hV
 obtain ⟨c0,len0,cap0,rfl⟩:=okWide_slice Tryz.underlying22 (hval 0 22 v0 rfl rfl)
 have lt0:∀ x ∈ p0,x.block<W.heap.size:=by obtain ⟨m,hm⟩:=h0;exact DataW.trod_lt m _ _ _ hm
 obtain ⟨l0,k0,e0,g0⟩:=arg_open kindsOk (T:=22) (ks:=[.sl .u8]) (by kernel_rfl) h0
 replace k0:=dH_ k0;obtain ⟨_,_,rfl,⟨z0,rfl⟩,k0⟩:=k0
 replace k0:=d1_ k0;subst k0
 have hT:Lib.TabIs Tryz.prog W "internal/strconv.uint64pow10" .u64 Lib.pow10Tab:=Lib.tabIs_of_head (t:=292) (e:=267) (n:=20) mr_ (by kernel_rfl) (by kernel_rfl) (by kernel_rfl) (by kernel_rfl) (by kernel_rfl) (show laidMet Tryz.prog ((_,Lib.tabData .u64 Lib.pow10Tab)::_) W from hL.tail.tail)
 obtain ⟨mx,hmx⟩:=cell_of_shapedOpen_int (g:=0) (t:=3) (k:=.i64) (zero:=#[.int .i64 0]) hsh (by decide +kernel) (by kernel_rfl) rfl (by kernel_rfl) (by kernel_rfl) (by kernel_rfl)
 have hgl:Glob E W NoF:=fun p hp=>by
  rcases List.mem_cons.1 hp with rfl|hp
  · obtain ⟨T,fr,h⟩:=tab_glob hT mr_;exact ⟨⟨_,T,fr,h,rfl⟩,fun h=>h.elim⟩
  rcases List.mem_cons.1 hp with rfl|hp
  · exact ⟨int_glob hmx,fun h=>h.elim⟩
  rcases List.mem_cons.1 hp with rfl|hp
  · exact ⟨sd_ (d:=.ptr (.agg [.lit (.string (sF_ Rows.laid_strconv_ErrSyntax).data.toList)])) (show laidMet Tryz.prog (("strconv.ErrSyntax", .iface "*errors.errorString" (.ptr (.agg [.lit (.string (sF_ Rows.laid_strconv_ErrSyntax).data.toList)])))::_) W from hL.tail.tail.tail.tail.tail) (by kernel_rfl) (by kernel_rfl),fun h=>h.elim⟩
  rcases List.mem_singleton.1 hp with rfl
  exact ⟨sd_ (d:=.ptr (.agg [.lit (.string (sF_ Rows.laid_strconv_ErrRange).data.toList)])) (show laidMet Tryz.prog (("strconv.ErrRange", .iface "*errors.errorString" (.ptr (.agg [.lit (.string (sF_ Rows.laid_strconv_ErrRange).data.toList)])))::_) W from hL.tail.tail.tail.tail) (by kernel_rfl) (by kernel_rfl),fun h=>h.elim⟩
 obtain ⟨n,hn⟩:=hp z0 g0
 refine (law_true ((AllE.get (e:=laws_FnEvents.e) 0 (allOk n) (by kernel_rfl)) (z0,()) _ hn) hgl (RL.cons e0 (.nil _ fun _=>rfl) (fun b=>rfl))).mono fun e W' ⟨he,bel⟩ => ?_
 subst he
 exact ⟨_,rfl,_,_,_,[],_,[],hW',trodAll_mk1 (shut_bool Tryz.underlying4 _),(trodAll_cons_mk (Below.trod laidOut (by kernel_rfl) (of_decide_eq_true (by kernel_rfl)) h0 bel lt0) trodAll_mk0),rfl,bel.frame _,fun h=>by cases h⟩
theorem jf0:(Rows.fnEventsRow.wf (OpenSpec.ofChange Rows.fnEventsSpec))=true:=by kernel_rfl
theorem jf1:(laidOutB Tryz.prog)=true:=by kernel_rfl
theorem jf2:(mapsRowed Tryz.prog)=true:=by kernel_rfl
theorem jf3:(Tryz.f4.params.all (Tryz.prog.readableRec ·))=true:=by kernel_rfl
theorem jf4:(namedTie Tryz.prog Rows.fnEventsRow.named Rows.fnEventsSpec.vars)=true:=by kernel_rfl
theorem jf5:((Rows.fnEventsRow.stops == []))=true:=by kernel_rfl
theorem jf6:((Tryz.prog.stops == []))=true:=by kernel_rfl
theorem jf7:((Rows.fnEventsRow.knobs == []))=true:=by kernel_rfl
theorem jf8:((Tryz.prog.stopKnobs == []))=true:=by kernel_rfl
theorem jf9:((Rows.fnEventsRow.inPlace == Tryz.prog.inPlace 4))=true:=by kernel_rfl
theorem jf10:((Rows.fnEventsRow.unfollowed == Tryz.prog.unfollowed 4))=true:=by kernel_rfl
theorem jf11:((Rows.fnEventsRow.recurses == Tryz.prog.recurses 4))=true:=by kernel_rfl
theorem jf12:((Rows.fnEventsRow.named == Tryz.prog.varsNamed 4))=true:=by kernel_rfl
theorem jf13:((Rows.fnEventsRow.maps == (Tryz.f4.params.toList++Rows.fnEventsSpec.plain.varTypes Tryz.prog).any (Tryz.prog.mapsRec ·)))=true:=by kernel_rfl
theorem jf14:((Rows.fnEventsRow.ifaces == (Tryz.f4.params.toList++Rows.fnEventsSpec.plain.varTypes Tryz.prog).any (Tryz.prog.ifacesRec ·)))=true:=by kernel_rfl
theorem jf15:((Rows.fnEventsRow.mapsOut == Tryz.prog.mapsAmong Tryz.f4.resultTypes.toList))=true:=by kernel_rfl
theorem jf16:((Rows.fnEventsRow.loops == (Tryz.f4.params.toList++Rows.fnEventsSpec.plain.varTypes Tryz.prog).any (Tryz.prog.loopsFrom ·)))=true:=by kernel_rfl
theorem jf17:((Rows.fnEventsRow.wideKeys == (Tryz.f4.params.toList++Rows.fnEventsSpec.plain.varTypes Tryz.prog++Tryz.f4.resultTypes.toList).any (Tryz.prog.wideKeysFrom ·)))=true:=by kernel_rfl
theorem jf18:(Rows.fnEventsSpec.vars.all (Tryz.prog.varReadable ·))=true:=by kernel_rfl
theorem jf19:(Tryz.f4.resultTypes.all (fun t=>Tryz.prog.readableRec t&&decide (t<Tryz.prog.types.size)))=true:=by kernel_rfl
theorem jf20:((Rows.fnEventsRow.ifacesOut == Tryz.f4.resultTypes.toList.any (Tryz.prog.ifacesRec ·)))=true:=by kernel_rfl
theorem jf21:((Rows.fnEventsRow.loopsOut == Tryz.f4.resultTypes.toList.any (Tryz.prog.loopsFrom ·)))=true:=by kernel_rfl
theorem jf22:((Rows.fnEventsRow.plainKeys == Tryz.prog.plainKeys))=true:=by kernel_rfl
theorem jf23:(Rows.fnEventsRow.shortTexts.isNone)=true:=by kernel_rfl
theorem jf24:(Tryz.prog.stopsHeard)=true:=by kernel_rfl
theorem jf25:(Tryz.prog.mayEnter)=true:=by kernel_rfl
theorem jf26:((Rows.fnEventsRow.lifted == Tryz.prog.liftsFinal))=true:=by kernel_rfl
theorem jf27:((Tryz.prog.make == some Rows.fnEventsRow.make))=true:=by kernel_rfl
theorem jf28:((Rows.fnEventsRow.kinds == (if Rows.fnEventsRow.domain.isEmpty then [] else Tryz.f4.params.toList.map fun t=>match Tryz.prog.underlying t with|some (.int k)=>some k|_=>none)))=true:=by kernel_rfl
theorem jf29:((Rows.fnEventsRow.pinned == Rows.fnEventsRow.pinnedBy))=true:=by kernel_rfl
theorem jf30:((Rows.fnEventsRow.veiled == (Tryz.f4.params.toList++Rows.fnEventsSpec.plain.varTypes Tryz.prog++Tryz.f4.resultTypes.toList).any (Tryz.prog.veiledRec ·)))=true:=by kernel_rfl
theorem jf31:(Rows.fnEventsRow.veiledFits Tryz.prog Tryz.f4.params.toList (Tryz.f4.params.toList++Rows.fnEventsSpec.plain.varTypes Tryz.prog++Tryz.f4.resultTypes.toList))=true:=by kernel_rfl
theorem jh_ {a b:Bool} (h:a=true) (k:b=true):(a&&b)=true:=by rw [h,k];rfl
theorem facts:joinedFacts Tryz.pinned.checked.prog 4 Tryz.f4 Rows.fnEventsSpec Rows.fnEventsRow=true:=(jh_ (jh_ (jh_ (jh_ (jh_ (jh_ (jh_ (jh_ (jh_ (jh_ (jh_ (jh_ (jh_ (jh_ (jh_ (jh_ (jh_ (jh_ (jh_ (jh_ (jh_ (jh_ (jh_ (jh_ (jh_ (jh_ (jh_ (jh_ (jh_ (jh_ (jh_ jf0 jf1) jf2) jf3) jf4) jf5) jf6) jf7) jf8) jf9) jf10) jf11) jf12) jf13) jf14) jf15) jf16) jf17) jf18) jf19) jf20) jf21) jf22) jf23) jf24) jf25) jf26) jf27) jf28) jf29) jf30) jf31)
theorem over (hp:Pure):Rows.fnEventsRow.holds Tryz.pinned (OpenSpec.ofChange Rows.fnEventsSpec) :=
 OpenClaim.holds_of_wide 4 Tryz.f4 rfl rfl rfl rfl rfl rfl rfl ⟨rfl,rfl,rfl,rfl,rfl⟩ rfl rfl rfl rfl rfl (by kernel_rfl) Tryz.func4 facts
  (of_decide_eq_true (by kernel_rfl)) (by unfold Func.isWrapper;first|(rw [if_pos (by decide +kernel)];kernel_rfl)|(rw [if_neg (by decide +kernel)];exact ⟨rfl,rfl⟩))
  (fun os started H enc _=>lifted hp os started H enc)
end laws_FnEvents
theorem laws_FnEvents.card (hp:laws_FnEvents.Pure):Rows.FnEventsCardSaid :=
 Claim7.holds_tied_plain_at .later [] [.data,.data,.data,.data,.sentinel,.sentinel,.pinned] true (true, "731b7772da27f61403887da7ecfe18ed66ccaf2196a907d38826c3c3cd6f3b07") true
  (laws_FnEvents.over hp) (fun _ h=>by cases h) (by kernel_rfl) (fun _ h=>by cases h) fnEvents_row_tie rfl ⟨rfl,rfl⟩ (by kernel_rfl) rfl
  (fun f fn hf hfn=>by
    obtain rfl:f=4:=Option.some.inj ((show Tryz.prog.funcNamed "loop.example/g00198/laws.FnEvents" = some 4 by kernel_rfl).symm.trans hf) |>.symm
    obtain rfl:fn=Tryz.f4:=(Option.some.inj (Tryz.func4.symm.trans hfn)).symm
    exact ⟨by kernel_rfl,fun j t ht=>by
     rw [Tryz.params4] at ht
     have hm:t ∈ ([22]:List TypeId):=List.mem_of_getElem? (show ([22]:List TypeId)[j]?=some t by simpa using ht)
     have:=List.all_eq_true.1 (show ([22]:List TypeId).all (fun t => !Tryz.prog.wantsStandIn t)=true by kernel_rfl) t hm
     exact (by simpa using this:Tryz.prog.wantsStandIn t=false)⟩)
  (by kernel_rfl)
end Go.Pi
end
section
namespace Go.Pi
section
variable {α β:Type}
def Ev (f:Nat→Nat→Option α) (v:α):Prop:=∃ M,∀ n N,M≤n→M≤N→f n N=some v
theorem ae_ {v w:α}:Ev (fun _ _=>some v) w↔v=w :=
 ⟨fun ⟨M,h⟩=>Option.some.inj (h M M (Nat.le_refl _) (Nat.le_refl _)),fun h=>⟨0,fun _ _ _ _=>by rw [h]⟩⟩
theorem dB_ {f:Nat→Nat→Option α} {v w:α} (h:Ev f v):Ev f w↔v=w:=by
 constructor
 · rintro ⟨M',h'⟩
   obtain ⟨M,h⟩:=h
   have a:=h (max M M') (max M M') (by omega) (by omega)
   have b:=h' (max M M') (max M M') (by omega) (by omega)
   rw [a] at b
   exact Option.some.inj b
 · rintro rfl;exact h
theorem ab_ {f:Nat→Nat→Option α} {a:α} (h:Ev f a) {g:Nat→Nat→α→Option β} {v:β}:Ev (fun n N=>(f n N).bind (g n N)) v↔Ev (fun n N=>g n N a) v:=by
 obtain ⟨M,h⟩:=h
 constructor
 · rintro ⟨M',h'⟩
   refine ⟨max M M',fun n N h1 h2 => ?_⟩
   have:=h' n N (by omega) (by omega)
   simp only [h n N (by omega) (by omega),Option.bind_some] at this
   exact this
 · rintro ⟨M',h'⟩
   refine ⟨max M M',fun n N h1 h2 => ?_⟩
   simp only [h n N (by omega) (by omega),Option.bind_some]
   exact h' n N (by omega) (by omega)
theorem dA_ {v:α}:Ev (fun _ _=>none) v↔False:=by
 simp only [iff_false]
 rintro ⟨M,h⟩
 cases h M M (Nat.le_refl _) (Nat.le_refl _)
theorem am_ {c:Bool} {f g:Nat→Nat→Option α} {v:α}:Ev (fun n N=>cond c (f n N) (g n N)) v↔(c=true→Ev f v)∧(c=false→Ev g v):=by
 cases c<;>simp
theorem bb_ {i:Int} {len:Nat} {f:Nat→Nat→Option α} {v:α}:Ev (fun n N=>inB i len (f n N)) v↔(0≤i∧i<(len:Int))∧Ev f v:=by
 unfold inB
 rw [am_,am_]
 by_cases h1:0≤i<;>by_cases h2:i<(len:Int)<;>simp [h1,h2,dA_]
theorem ap_ {f:Nat→Nat→Option α} {v:α} (h:Ev (fun n N=>f (n+1) N) v):Ev f v:=by
 obtain ⟨M,h⟩:=h
 refine ⟨M+1,fun n N h1 h2 => ?_⟩
 obtain ⟨m,rfl⟩:∃ m,n=m+1:=⟨n - 1,by omega⟩
 exact h m N (by omega) (by omega)
theorem dg_ {f:Nat→Nat→Option α} {v:α} (h:Ev f v):Ev (fun n _=>f n n) v:=by
 obtain ⟨M,h⟩:=h
 exact ⟨M,fun n N h1 h2=>h n n h1 h1⟩
theorem bF_ {f:Nat→Nat→Option α} {v:α} (h:Ev (fun n N=>f n (N+1)) v):Ev f v:=by
 obtain ⟨M,h⟩:=h
 refine ⟨M+1,fun n N h1 h2 => ?_⟩
 obtain ⟨m,rfl⟩:∃ m,N=m+1:=⟨N - 1,by omega⟩
 exact h n m (by omega) (by omega)
theorem ev_ex {f:Nat→Option α} {v:α} (h:Ev (fun n _=>f n) v):∃ n,f n=some v:=by
 obtain ⟨M,h⟩:=h
 exact ⟨M,h M M (Nat.le_refl _) (Nat.le_refl _)⟩
end
abbrev b6_:Nat:=9223372036854775807
theorem W_id {n:Int} (h : -9223372036854775808≤n) (h':n<9223372036854775808):W n=n:=by
 show IntKind.i64.wrap n=n
 rw [IntKind.wrap_i64];omega
theorem W_up {i:Nat} {len:Nat} (h:i<len) (hl:len≤b6_):W ((i:Int)+1)=((i+1:Nat):Int):=by
 rw [W_id (by omega) (by simp only [b6_] at hl;omega)];omega
theorem es_ {α:Type} (d:α) {a:List α} {i:Nat} (h:i<a.length):a.drop i=a.getD i d::a.drop (i+1):=by
 rw [List.drop_eq_getElem_cons h,List.getD_eq_getElem?_getD,List.getElem?_eq_getElem h];rfl
theorem sg_ {α:Type} {a:List α} {i:Nat} (h:a.length≤i):a.drop i=[]:=List.drop_eq_nil_of_le h
theorem bX_ {α:Type} (d:α) {a:List α} {i:Nat} (h:i<a.length):a.getD i d ∈ a:=by
 rw [List.getD_eq_getElem?_getD,List.getElem?_eq_getElem h];exact List.getElem_mem h
end Go.Pi
end
section
namespace Go.Pi
theorem cb_.turn4 {n N k}:cb_.loop4 n k (N+1)=cb_.step4 n k (cb_.loop4 n k N):=rfl
theorem cx_.turn3 {n N k}:cx_.loop3 n k (N+1)=cx_.step3 n k (cx_.loop3 n k N):=rfl
theorem bL_.turn5 {n N k}:bL_.loop5 n k (N+1)=bL_.step5 n k (bL_.loop5 n k N):=rfl
theorem ac_.turn20 {n N k0 k1}:ac_.loop20 n k0 k1 (N+1)=ac_.step20 n k0 k1 (ac_.loop20 n k0 k1 N):=rfl
theorem ac_.turn28 {n N k0 k1}:ac_.loop28 n k0 k1 (N+1)=ac_.step28 n k0 k1 (ac_.loop28 n k0 k1 N):=rfl
theorem aL_.turn4 {n N k}:aL_.loop4 n k (N+1)=aL_.step4 n k (aL_.loop4 n k N):=rfl
theorem a1_.turn3 {n N k}:a1_.loop3 n k (N+1)=a1_.step3 n k (a1_.loop3 n k N):=rfl
theorem a6_.turn4 {n N k}:a6_.loop4 n k (N+1)=a6_.step4 n k (a6_.loop4 n k N):=rfl
theorem cd_.turn3 {n N k}:cd_.loop3 n k (N+1)=cd_.step3 n k (cd_.loop3 n k N):=rfl
theorem bh_.turn5 {n N k}:bh_.loop5 n k (N+1)=bh_.step5 n k (bh_.loop5 n k N):=rfl
theorem bG_.turn6 {n N k}:bG_.loop6 n k (N+1)=bG_.step6 n k (bG_.loop6 n k N):=rfl
theorem a0_.turn4 {n N k}:a0_.loop4 n k (N+1)=a0_.step4 n k (a0_.loop4 n k N):=rfl
theorem aP_.turn4 {n N k}:aP_.loop4 n k (N+1)=aP_.step4 n k (aP_.loop4 n k N):=rfl
theorem ak_.turn7 {n N k}:ak_.loop7 n k (N+1)=ak_.step7 n k (ak_.loop7 n k N):=rfl
theorem ak_.turn16 {n N k}:ak_.loop16 n k (N+1)=ak_.step16 n k (ak_.loop16 n k N):=rfl
theorem ch_.turn6 {n N k}:ch_.loop6 n k (N+1)=ch_.step6 n k (ch_.loop6 n k N):=rfl
theorem b1_.turn3 {n N k}:b1_.loop3 n k (N+1)=b1_.step3 n k (b1_.loop3 n k N):=rfl
theorem bA_.turn6 {n N k}:bA_.loop6 n k (N+1)=bA_.step6 n k (bA_.loop6 n k N):=rfl
theorem aA_.turn7 {n N k}:aA_.loop7 n k (N+1)=aA_.step7 n k (aA_.loop7 n k N):=rfl
theorem aA_.turn16 {n N k}:aA_.loop16 n k (N+1)=aA_.step16 n k (aA_.loop16 n k N):=rfl
theorem bQ_.turn3 {n N k}:bQ_.loop3 n k (N+1)=bQ_.step3 n k (bQ_.loop3 n k N):=rfl
theorem bU_.turn5 {n N k}:bU_.loop5 n k (N+1)=bU_.step5 n k (bU_.loop5 n k N):=rfl
theorem bK_.turn8 {n N k}:bK_.loop8 n k (N+1)=bK_.step8 n k (bK_.loop8 n k N):=rfl
theorem aQ_.turn5 {n N k}:aQ_.loop5 n k (N+1)=aQ_.step5 n k (aQ_.loop5 n k N):=rfl
theorem b0_.turn8 {n N k}:b0_.loop8 n k (N+1)=b0_.step8 n k (b0_.loop8 n k N):=rfl
theorem bV_.turn4 {n N k}:bV_.loop4 n k (N+1)=bV_.step4 n k (bV_.loop4 n k N):=rfl
theorem b5_.turn3 {n N k}:b5_.loop3 n k (N+1)=b5_.step3 n k (b5_.loop3 n k N):=rfl
theorem a9_.turn4 {n N k}:a9_.loop4 n k (N+1)=a9_.step4 n k (a9_.loop4 n k N):=rfl
theorem aK_.turn7 {n N k}:aK_.loop7 n k (N+1)=aK_.step7 n k (aK_.loop7 n k N):=rfl
theorem bO_.turn4 {n N k}:bO_.loop4 n k (N+1)=bO_.step4 n k (bO_.loop4 n k N):=rfl
theorem b2_.turn3 {n N k}:b2_.loop3 n k (N+1)=b2_.step3 n k (b2_.loop3 n k N):=rfl
theorem ag_.turn6 {n N k}:ag_.loop6 n k (N+1)=ag_.step6 n k (ag_.loop6 n k N):=rfl
theorem aR_.turn23 {n N k0 k1}:aR_.loop23 n k0 k1 (N+1)=aR_.step23 n k0 k1 (aR_.loop23 n k0 k1 N):=rfl
theorem ce_.turn4 {n N k}:ce_.loop4 n k (N+1)=ce_.step4 n k (ce_.loop4 n k N):=rfl
theorem aq_.turn6 {n N k0 k1}:aq_.loop6 n k0 k1 (N+1)=aq_.step6 n k0 k1 (aq_.loop6 n k0 k1 N):=rfl
theorem aq_.turn14 {n N k0 k1}:aq_.loop14 n k0 k1 (N+1)=aq_.step14 n k0 k1 (aq_.loop14 n k0 k1 N):=rfl
theorem bJ_.turn3 {n N k}:bJ_.loop3 n k (N+1)=bJ_.step3 n k (bJ_.loop3 n k N):=rfl
theorem bZ_.turn3 {n N k}:bZ_.loop3 n k (N+1)=bZ_.step3 n k (bZ_.loop3 n k N):=rfl
theorem bp_.turn5 {n N k}:bp_.loop5 n k (N+1)=bp_.step5 n k (bp_.loop5 n k N):=rfl
theorem cv_.turn3 {n N k}:cv_.loop3 n k (N+1)=cv_.step3 n k (cv_.loop3 n k N):=rfl
theorem aJ_.turn3 {n N k}:aJ_.loop3 n k (N+1)=aJ_.step3 n k (aJ_.loop3 n k N):=rfl
theorem aJ_.turn11 {n N k}:aJ_.loop11 n k (N+1)=aJ_.step11 n k (aJ_.loop11 n k N):=rfl
theorem bc_.turn4 {n N k0 k1}:bc_.loop4 n k0 k1 (N+1)=bc_.step4 n k0 k1 (bc_.loop4 n k0 k1 N):=rfl
theorem aH_.turn5 {n N k}:aH_.loop5 n k (N+1)=aH_.step5 n k (aH_.loop5 n k N):=rfl
theorem aH_.turn13 {n N k}:aH_.loop13 n k (N+1)=aH_.step13 n k (aH_.loop13 n k N):=rfl
theorem cc_.turn4 {n N k}:cc_.loop4 n k (N+1)=cc_.step4 n k (cc_.loop4 n k N):=rfl
theorem cr_.turn6 {n N k}:cr_.loop6 n k (N+1)=cr_.step6 n k (cr_.loop6 n k N):=rfl
theorem aE_.turn10 {n N k}:aE_.loop10 n k (N+1)=aE_.step10 n k (aE_.loop10 n k N):=rfl
theorem aE_.turn4 {n N k}:aE_.loop4 n k (N+1)=aE_.step4 n k (aE_.loop4 n k N):=rfl
theorem bt_.turn4 {n N k}:bt_.loop4 n k (N+1)=bt_.step4 n k (bt_.loop4 n k N):=rfl
theorem aO_.turn17 {n N k0 k1}:aO_.loop17 n k0 k1 (N+1)=aO_.step17 n k0 k1 (aO_.loop17 n k0 k1 N):=rfl
theorem a5_.turn4 {n N k}:a5_.loop4 n k (N+1)=a5_.step4 n k (a5_.loop4 n k N):=rfl
theorem bv_.turn4 {n N k}:bv_.loop4 n k (N+1)=bv_.step4 n k (bv_.loop4 n k N):=rfl
theorem aC_.turn5 {n N k}:aC_.loop5 n k (N+1)=aC_.step5 n k (aC_.loop5 n k N):=rfl
theorem bC_.turn12 {n N k}:bC_.loop12 n k (N+1)=bC_.step12 n k (bC_.loop12 n k N):=rfl
theorem aT_.turn4 {n N k}:aT_.loop4 n k (N+1)=aT_.step4 n k (aT_.loop4 n k N):=rfl
theorem as_.turn5 {n N k}:as_.loop5 n k (N+1)=as_.step5 n k (as_.loop5 n k N):=rfl
theorem bz_.turn10 {n N k}:bz_.loop10 n k (N+1)=bz_.step10 n k (bz_.loop10 n k N):=rfl
theorem bl_.turn4 {n N k}:bl_.loop4 n k (N+1)=bl_.step4 n k (bl_.loop4 n k N):=rfl
theorem bB_.turn7 {n N k}:bB_.loop7 n k (N+1)=bB_.step7 n k (bB_.loop7 n k N):=rfl
theorem cM_.turn6 {n N k}:cM_.loop6 n k (N+1)=cM_.step6 n k (cM_.loop6 n k N):=rfl
theorem az_.turn3 {n N k}:az_.loop3 n k (N+1)=az_.step3 n k (az_.loop3 n k N):=rfl
theorem au_.turn3 {n N k}:au_.loop3 n k (N+1)=au_.step3 n k (au_.loop3 n k N):=rfl
theorem bI_.turn7 {n N k0 k1}:bI_.loop7 n k0 k1 (N+1)=bI_.step7 n k0 k1 (bI_.loop7 n k0 k1 N):=rfl
theorem bW_.turn4 {n N k}:bW_.loop4 n k (N+1)=bW_.step4 n k (bW_.loop4 n k N):=rfl
theorem a8_.turn4 {n N k0 k1}:a8_.loop4 n k0 k1 (N+1)=a8_.step4 n k0 k1 (a8_.loop4 n k0 k1 N):=rfl
theorem cs_.turn3 {n N k}:cs_.loop3 n k (N+1)=cs_.step3 n k (cs_.loop3 n k N):=rfl
theorem bS_.turn4 {n N k}:bS_.loop4 n k (N+1)=bS_.step4 n k (bS_.loop4 n k N):=rfl
theorem a7_.turn4 {n N k0 k1}:a7_.loop4 n k0 k1 (N+1)=a7_.step4 n k0 k1 (a7_.loop4 n k0 k1 N):=rfl
theorem bq_.turn4 {n N k}:bq_.loop4 n k (N+1)=bq_.step4 n k (bq_.loop4 n k N):=rfl
theorem bN_.turn4 {n N k}:bN_.loop4 n k (N+1)=bN_.step4 n k (bN_.loop4 n k N):=rfl
theorem aw_.turn4 {n N k}:aw_.loop4 n k (N+1)=aw_.step4 n k (aw_.loop4 n k N):=rfl
theorem ao_.turn3 {n N k}:ao_.loop3 n k (N+1)=ao_.step3 n k (ao_.loop3 n k N):=rfl
theorem an_.turn7 {n N k0 k1}:an_.loop7 n k0 k1 (N+1)=an_.step7 n k0 k1 (an_.loop7 n k0 k1 N):=rfl
theorem aF_.turn3 {n N k}:aF_.loop3 n k (N+1)=aF_.step3 n k (aF_.loop3 n k N):=rfl
theorem bD_.turn7 {n N k}:bD_.loop7 n k (N+1)=bD_.step7 n k (bD_.loop7 n k N):=rfl
theorem aI_.turn6 {n N k}:aI_.loop6 n k (N+1)=aI_.step6 n k (aI_.loop6 n k N):=rfl
theorem aj_.turn6 {n N k0 k1}:aj_.loop6 n k0 k1 (N+1)=aj_.step6 n k0 k1 (aj_.loop6 n k0 k1 N):=rfl
theorem bY_.turn4 {n N k}:bY_.loop4 n k (N+1)=bY_.step4 n k (bY_.loop4 n k N):=rfl
theorem bj_.turn5 {n N k}:bj_.loop5 n k (N+1)=bj_.step5 n k (bj_.loop5 n k N):=rfl
theorem aD_.turn7 {n N k}:aD_.loop7 n k (N+1)=aD_.step7 n k (aD_.loop7 n k N):=rfl
theorem aG_.turn4 {n N k}:aG_.loop4 n k (N+1)=aG_.step4 n k (aG_.loop4 n k N):=rfl
theorem aW_.turn8 {n N k0 k1}:aW_.loop8 n k0 k1 (N+1)=aW_.step8 n k0 k1 (aW_.loop8 n k0 k1 N):=rfl
theorem a3_.turn6 {n N k}:a3_.loop6 n k (N+1)=a3_.step6 n k (a3_.loop6 n k N):=rfl
theorem bd_.turn7 {n N k}:bd_.loop7 n k (N+1)=bd_.step7 n k (bd_.loop7 n k N):=rfl
theorem ad_.turn20 {n N k}:ad_.loop20 n k (N+1)=ad_.step20 n k (ad_.loop20 n k N):=rfl
theorem ad_.turn5 {n N k}:ad_.loop5 n k (N+1)=ad_.step5 n k (ad_.loop5 n k N):=rfl
end Go.Pi
end
section
namespace Go.Pi
def il_ (p:Nat→Bool):Nat→Nat→Bool
 |0,_=>true
 |d+1,i=>p i&&il_ p d (i+1)
def iL_ (p:Nat→Bool) (len:Nat):Bool:=il_ p len 0
theorem e4_ (L:Nat→Nat→Nat→Option Bool) (p:Nat→Bool) {len:Nat} {v:Bool}
  (h:∀ i w,i<len→Ev (fun n N=>L n N (i+1)) w→Ev (fun n N=>L n (N+1) i) (p i&&w)) (h2:Ev (fun n N=>L n (N+1) len) v) :
  Ev (fun n _=>L n n 0) (iL_ p len&&v):=by
 have key:∀ d i,d+i=len→Ev (fun n N=>L n N i) (il_ p d i&&v):=by
  intro d
  induction d with
  |zero=>intro i hd;obtain rfl:i=len:=by omega
         simpa [il_] using bF_ (f:=fun n N=>L n N i) h2
  |succ d ih=>intro i hd
              have:=h i _ (by omega) (ih (i+1) (by omega))
              rw [←Bool.and_assoc] at this
              exact bF_ (f:=fun n N=>L n N i) this
 exact dg_ (f:=fun n N=>L n N 0) (key len 0 (by omega))
theorem ga_ {α:Type} {f:Nat→Nat→Option α} {v w:α} (h:Ev f v) (e:v=w):Ev f w:=e ▸ h
def inn (x lo hi:Int):Bool:=decide (lo≤x)&&decide (x≤hi)
theorem jd_ {x lo hi:Int}:inn x lo hi=true↔lo≤x∧x≤hi:=by simp [inn]
theorem l1In_ev {x lo hi:Int}:Ev (fun n _=>b4_ n x lo hi) (inn x lo hi):=by
 refine ap_ ?_
 simp only [b4_,am_,ae_,inn]
 grind
theorem o8_ {x lo hi:Int}:Ev (fun n _=>aN_ n x lo hi) (inn x lo hi):=by
 refine ap_ ?_
 simp only [aN_,am_,ae_,inn]
 grind
section
variable {β:Type} {x lo hi:Int} {g:Nat→Nat→Bool→Option β} {v:β}
theorem fQ_:Ev (fun n N=>(b4_ n x lo hi).bind (g n N)) v↔Ev (fun n N=>g n N (inn x lo hi)) v:=ab_ l1In_ev
theorem gB_:Ev (fun n N=>(aN_ n x lo hi).bind (g n N)) v↔Ev (fun n N=>g n N (inn x lo hi)) v:=ab_ o8_
theorem isNum_b:Ev (fun n N=>(bm_ n x).bind (g n N)) v↔Ev (fun n N=>g n N (inn x (-1000000000) 1000000000)) v :=
 ab_ (ap_ (by simp only [bm_,gB_,ae_]))
end
theorem cC_ {i len:Nat} (h:i<len):decide ((i:Int)<(len:Int))=true:=by simp;omega
theorem cn_ {len:Nat}:decide ((len:Int)<(len:Int))=false:=by simp
theorem cf_ {i len:Nat} (h:i<len):((0:Int)≤(i:Int)∧(i:Int)<(len:Int))↔True:=by simp;omega
end Go.Pi
end
section
namespace Go.Pi
abbrev cap:Nat:=1048576
def er_ {α:Type} (f:α→Nat):List α→Nat
 |[]=>0
 |x::xs=>f x+er_ f xs
def e0_ {α:Type} (f:α→Nat) (l:List α):Nat:=l.length+er_ f l
def pG_ {α:Type} (P:α→Prop) (l:List α):Prop:=l.length≤b6_∧∀ x ∈ l,P x
def szI (_:Int):Nat:=0
def szB (s:Bs):Nat:=s.length
def lenI (_:Int):Prop:=True
def lenB (s:Bs):Prop:=s.length≤b6_
theorem lB_ {α:Type} (f:α→Nat) (d:α) {a:List α} {i:Nat} (h:i<a.length):er_ f (a.drop i)=f (a.getD i d)+er_ f (a.drop (i+1)):=by
 rw [es_ d h];rfl
theorem i1_ {α:Type} (f:α→Nat) {a:List α} {x:α} (h:x ∈ a):f x≤er_ f a:=by
 induction a with
 |nil=>cases h
 |cons y a ih=>
  simp only [er_]
  rcases List.mem_cons.1 h with rfl|h
  · omega
  · have:=ih h;omega
end Go.Pi
end
section
namespace Go.Pi
theorem W_dn {i:Nat} (h:i≤b6_):W ((i:Int) - 1)=(i:Int) - 1:=by
 rw [W_id (by omega) (by simp only [b6_] at h;omega)]
theorem lg_ {i:Nat}:((i:Int) - 1).toNat=i - 1:=by omega
theorem gK_ {x lo hi:Int} (h:inn x lo hi=true):lo≤x∧x≤hi:=jd_.1 h
def gM_ {α:Type} (s:Nat→α→α) (v:α):Nat→Nat→α
 |0,_=>v
 |d+1,i=>s i (gM_ s v d (i+1))
theorem mu_ {α:Type} (L:Nat→Nat→Nat→Option α) (s:Nat→α→α) {len:Nat} {v:α}
  (h:∀ i w,i<len→Ev (fun n N=>L n N (i+1)) w→Ev (fun n N=>L n (N+1) i) (s i w)) (h2:Ev (fun n N=>L n (N+1) len) v) :
  Ev (fun n _=>L n n 0) (gM_ s v len 0):=by
 have key:∀ d i,d+i=len→Ev (fun n N=>L n N i) (gM_ s v d i):=by
  intro d
  induction d with
  |zero=>intro i hd;obtain rfl:i=len:=by omega
         exact bF_ (f:=fun n N=>L n N i) h2
  |succ d ih=>intro i hd
              exact bF_ (f:=fun n N=>L n N i) (h i _ (by omega) (ih (i+1) (by omega)))
 exact dg_ (f:=fun n N=>L n N 0) (key len 0 (by omega))
theorem bk_ {α:Type} {n b:Nat} {f:Nat→Nat→Option α} {v:α}:Ev (fun m N=>bf_ n b (f m N)) v↔n*b≤140737488355328∧Ev f v:=by
 unfold bf_
 rw [am_]
 by_cases h:n*b≤140737488355328<;>simp [h,dA_]
theorem p7_ {α β γ:Type} (d:α) (a:List α) (f:α→β) (L:Nat→Nat→Nat→List β→Option γ) (v:γ)
  (h1:∀ i s,i<a.length→s.length=i→∀ F,Ev (fun n N=>L n N (i+1) (s++[f (a.getD i d)])) F→Ev (fun n N=>L n (N+1) i s) F)
  (h2:Ev (fun n N=>L n (N+1) a.length (a.map f)) v):Ev (fun n _=>L n n 0 []) v:=by
 have key:∀ j i,j+i=a.length→Ev (fun n N=>L n N i ((a.take i).map f)) v:=by
  intro j
  induction j with
  |zero=>
   intro i hi
   have:i=a.length:=by omega
   subst this
   rw [List.take_of_length_le (Nat.le_refl _)]
   exact bF_ h2
  |succ j ih=>
   intro i hi
   refine bF_ (h1 i _ (by omega) (by simp;omega) _ ?_)
   have:=ih (i+1) (by omega)
   rw [List.take_add_one,List.map_append] at this
   have e:a[i]?.toList=[a.getD i d]:=by
    rw [List.getD_eq_getElem?_getD,List.getElem?_eq_getElem (by omega)];rfl
   rw [e] at this
   exact this
 have:=key a.length 0 (by omega)
 exact dg_ (f:=fun n N=>L n N 0 []) this
abbrev fh_:Nat:=1073741824
theorem eE_ {α γ:Type} (S:Nat→α) (len:Nat) (L:Nat→Nat→Nat→α→Option γ) (v:γ)
  (h1:∀ i,i<len→∀ F,Ev (fun n N=>L n N (i+1) (S (i+1))) F→Ev (fun n N=>L n (N+1) i (S i)) F)
  (h2:Ev (fun n N=>L n (N+1) len (S len)) v):Ev (fun n _=>L n n 0 (S 0)) v:=by
 have key:∀ j i,j+i=len→Ev (fun n N=>L n N i (S i)) v:=by
  intro j
  induction j with
  |zero=>
   intro i hi
   have:i=len:=by omega
   subst this
   exact bF_ h2
  |succ j ih=>exact fun i hi=>bF_ (h1 i (by omega) _ (ih (i+1) (by omega)))
 exact dg_ (f:=fun n N=>L n N 0 (S 0)) (key len 0 (by omega))
theorem cB_ {α:Type} (d:α) {a:List α} {i:Nat} (h:i<a.length):a.take (i+1)=a.take i++[a.getD i d]:=by
 rw [List.take_add_one,List.getD_eq_getElem?_getD,List.getElem?_eq_getElem h];rfl
theorem gL_ {α:Type} (d:α) (P:α→Bool):∀ (rows:List α),gM_ (fun i (x:Int)=>cond (P (rows.getD i d)) (i:Int) x) (-1) rows.length 0=if rows.findIdx P<rows.length then (rows.findIdx P:Int) else -1:=by
 intro rows
 have key:∀ j i,j+i=rows.length→(∀ k,k<i→P (rows.getD k d)=false)→gM_ (fun i (x:Int)=>cond (P (rows.getD i d)) (i:Int) x) (-1) j i=if rows.findIdx P<rows.length then (rows.findIdx P:Int) else -1:=by
  intro j
  induction j with
  |zero=>
   intro i hi hk
   have:¬ rows.findIdx P<rows.length:=by
    intro h
    have h1:=List.findIdx_getElem (w:=h)
    have h2:=hk _ (show rows.findIdx P<i by omega)
    rw [List.getD_eq_getElem?_getD,List.getElem?_eq_getElem h] at h2
    simp only [Option.getD_some] at h2
    rw [h1] at h2;cases h2
   rw [if_neg this];rfl
  |succ j ih=>
   intro i hi hk
   simp only [gM_]
   cases hp:P (rows.getD i d) with
   |true=>
    have hlt:i<rows.length:=by omega
    rw [List.getD_eq_getElem?_getD,List.getElem?_eq_getElem hlt] at hp
    have e:rows.findIdx P=i:=by
     apply Nat.le_antisymm
     · exact Nat.le_of_not_lt fun h=>by have:=List.not_of_lt_findIdx h;rw [Option.getD_some] at hp;rw [hp] at this;cases this
     · exact Nat.le_of_not_lt fun h=>by
        have h2:=hk _ h
        have hl:rows.findIdx P<rows.length:=by omega
        rw [List.getD_eq_getElem?_getD,List.getElem?_eq_getElem hl] at h2
        rw [Option.getD_some,List.findIdx_getElem (w:=hl)] at h2;cases h2
    rw [e,if_pos hlt];rfl
   |false=>
    rw [cond_false]
    exact ih (i+1) (by omega) fun k hk'=>by
     by_cases e:k=i
     · subst e;exact hp
     · exact hk k (by omega)
 exact key rows.length 0 (by omega) fun k hk=>by omega
theorem eD_ {α:Type} {lo hi:Int} {len:Nat} {f:Nat→Nat→Option α} {v:α}:Ev (fun n N=>gO_ lo hi len (f n N)) v↔(0≤lo∧lo≤hi∧hi≤(len:Int))∧Ev f v:=by
 unfold gO_
 simp only [am_,dA_]
 by_cases h1:0≤lo<;>by_cases h2:lo≤hi<;>by_cases h3:hi≤(len:Int)<;>simp [h1,h2,h3]
theorem e8_ {p:Nat→Bool} {len:Nat}:iL_ p len=true↔∀ i,i<len→p i=true:=by
 have key:∀ d i,d+i=len→(il_ p d i=true↔∀ k,i≤k→k<len→p k=true):=by
  intro d
  induction d with
  |zero=>intro i hi;simp only [il_,true_iff];intro k h1 h2;omega
  |succ d ih=>
   intro i hi
   simp only [il_,Bool.and_eq_true,ih (i+1) (by omega)]
   constructor
   · rintro ⟨h1,h2⟩ k h3 h4
     by_cases e:k=i
     · subst e;exact h1
     · exact h2 k (by omega) h4
   · exact fun h=>⟨h i (Nat.le_refl _) (by omega),fun k h1 h2=>h k (by omega) h2⟩
 have:=key len 0 (by omega)
 unfold iL_
 rw [this]
 exact ⟨fun h i hi=>h i (Nat.zero_le _) hi,fun h i _ hi=>h i hi⟩
end Go.Pi
end
section
namespace Go.Pi
section
variable {α β σ:Type}
def Ans (f:Nat→Nat→Option α) (Q:α→Prop):Prop:=∃ v,Ev f v∧Q v
theorem ans_ev {f:Nat→Nat→Option α} {v:α} (h:Ev f v) {Q:α→Prop}:Ans f Q↔Q v :=
 ⟨fun ⟨w,h1,h2⟩=>(dB_ h).1 h1 ▸ h2,fun hq=>⟨v,h,hq⟩⟩
theorem aM_ {v:α} {Q:α→Prop}:Ans (fun _ _=>some v) Q↔Q v:=ans_ev (ae_.2 rfl)
theorem sp_ {Q:α→Prop}:Ans (fun _ _=>none) Q↔False :=
 ⟨fun ⟨_,h,_⟩=>dA_.1 h,fun h=>h.elim⟩
theorem a2_ {f:Nat→Nat→Option α} {a:α} (h:Ev f a) {g:Nat→Nat→α→Option β} {Q:β→Prop}:Ans (fun n N=>(f n N).bind (g n N)) Q↔Ans (fun n N=>g n N a) Q:=by
 unfold Ans;simp only [ab_ h]
theorem av_ {f:Nat→Nat→Option α} {P:α→Prop} (h:Ans f P) {g:Nat→Nat→α→Option β} {Q:β→Prop} (k:∀ v,P v→Ans (fun n N=>g n N v) Q):Ans (fun n N=>(f n N).bind (g n N)) Q:=by
 obtain ⟨v,h1,h2⟩:=h
 exact (a2_ h1).2 (k v h2)
theorem ba_ {c:Bool} {f g:Nat→Nat→Option α} {Q:α→Prop}:Ans (fun n N=>cond c (f n N) (g n N)) Q↔(c=true→Ans f Q)∧(c=false→Ans g Q):=by
 cases c<;>simp
theorem fb_ {i:Int} {len:Nat} {f:Nat→Nat→Option α} {Q:α→Prop}:Ans (fun n N=>inB i len (f n N)) Q↔(0≤i∧i<(len:Int))∧Ans f Q:=by
 unfold Ans;simp only [bb_]
 exact ⟨fun ⟨v,⟨h1,h2⟩,h3⟩=>⟨h1,v,h2,h3⟩,fun ⟨h1,v,h2,h3⟩=>⟨v,⟨h1,h2⟩,h3⟩⟩
theorem dC_ {n b:Nat} {f:Nat→Nat→Option α} {Q:α→Prop}:Ans (fun m N=>bf_ n b (f m N)) Q↔n*b≤140737488355328∧Ans f Q:=by
 unfold Ans;simp only [bk_]
 exact ⟨fun ⟨v,⟨h1,h2⟩,h3⟩=>⟨h1,v,h2,h3⟩,fun ⟨h1,v,h2,h3⟩=>⟨v,⟨h1,h2⟩,h3⟩⟩
theorem jZ_ {lo hi:Int} {len:Nat} {f:Nat→Nat→Option α} {Q:α→Prop}:Ans (fun n N=>gO_ lo hi len (f n N)) Q↔(0≤lo∧lo≤hi∧hi≤(len:Int))∧Ans f Q:=by
 unfold Ans;simp only [eD_]
 exact ⟨fun ⟨v,⟨h1,h2⟩,h3⟩=>⟨h1,v,h2,h3⟩,fun ⟨h1,v,h2,h3⟩=>⟨v,⟨h1,h2⟩,h3⟩⟩
theorem b8_ {f:Nat→Nat→Option α} {Q:α→Prop} (h:Ans (fun n N=>f (n+1) N) Q):Ans f Q :=
 let ⟨v,h1,h2⟩:=h;⟨v,ap_ h1,h2⟩
theorem cE_ {f:Nat→Nat→Option α} {Q:α→Prop} (h:Ans (fun n N=>f n (N+1)) Q):Ans f Q :=
 let ⟨v,h1,h2⟩:=h;⟨v,bF_ h1,h2⟩
theorem ei_ {f:Nat→Nat→Option α} {Q:α→Prop} (h:Ans f Q):Ans (fun n _=>f n n) Q :=
 let ⟨v,h1,h2⟩:=h;⟨v,dg_ h1,h2⟩
theorem gQ_ (L:Nat→Nat→σ→Option α) (m:σ→Nat) (I:σ→Prop) (Q:α→Prop)
  (h:∀ s,I s→(∀ s',I s'→m s'<m s→Ans (fun n N=>L n N s') Q)→Ans (fun n N=>L n (N+1) s) Q):∀ s,I s→Ans (fun n _=>L n n s) Q:=by
 have key:∀ k s,m s<k→I s→Ans (fun n N=>L n N s) Q:=by
  intro k
  induction k with
  |zero=>intro s hk;omega
  |succ k ih=>exact fun s hk hI=>cE_ (h s hI fun s' hI' hm=>ih s' (by omega) hI')
 exact fun s hI=>ei_ (f:=fun n N=>L n N s) (key _ s (Nat.lt_succ_self _) hI)
end
end Go.Pi
end
section
namespace Go.Pi
theorem aS_ (j:aa_):aa_.re j=j:=by cases j;rfl
def jk_ (s:Bs):Bool:=iL_ (fun i=>inn ((s.getD i 0).toNat:Int) 32 126) s.length&&decide ((s.length:Int)≤60)
theorem so_ (b:UInt8):W ((b.toNat:Int))=(b.toNat:Int):=W_id (by omega) (by have:=b.toNat_lt;omega)
theorem gT_ {s:Bs} (hs:s.length≤b6_):Ev (fun n _=>b2_ n s) (jk_ s):=by
 refine ap_ ?_
 simp only [b2_]
 refine e4_ (fun n N i=>b2_.loop3 n (fun xy1=>(some (decide ((xy1.length:Int)≤60)))) N s (i:Int)) _ (fun i w hi ih => ?_) ?_
 · simp only [b2_.turn3,b2_.step3,Int.toNat_natCast,am_,bb_,ae_,W_up hi hs,dB_ ih,cC_ hi,cf_ hi]
   clear ih
   simp only [inn]
   by_cases h1:(((s.getD i 0).toNat:Nat):Int)<32<;>by_cases h2:(((s.getD i 0).toNat:Nat):Int) > 126<;>simp [h1,h2]<;>(intros;omega)
 · simp only [b2_.turn3,b2_.step3,cn_,cond_false,ae_]
theorem g0_ {s:Bs} (hs:s.length≤b6_):Ev (fun n _=>az_ n s) (jk_ s):=by
 refine ap_ ?_
 simp only [az_]
 refine e4_ (fun n N i=>az_.loop3 n (fun xy1=>(some (decide ((xy1.length:Int)≤60)))) N s (s.length:Int) (i:Int)) _ (fun i w hi ih => ?_) ?_
 · simp only [az_.turn3,az_.step3,Int.toNat_natCast,am_,bb_,gB_,so_,ae_,W_up hi hs,dB_ ih,cC_ hi,cf_ hi]
   clear ih
   grind
 · simp only [az_.turn3,az_.step3,cn_,cond_false,ae_]
def lenNs (c:Nat) (l:List Bs):Prop:=l.length≤c∧∀ x ∈ l,x.length≤c
theorem jR_ {c:Nat} {l:List Bs} (h:lenNs c l) (i:Nat):(l.getD i []).length≤c:=by
 by_cases hi:i<l.length
 · exact h.2 _ (bX_ [] hi)
 · rw [List.getD_eq_getElem?_getD,List.getElem?_eq_none (by omega)];exact Nat.zero_le _
def k2_ (l:List Bs):Bool:=iL_ (fun i=>jk_ (l.getD i [])&&(decide (i=0)||Op.bytesLess (l.getD (i - 1) []) (l.getD i []))) l.length
theorem mo_ {l:List Bs} (h:lenNs b6_ l):Ev (fun n _=>au_ n l) (k2_ l):=by
 refine ap_ ?_
 simp only [au_]
 refine ga_ (e4_ (fun n N i=>au_.loop3 n (some true) N l l (l.length:Int) (i:Int)) (fun i=>jk_ (l.getD i [])&&(decide (i=0)||Op.bytesLess (l.getD (i - 1) []) (l.getD i []))) (len:=l.length) (v:=true) (fun i w hi ih => ?_) ?_) (by rw [Bool.and_true];rfl)
 · simp only [au_.turn3,au_.step3,Int.toNat_natCast,W_up hi h.1,W_dn (i:=i) (by have:=h.1;omega),lg_,am_,bb_,ab_ (g0_ (jR_ h i)),ae_,dB_ ih,cC_ hi,cf_ hi]
   clear ih
   repeat' (first|apply And.intro|intro _)
   all_goals (try rw [Bool.eq_iff_iff])
   all_goals (try simp only [Bool.not_eq_true',Bool.not_eq_false',decide_eq_true_eq,decide_eq_false_iff_not,Bool.and_eq_true,Bool.or_eq_true,Bool.and_eq_false_iff,Bool.or_eq_false_iff] at *)
   all_goals grind
 · simp only [au_.turn3,au_.step3,cn_,cond_false,ae_]
def rl_ (j:aa_):Bool:=cond (j.kind != 5) ((j.names.length:Int) == 0) (k2_ j.names&&((j.names.length:Int) == (j.list.length:Int)))
theorem lH_ {j:aa_} (h:lenNs b6_ j.names):Ev (fun n _=>ag_ n j) (rl_ j):=by
 refine ap_ ?_
 have hl:Ev (fun n _=>ag_.loop6 n (fun xy2 xy3 xy4 xy5 xy6=>(some ((xy6.length:Int) == (xy5.length:Int)))) n 0 j.kind j.n_ j.s j.list j.names) (k2_ j.names&&((j.names.length:Int) == (j.list.length:Int))):=by
  refine e4_ (fun n N i=>ag_.loop6 n (fun xy2 xy3 xy4 xy5 xy6=>(some ((xy6.length:Int) == (xy5.length:Int)))) N (i:Int) j.kind j.n_ j.s j.list j.names) _ (fun i w hi ih => ?_) ?_
  · simp only [ag_.turn6,ag_.step6,Int.toNat_natCast,W_up hi h.1,W_dn (i:=i) (by have:=h.1;omega),lg_,am_,bb_,ab_ (gT_ (jR_ h i)),ae_,dB_ ih,cC_ hi,cf_ hi]
    clear ih
    repeat' (first|apply And.intro|intro _)
    all_goals (try rw [Bool.eq_iff_iff])
    all_goals (try simp only [Bool.not_eq_true',Bool.not_eq_false',decide_eq_true_eq,decide_eq_false_iff_not,Bool.and_eq_true,Bool.or_eq_true,Bool.and_eq_false_iff,Bool.or_eq_false_iff] at *)
    all_goals grind
  · simp only [ag_.turn6,ag_.step6,cn_,cond_false,ae_]
 simp only [ag_,am_,ae_,dB_ hl,rl_]
 cases (j.kind != 5)<;>simp
end Go.Pi
end
section
namespace Go.Pi
def bi (l:Bs):List Int:=l.map fun c=>((c.toNat:Nat):Int)
theorem kc_ (l:Bs):iv_ (bi l)=l:=by
 unfold iv_ bi
 rw [List.map_map]
 refine (List.map_congr_left fun c _ => ?_).trans (List.map_id l)
 simp
theorem k0_ (l:Bs):(bi l).length=l.length:=List.length_map _
theorem bi_app (a b:Bs):bi (a++b)=bi a++bi b:=List.map_append
theorem mF_ (c:UInt8) (k:Nat) (d:UInt8) (hd:d.toNat=k):(((c.toNat:Nat):Int) == (k:Int))=decide (c=d):=by
 by_cases h:c=d
 · subst h;rw [hd];simp
 · rw [decide_eq_false h,beq_eq_false_iff_ne]
   intro e
   exact h (UInt8.toNat_inj.1 (by omega))
theorem byte34 (c:UInt8):(((c.toNat:Nat):Int) == 34)=decide (c=34):=mF_ c 34 34 rfl
theorem byte92 (c:UInt8):(((c.toNat:Nat):Int) == 92)=decide (c=92):=mF_ c 92 92 rfl
theorem byte126 (c:UInt8):(((c.toNat:Nat):Int) == 126)=decide (c=126):=mF_ c 126 126 rfl
theorem byte47 (c:UInt8):(((c.toNat:Nat):Int) == 47)=decide (c=47):=mF_ c 47 47 rfl
theorem f9_ (f:UInt8→Bs) (h:∀ c,(f c).length≤2):∀ s:Bs,(s.flatMap f).length≤2*s.length
 |[]=>Nat.le_refl _
 |c::s=>by
  have:=f9_ f h s
  have:=h c
  simp only [List.flatMap_cons,List.length_append,List.length_cons];omega
theorem p3_ (f:UInt8→Bs) {s:Bs} {i:Nat} (h:i<s.length):(s.take (i+1)).flatMap f=(s.take i).flatMap f++f (s.getD i 0):=by
 rw [cB_ 0 h,List.flatMap_append];simp
def fN_ (c:UInt8):Bs:=if c=34∨c=92 then [92,c] else [c]
theorem jD_ (c:UInt8):(fN_ c).length≤2:=by unfold fN_;split<;>simp
def dn_ (s:Bs):Bs:=34::s.flatMap fN_++[34]
theorem gg_ (s:Bs):(dn_ s).length≤2*s.length+2:=by
 have:=f9_ fN_ jD_ s
 simp only [dn_,List.cons_append,List.length_cons,List.length_append,List.length_nil];omega
theorem q2 (o:Bs) (c:UInt8):bi (34::(o++[92,c]))=(bi (34::o)++[92])++[((c.toNat:Nat):Int)]:=by simp [bi]
theorem q1 (o:Bs) (c:UInt8):bi (34::(o++[c]))=bi (34::o)++[((c.toNat:Nat):Int)]:=by simp [bi]
theorem qEnd (o:Bs):iv_ (bi (34::o)++[34])=34::o++[34]:=by
 have:bi (34::o)++[34]=bi (34::o++[34]):=by simp [bi]
 rw [this,kc_]
theorem hT_ {s:Bs} (hs:s.length≤1000000):Ev (fun n _=>bt_ n s) (dn_ s):=by
 refine ap_ ?_
 have ht:s.length≤b6_:=by simp only [b6_];omega
 simp only [bt_]
 have:=eE_ (fun i=>bi (34::(s.take i).flatMap fN_)) s.length (fun n N i (o:List Int)=>bt_.loop4 n (fun xy1=>(bf_ (xy1.length+([34]:List Int).length) 1 (some (iv_ (xy1++([34]:List Int)))))) N s (i:Int) o) (dn_ s) (fun i hi F hF => ?_) ?_
 · exact this
 · have hl:=f9_ fN_ jD_ (s.take i)
   rw [List.length_take] at hl
   rw [p3_ fN_ hi] at hF
   generalize (s.take i).flatMap fN_=o at hF hl ⊢
   have hb:=k0_ (34::o)
   simp only [List.length_cons] at hb
   simp only [bt_.turn4,bt_.step4,Int.toNat_natCast,W_up hi ht,am_,bb_,bk_,cC_ hi,cf_ hi,byte34,byte92]
   generalize s.getD i 0=c at hF ⊢
   unfold fN_ at hF
   by_cases h1:c=34
   · rw [if_pos (.inl h1),q2] at hF
     simp only [h1,decide_true] at hF ⊢
     repeat' (first|apply And.intro|intro _)
     all_goals (first|contradiction|exact hF|trivial|(simp [hb];omega))
   · by_cases h2:c=92
     · rw [if_pos (.inr h2),q2] at hF
       simp only [h2,decide_true] at hF ⊢
       repeat' (first|apply And.intro|intro _)
       all_goals (first|contradiction|exact hF|trivial|(simp [hb];omega))
     · rw [if_neg (fun h=>h.elim h1 h2),q1] at hF
       simp only [h1,h2,decide_false] at hF ⊢
       repeat' (first|apply And.intro|intro _)
       all_goals (first|contradiction|exact hF|trivial|(simp [hb];omega))
 · have hl:=f9_ fN_ jD_ s
   have hb:=k0_ (34::s.flatMap fN_)
   simp only [List.length_cons] at hb
   simp only [bt_.turn4,bt_.step4,cn_,cond_false,bk_,List.take_length,ae_,qEnd]
   exact ⟨by simp only [hb,List.length_cons,List.length_nil];omega,rfl⟩
theorem iU_ {s:Bs} (hs:s.length≤1000000):Ev (fun n _=>bW_ n s) (dn_ s):=by
 refine ap_ ?_
 have ht:s.length≤b6_:=by simp only [b6_];omega
 simp only [bW_]
 have:=eE_ (fun i=>bi (34::(s.take i).flatMap fN_)) s.length (fun n N i (o:List Int)=>bW_.loop4 n (fun xy1=>(bf_ (xy1.length+([34]:List Int).length) 1 (some (iv_ (xy1++([34]:List Int)))))) N s (s.length:Int) (i:Int) o) (dn_ s) (fun i hi F hF => ?_) ?_
 · exact this
 · have hl:=f9_ fN_ jD_ (s.take i)
   rw [List.length_take] at hl
   rw [p3_ fN_ hi] at hF
   generalize (s.take i).flatMap fN_=o at hF hl ⊢
   have hb:=k0_ (34::o)
   simp only [List.length_cons] at hb
   simp only [bW_.turn4,bW_.step4,Int.toNat_natCast,W_up hi ht,am_,bb_,bk_,cC_ hi,cf_ hi,byte34,byte92]
   generalize s.getD i 0=c at hF ⊢
   unfold fN_ at hF
   by_cases h1:c=34
   · rw [if_pos (.inl h1),q2] at hF
     simp only [h1,decide_true] at hF ⊢
     repeat' (first|apply And.intro|intro _)
     all_goals (first|contradiction|exact hF|trivial|(simp [hb];omega))
   · by_cases h2:c=92
     · rw [if_pos (.inr h2),q2] at hF
       simp only [h2,decide_true] at hF ⊢
       repeat' (first|apply And.intro|intro _)
       all_goals (first|contradiction|exact hF|trivial|(simp [hb];omega))
     · rw [if_neg (fun h=>h.elim h1 h2),q1] at hF
       simp only [h1,h2,decide_false] at hF ⊢
       repeat' (first|apply And.intro|intro _)
       all_goals (first|contradiction|exact hF|trivial|(simp [hb];omega))
 · have hl:=f9_ fN_ jD_ s
   have hb:=k0_ (34::s.flatMap fN_)
   simp only [List.length_cons] at hb
   simp only [bW_.turn4,bW_.step4,cn_,cond_false,bk_,List.take_length,ae_,qEnd]
   exact ⟨by simp only [hb,List.length_cons,List.length_nil];omega,rfl⟩
end Go.Pi
end
section
namespace Go.Pi
theorem ge_ (a b:UInt8) (l:Bs):Lib.index (b::l) [a]=if a=b then 0 else if Lib.index l [a] = -1 then -1 else Lib.index l [a]+1:=by
 rw [Lib.index]
 have:List.isPrefixOf [a] (b::l)=decide (a=b):=by
  simp only [List.isPrefixOf,Bool.and_true]
  exact Bool.eq_iff_iff.2 (by simp)
 rw [this]
 by_cases h:a=b
 · rw [decide_eq_true h,if_pos rfl,if_pos h]
 · rw [decide_eq_false h,if_neg (by simp),if_neg h]
   by_cases h2:Lib.index l [a] = -1
   · rw [h2,if_pos rfl,if_pos (by decide)]
   · rw [if_neg h2,if_neg (by simpa using h2)]
theorem qG_ {a b:UInt8} (h:a≠b) (new l:Bs):∀ k,Lib.replaceK [a] new k (b::l)=b::Lib.replaceK [a] new k l
 |0=>rfl
 |k+1=>by
  rw [Lib.replaceK,Lib.replaceK,ge_,if_neg h]
  by_cases h2:Lib.index l [a] = -1
  · rw [if_pos h2,if_pos (by decide),h2,if_pos (by decide)]
  · have:=Lib.index_ge l [a]
    obtain ⟨i,hi⟩:∃ i:Nat,Lib.index l [a]=i:=⟨(Lib.index l [a]).toNat,by omega⟩
    rw [if_neg h2,if_neg (by rw [hi];simp<;>omega),if_neg (by rw [hi];simp<;>omega),hi,show ((i:Int)+1).toNat=i+1 by omega,show ((i:Int)).toNat=i by omega]
    rfl
theorem qH_ (a:UInt8) (new l:Bs) (k:Nat):Lib.replaceK [a] new (k+1) (a::l)=new++Lib.replaceK [a] new k l:=by
 rw [Lib.replaceK,ge_,if_pos rfl,if_neg (by decide)]
 rfl
theorem h4_ (a:UInt8) (new:Bs):∀ (s:Bs) (k:Nat),s.count a≤k→Lib.replaceK [a] new k s=s.flatMap fun c=>if c=a then new else [c]
 |[],0,_=>rfl
 |[],k+1,_=>by
  rw [Lib.replaceK]
  have:Lib.index [] [a] = -1:=rfl
  rw [this,if_pos (by decide)];rfl
 |b::l,k,h=>by
  by_cases e:b=a
  · subst e
    rw [List.count_cons_self] at h
    obtain ⟨k,rfl⟩:∃ m,k=m+1:=⟨k - 1,by omega⟩
    rw [qH_,h4_ b new l k (by omega),List.flatMap_cons,if_pos rfl]
  · rw [List.count_cons_of_ne e] at h
    rw [qG_ (fun h=>e h.symm),h4_ a new l k h,List.flatMap_cons,if_neg e];rfl
theorem hw_ (a:UInt8):∀ (s:Bs) (f:Nat),s.length<f→Lib.countFrom [a] f s=s.count a
 |[],f+1,_=>by
  rw [Lib.countFrom]
  have:Lib.index [] [a] = -1:=rfl
  rw [this,if_pos (by decide)];rfl
 |b::l,f+1,h=>by
  have hl:l.length<f:=by simpa using h
  by_cases e:a=b
  · subst e
    rw [List.count_cons_self,Lib.countFrom,ge_,if_pos rfl,if_neg (by decide)]
    show 1+Lib.countFrom [a] f l=_
    rw [hw_ a l f hl];omega
  · rw [List.count_cons_of_ne (fun h=>e h.symm),←hw_ a l (f+1) (by omega),Lib.countFrom,Lib.countFrom,ge_,if_neg e]
    by_cases h2:Lib.index l [a] = -1
    · rw [if_pos h2,if_pos (by decide),h2,if_pos (by decide)]
    · have:=Lib.index_ge l [a]
      obtain ⟨i,hi⟩:∃ i:Nat,Lib.index l [a]=i:=⟨(Lib.index l [a]).toNat,by omega⟩
      rw [if_neg h2,if_neg (by rw [hi];simp<;>omega),if_neg (by rw [hi];simp<;>omega),hi,show ((i:Int)+1).toNat=i+1 by omega,show ((i:Int)).toNat=i by omega]
      rfl
theorem mB_ (a:UInt8) (s:Bs):Lib.count s [a]=s.count a:=hw_ a s _ (Nat.lt_succ_self _)
theorem m3_ (a:UInt8) (new s:Bs) (hne:([a] == new)=false):Lib.replaceAll s [a] new=s.flatMap fun c=>if c=a then new else [c]:=by
 unfold Lib.replaceAll Lib.replace Lib.replaceNum
 rw [hne,if_neg (by simp),if_pos (.inl (by decide)),mB_]
 exact h4_ a new s _ (Nat.le_refl _)
theorem j1_ {a b c:UInt8} {s:Bs} (hs:s.length≤1000000) (hne:([a] == [b,c])=false):Ev (fun n _=>strings_ReplaceAll n s [a] [b,c]) (s.flatMap fun x=>if x=a then [b,c] else [x]):=by
 refine ap_ ?_
 have:=List.count_le_length (a:=a) (l:=s)
 simp only [strings_ReplaceAll,gk_,mB_,m3_ a [b,c] s hne,am_,ae_,dA_]
 refine ⟨fun _=>trivial,fun h => ?_⟩
 have e1:decide (s.length<4294967281)=true:=decide_eq_true (by omega)
 have e2:decide (1≤[a].length)=true:=rfl
 have e3:decide (s.length+List.count a s*[b,c].length≤140737488355328)=true:=decide_eq_true (by simp only [List.length_cons,List.length_nil];omega)
 rw [e1,e2,e3] at h;cases h
def gz_ (c:UInt8):Bs:=if c=126 then [126,48] else if c=47 then [126,49] else [c]
theorem rs_ (c:UInt8):(gz_ c).length≤2:=by
 unfold gz_
 split
 · simp
 · split<;>simp
theorem wesc_two (s:Bs):((s.flatMap fun x=>if x=126 then [126,48] else [x]).flatMap fun x=>if x=47 then [126,49] else [x])=s.flatMap gz_:=by
 induction s with
 |nil=>rfl
 |cons c s ih=>
  rw [List.flatMap_cons,List.flatMap_append,ih,List.flatMap_cons]
  congr 1
  unfold gz_
  by_cases h1:c=126
  · subst h1;rfl
  · by_cases h2:c=47
    · subst h2;rfl
    · rw [if_neg h1,if_neg h1,if_neg h2];simp [h2]
def FWay (w:List Bs):Bs:=w.flatMap fun s=>47::s.flatMap gz_
theorem rt_ {w:List Bs} {i:Nat} (h:i<w.length):FWay (w.take (i+1))=FWay (w.take i)++(47::(w.getD i []).flatMap gz_):=by
 unfold FWay
 rw [cB_ [] h,List.flatMap_append];simp
theorem o0_ {w:List Bs} {c:Nat} (h:∀ s ∈ w,s.length≤c):(FWay w).length≤w.length*(2*c+1):=by
 induction w with
 |nil=>exact Nat.zero_le _
 |cons s w ih=>
  have h1:=f9_ gz_ rs_ s
  have h2:=h s (List.mem_cons_self ..)
  have h3:=ih fun x hx=>h x (List.mem_cons_of_mem _ hx)
  have e:FWay (s::w)=(47::s.flatMap gz_)++FWay w:=rfl
  rw [e,List.length_append,List.length_cons,List.length_cons,Nat.add_mul];omega
theorem ry_ {w:List Bs} {c:Nat} (h:∀ s ∈ w,s.length≤c) (i:Nat):∀ s ∈ w.take i,s.length≤c:=fun s hs=>h s (List.mem_of_mem_take hs)
theorem ib_ {w:List Bs} (hw:w.length≤6) (hs:∀ s ∈ w,s.length≤60):Ev (fun n _=>bS_ n w) (FWay w):=by
 refine ap_ ?_
 have ht:w.length≤b6_:=by simp only [b6_];omega
 simp only [bS_]
 have:=eE_ (fun i=>FWay (w.take i)) w.length (fun n N i (o:Bs)=>bS_.loop4 n (fun xy3=>(some xy3)) N o w (w.length:Int) (i:Int)) (FWay w) (fun i hi F hF => ?_) ?_
 · exact this
 · have h1:=hs _ (bX_ [] hi)
   have h2:=f9_ gz_ rs_ (w.getD i [])
   have h3:=o0_ (ry_ hs i)
   rw [List.length_take] at h3
   rw [rt_ hi] at hF
   have r1:=j1_ (a:=126) (b:=126) (c:=48) (s:=w.getD i []) (by omega) (by decide)
   have h4:=f9_ (fun x=>if x=126 then [126,48] else [x]) (fun c=>by split<;>simp) (w.getD i [])
   have r2:=j1_ (a:=47) (b:=126) (c:=49) (s:=(w.getD i []).flatMap fun x=>if x=126 then [126,48] else [x]) (by omega) (by decide)
   rw [wesc_two] at r2
   generalize FWay (w.take i)=o at hF h3 ⊢
   simp only [bS_.turn4,bS_.step4,Int.toNat_natCast,W_up hi ht,am_,bb_,dA_,cC_ hi,cf_ hi,ab_ r1,ab_ r2]
   generalize (w.getD i []).flatMap gz_=e at hF h2 ⊢
   have e2:([47]:Bs)++e=47::e:=rfl
   rw [e2]
   refine ⟨fun _=>⟨trivial,fun _=>⟨fun _=>hF,fun h => ?_⟩,fun h => ?_⟩,fun h=>(by cases h)⟩
   · have h:=of_decide_eq_false h
     simp only [List.length_cons] at h;omega
   · have h:=of_decide_eq_false h
     simp only [List.length_cons,List.length_nil] at h;omega
 · simp only [bS_.turn4,bS_.step4,cn_,cond_false,List.take_length,ae_]
theorem jM_ {α:Type} {i len:Nat} {x:Option α} (h:i<len):inB (i:Int) len x=x:=by
 unfold inB
 rw [decide_eq_true (by omega),decide_eq_true (by omega)];rfl
theorem jB_ {α:Type} {n b:Nat} {x:Option α} (h:n*b≤140737488355328):bf_ n b x=x:=by
 unfold bf_
 rw [decide_eq_true h];rfl
theorem oN_ {α:Type} {f g:Nat→Nat→Option α} {v:α} (M:Nat) (h:∀ n N,M≤n→f n N=g n N) (hg:Ev g v):Ev f v:=by
 obtain ⟨M',hM⟩:=hg
 exact ⟨max M M',fun n N h1 h2=>by rw [h n N (by omega)];exact hM n N (by omega) (by omega)⟩
theorem pa_ (n:Nat) (k2:List Bs→Int→List Int→Option Bs) {w:List Bs} {i:Nat} (hi:i<w.length) (hl:(w.getD i []).length≤1000000):∀ (d j m:Nat) (o:List Int),j+d=(w.getD i []).length→d<m→o.length+2*d≤100000000 →
  aE_.loop10 n k2 m w (i:Int) (j:Int) o=k2 w (i:Int) (o++bi (((w.getD i []).drop j).flatMap gz_))
 |0,j,m+1,o,hj,_,_=>by
  have e:(j:Int)=((w.getD i []).length:Int):=by omega
  have e2:(w.getD i []).drop j=[]:=List.drop_eq_nil_of_le (by omega)
  rw [aE_.turn10,aE_.step10,Int.toNat_natCast,jM_ hi,e,cn_,e2]
  simp [bi]
 |d+1,j,m+1,o,hj,hm,ho=>by
  have hjl:j<(w.getD i []).length:=by omega
  have ih:=fun o=>pa_ n k2 hi hl d (j+1) m o (by omega) (by omega)
  have e1:(w.getD i []).drop j=(w.getD i []).getD j 0::(w.getD i []).drop (j+1):=es_ 0 hjl
  rw [aE_.turn10,aE_.step10,Int.toNat_natCast,Int.toNat_natCast,jM_ hi,jM_ hi,jM_ hi,jM_ hjl,jM_ hjl,cC_ hjl,W_up hjl (show (w.getD i []).length≤b6_ by simp only [b6_];omega),byte126,byte47,e1,List.flatMap_cons,bi_app,←List.append_assoc]
  generalize (w.getD i []).getD j 0=c
  rw [jB_ (by simp;omega),jB_ (by simp;omega),jB_ (by simp;omega)]
  unfold gz_
  by_cases h1:c=126
  · rw [decide_eq_true h1,if_pos h1]
    exact ih _ (by simp;omega)
  · by_cases h2:c=47
    · rw [decide_eq_false h1,decide_eq_true h2,if_neg h1,if_pos h2]
      exact ih _ (by simp;omega)
    · rw [decide_eq_false h1,decide_eq_false h2,if_neg h1,if_neg h2]
      exact ih _ (by simp;omega)
theorem lI_ {w:List Bs} (hw:w.length≤6) (hs:∀ s ∈ w,s.length≤60):Ev (fun n _=>aE_ n w) (FWay w):=by
 refine ap_ ?_
 have ht:w.length≤b6_:=by simp only [b6_];omega
 simp only [aE_]
 have:=eE_ (fun i=>bi (FWay (w.take i))) w.length (fun n N i (o:List Int)=>aE_.loop4 n (fun xy4=>(some (iv_ xy4))) N w (i:Int) o) (FWay w) (fun i hi F hF => ?_) ?_
 · exact this
 · have h1:=hs _ (bX_ [] hi)
   have h3:=o0_ (ry_ hs i)
   rw [List.length_take] at h3
   rw [rt_ hi] at hF
   generalize FWay (w.take i)=o at hF h3 ⊢
   have hb:=k0_ o
   simp only [aE_.turn4,aE_.step4,cC_ hi,cond_true,bk_]
   refine ⟨by simp [hb];omega,oN_ 61 (fun n N hn=>pa_ n _ hi (by omega) (w.getD i []).length 0 n _ (by omega) (by omega) (by simp only [hb,List.length_append,List.length_cons,List.length_nil];omega)) ?_⟩
   simp only [W_up hi ht,List.drop_zero]
   have e:bi (o++47::(w.getD i []).flatMap gz_)=bi o++([47]:List Int)++bi ((w.getD i []).flatMap gz_):=by simp [bi]
   rw [e] at hF
   exact hF
 · simp only [aE_.turn4,aE_.step4,cn_,cond_false,List.take_length,ae_,kc_]
end Go.Pi
end
section
namespace Go.Pi
theorem ml_ (k:Int):k=0∨k=1∨k=2∨k=3∨k=4∨k=5∨(k≠0∧k≠1∧k≠2∧k≠3∧k≠4∧k≠5):=by omega
theorem os_ {α:Type} (l:List α):decide (l.length=0) = !decide ((l.length:Int) > 0):=by
 by_cases hz:l.length=0
 · rw [hz];rfl
 · rw [decide_eq_false hz,decide_eq_true (show (l.length:Int) > 0 by omega)];rfl
def FOwnK (j:aa_):Bool :=
 cond (j.kind == 1) (inn j.n_ 0 1) (cond (j.kind == 2) (inn j.n_ (-1000000000) 1000000000) (cond (j.kind == 3) (jk_ j.s) (cond (j.kind == 5) (((j.names.length:Int) == (j.list.length:Int))&&k2_ j.names) ((j.kind == 0)||(j.kind == 4)))))
def FOwn (j:aa_):Bool :=
 (decide (j.list.length=0)||((j.kind == 4)||(j.kind == 5)))&&((decide (j.names.length=0)||(j.kind == 5))&&(((j.n_ == 0)||((j.kind == 1)||(j.kind == 2)))&&(((j.s == [])||(j.kind == 3))&&FOwnK j)))
def lenJ1 (j:aa_):Prop:=j.s.length≤b6_∧lenNs b6_ j.names
theorem oF_ {j:aa_} (h:lenJ1 j):Ev (fun n _=>eT_ n j) (FOwn j):=by
 refine ap_ ?_
 simp only [eT_,am_,gB_,isNum_b,ab_ (g0_ h.1),ab_ (mo_ h.2),ae_]
 unfold FOwn FOwnK
 have e1:=os_ j.list
 have e2:=os_ j.names
 rw [e1,e2]
 generalize decide ((j.list.length:Int) > 0)=a
 generalize decide ((j.names.length:Int) > 0)=b
 generalize (j.s == [])=c
 have e3:(j.n_ != 0) = !(j.n_ == 0):=rfl
 rw [e3]
 generalize hd:(j.n_ == 0)=d
 generalize jk_ j.s=ft
 generalize k2_ j.names=fn
 generalize ((j.names.length:Int) == (j.list.length:Int))=eq
 rcases ml_ j.kind with hk|hk|hk|hk|hk|hk|⟨k0,k1,k2,k3,k4,k5⟩
 all_goals (first|simp only [hk]|simp only [beq_eq_false_iff_ne.2 k0,beq_eq_false_iff_ne.2 k1,beq_eq_false_iff_ne.2 k2,beq_eq_false_iff_ne.2 k3,beq_eq_false_iff_ne.2 k4,beq_eq_false_iff_ne.2 k5,bne])
 all_goals (cases a<;>cases b<;>cases c<;>cases d<;>simp)
 all_goals (cases eq<;>simp)
def bE_:Nat→aa_→Nat
 |0,_=>401
 |d+1,j=>cond (FOwn j) (min 401 (1+er_ (bE_ d) j.list)) 401
theorem FSize_le:∀ (d:Nat) (j:aa_),bE_ d j≤401
 |0,_=>Nat.le_refl _
 |d+1,j=>by
  simp only [bE_]
  cases FOwn j<;>simp only [cond_true,cond_false]<;>omega
def ft_:Nat→aa_→Prop
 |0,_=>True
 |d+1,j=>lenJ1 j∧j.list.length≤b6_∧∀ x ∈ j.list,ft_ d x
theorem getD_json {d:Nat} {l:List aa_} (h:∀ x ∈ l,ft_ d x) {i:Nat} (hi:i<l.length):ft_ d (l.getD i aa_.dflt):=h _ (bX_ _ hi)
theorem iT_:∀ (d:Nat) (j:aa_),d≤1000→ft_ d j→Ev (fun n _=>bI_ n j (d:Int)) (bE_ d j:Int)
 |0,j,_,_=>by
  refine ap_ ?_
  simp only [bI_,am_,ae_]
  exact ⟨fun _=>rfl,fun h=>by simp at h⟩
 |d+1,j,hd,h=>by
  refine ap_ ?_
  have hW:W (((d+1:Nat):Int) - 1)=(d:Int):=by rw [W_id (by omega) (by omega)];omega
  simp only [bI_,aS_,am_,ab_ (oF_ h.1),ae_,bE_]
  refine ⟨fun hc=>by have:=of_decide_eq_true hc;omega,fun _ => ?_⟩
  cases ho:FOwn j with
  |false=>exact ⟨fun _=>rfl,fun h=>by cases h⟩
  |true=>
   refine ⟨fun h=>(by cases h),fun _ => ?_⟩
   have ht:=h.2.1
   have key:∀ (k i:Nat) (s:Nat),k+i=j.list.length→s≤400→Ev (fun n N=>bI_.loop7 n (bI_ n) (fun xy3=>some xy3) N ((d+1:Nat):Int) (s:Int) j.list (j.list.length:Int) (i:Int)) ((min 401 (s+er_ (bE_ d) (j.list.drop i)):Nat):Int):=by
    intro k
    induction k with
    |zero=>
     intro i s hi hs
     have:i=j.list.length:=by omega
     subst this
     refine bF_ ?_
     simp only [bI_.turn7,bI_.step7,cn_,cond_false,ae_,List.drop_length,er_]
     omega
    |succ k ih=>
     intro i s hi hs
     have hlt:i<j.list.length:=by omega
     refine bF_ ?_
     have hc:=iT_ d (j.list.getD i aa_.dflt) (by omega) (getD_json h.2.2 hlt)
     have hle:=FSize_le d (j.list.getD i aa_.dflt)
     have hw:W ((s:Int)+(bE_ d (j.list.getD i aa_.dflt):Int))=((s+bE_ d (j.list.getD i aa_.dflt):Nat):Int):=by rw [W_id (by omega) (by omega)];omega
     simp only [bI_.turn7,bI_.step7,aS_,Int.toNat_natCast,hW,W_up hlt ht,am_,bb_,cC_ hlt,cf_ hlt,ab_ hc,hw,ae_]
     rw [lB_ (bE_ d) aa_.dflt hlt]
     refine ⟨fun _=>⟨trivial,fun hg => ?_,fun hg => ?_⟩,fun h=>(by cases h)⟩
     · have:=of_decide_eq_true hg;omega
     · have:=of_decide_eq_false hg
       rw [show s+(bE_ d (j.list.getD i aa_.dflt)+er_ (bE_ d) (j.list.drop (i+1)))=(s+bE_ d (j.list.getD i aa_.dflt))+er_ (bE_ d) (j.list.drop (i+1)) by omega]
       exact ih (i+1) _ (by omega) (by omega)
   have:=key j.list.length 0 1 (by omega) (by omega)
   rw [List.drop_zero] at this
   exact dg_ (f:=fun n N=>bI_.loop7 n (bI_ n) (fun xy3=>some xy3) N ((d+1:Nat):Int) 1 j.list (j.list.length:Int) 0) this
def cG_ (j:aa_):Bool:=decide (bE_ 6 j≤400)
theorem eA_ {j:aa_} (h:ft_ 6 j):Ev (fun n _=>c7_ n j) (cG_ j):=by
 refine ap_ ?_
 have e:Ev (fun n _=>bI_ n j 6) (bE_ 6 j:Int):=iT_ 6 j (by omega) h
 simp only [c7_,aS_,ab_ e,ae_,cG_]
 by_cases hq:bE_ 6 j≤400
 · rw [decide_eq_true hq,decide_eq_true (by omega)]
 · rw [decide_eq_false hq,decide_eq_false (by omega)]
end Go.Pi
end
section
namespace Go.Pi
def Great (d:Nat) (j:aa_):Prop:=∃ v:Nat,v≤401+401*d∧min 401 v=bE_ d j∧Ev (fun n _=>aR_ n j (d:Int)) (v:Int)
theorem s1_ {d:Nat} {l:List aa_} (hd:d≤1000) (ht:l.length≤b6_) (ih:∀ x ∈ l,Great d x) (kd nn:Int) (s:Bs) (ns:List Bs) :
  ∃ w:Nat,w≤401+401*(d+1)∧min 401 w=min 401 (1+er_ (bE_ d) l)∧∀ (K:Nat→aR_.K23_1) (F:Int),Ev (fun n N=>K n 401 (w:Int) kd nn s l ns) F→Ev (fun n _=>aR_.loop23 n (aR_ n) (K n) n ((d+1:Nat):Int) 401 1 0 kd nn s l ns) F:=by
 have hW:W (((d+1:Nat):Int) - 1)=(d:Int):=by rw [W_id (by omega) (by omega)];omega
 have key:∀ (k i:Nat) (m:Nat),k+i=l.length→m≤401+401*(d+1)→∃ w:Nat,w≤401+401*(d+1)∧min 401 w=min 401 (m+er_ (bE_ d) (l.drop i))∧∀ (K:Nat→aR_.K23_1) (F:Int),Ev (fun n N=>K n 401 (w:Int) kd nn s l ns) F →
   Ev (fun n N=>aR_.loop23 n (aR_ n) (K n) N ((d+1:Nat):Int) 401 (m:Int) (i:Int) kd nn s l ns) F:=by
  intro k
  induction k with
  |zero=>
   intro i m hi hm
   have:i=l.length:=by omega
   subst this
   refine ⟨m,hm,by simp [er_],fun K F hF=>bF_ ?_⟩
   simp only [aR_.turn23,aR_.step23,cn_,cond_false]
   exact hF
  |succ k ihk=>
   intro i m hi hm
   have hlt:i<l.length:=by omega
   by_cases hg:m≤400
   · obtain ⟨v,hv1,hv2,hv3⟩:=ih _ (bX_ aa_.dflt hlt)
     have hw:W ((m:Int)+(v:Int))=((m+v:Nat):Int):=by rw [W_id (by omega) (by omega)];omega
     obtain ⟨w,a1,a2,a3⟩:=ihk (i+1) (m+v) (by omega) (by omega)
     refine ⟨w,a1,?_,fun K F hF=>bF_ ?_⟩
     · rw [a2,lB_ (bE_ d) aa_.dflt hlt,←hv2];omega
     · simp only [aR_.turn23,aR_.step23,aS_,Int.toNat_natCast,hW,W_up hlt ht,am_,bb_,cC_ hlt,cf_ hlt,ab_ hv3,hw]
       exact ⟨fun _=>⟨fun _=>⟨trivial,a3 K F hF⟩,fun h=>by have:=of_decide_eq_false h;omega⟩,fun h=>(by cases h)⟩
   · refine ⟨m,hm,by omega,fun K F hF=>bF_ ?_⟩
     simp only [aR_.turn23,aR_.step23,Int.toNat_natCast,am_,cC_ hlt]
     exact ⟨fun _=>⟨fun h=>by have:=of_decide_eq_true h;omega,fun _=>hF⟩,fun h=>(by cases h)⟩
 obtain ⟨w,a1,a2,a3⟩:=key l.length 0 1 (by omega) (by omega)
 rw [List.drop_zero] at a2
 exact ⟨w,a1,a2,fun K F hF=>dg_ (f:=fun n N=>aR_.loop23 n (aR_ n) (K n) N ((d+1:Nat):Int) 401 1 0 kd nn s l ns) (a3 K F hF)⟩
theorem dE_ (j:aa_):aa_.mk j.kind j.n_ j.s j.list j.names=j:=by cases j;rfl
theorem hU_:∀ (d:Nat) (j:aa_),d≤1000→ft_ d j→Great d j
 |0,j,_,_=>by
  refine ⟨401,by omega,rfl,ap_ ?_⟩
  simp only [aR_,am_,ae_]
  exact ⟨fun _=>rfl,fun h=>by simp at h⟩
 |d+1,j,hd,h=>by
  obtain ⟨w,w1,w2,w3⟩:=s1_ (d:=d) (l:=j.list) (by omega) h.2.1 (fun x hx=>hU_ d x (by omega) (h.2.2 x hx)) j.kind j.n_ j.s j.names
  have hz:((((d+1:Nat):Int)) == 0)=false:=by simp;omega
  have hN:=lH_ (j:=j) h.1.2
  obtain ⟨v,hv⟩:∃ v:Nat,v=cond (FOwn j) (cond ((j.kind == 4)||(j.kind == 5)) w 1) 401:=⟨_,rfl⟩
  refine ⟨v,?_,?_,ap_ ?_⟩
  · rw [hv];cases FOwn j<;>cases ((j.kind == 4)||(j.kind == 5))<;>simp only [cond_true,cond_false]<;>omega
  · rw [hv]
    simp only [bE_]
    cases ho:FOwn j with
    |false=>rfl
    |true=>
     cases hk:((j.kind == 4)||(j.kind == 5)) with
     |true=>simp only [cond_true];exact w2
     |false=>
      have:j.list=[]:=by
       unfold FOwn at ho
       rw [hk,Bool.or_false] at ho
       simp only [Bool.and_eq_true,decide_eq_true_eq] at ho
       exact List.eq_nil_of_length_eq_zero ho.1
      rw [this];rfl
  · have hT:=gT_ (s:=j.s) h.1.1
    have e1:=os_ j.list
    have e2:=os_ j.names
    have e4:((j.names.length:Int) == 0) = !decide ((j.names.length:Int) > 0):=by
     by_cases hz:j.names.length=0
     · rw [hz];rfl
     · rw [beq_eq_false_iff_ne.2 (show (j.names.length:Int)≠0 by omega),decide_eq_true (show (j.names.length:Int) > 0 by omega)];rfl
    subst hv
    unfold FOwn FOwnK
    unfold rl_ at hN
    rw [e1,e2]
    rw [e4] at hN
    simp only [aR_,aS_,hz,cond_false,am_,fQ_,ab_ hT,ab_ hN,ae_,bne]
    rcases ml_ j.kind with hk|hk|hk|hk|hk|hk|⟨k0,k1,k2,k3,k4,k5⟩
    case inr.inr.inr.inr.inl=>
     have hj:aa_.mk 4 j.n_ j.s j.list j.names=j:=by rw [←hk];exact dE_ j
     rw [hk] at w3
     simp only [hk,Int.reduceBEq,Int.reduceLT,Int.reduceLE,Int.reduceNeg,ge_iff_le,gt_iff_lt,decide_true,decide_false,Bool.not_false,Bool.not_true,Bool.or_true,Bool.true_or,Bool.or_false,Bool.false_or,Bool.and_true,Bool.true_and,Bool.not_not,forall_const,reduceCtorEq,false_implies,true_and,and_true,implies_true,cond_true,cond_false] at hN ⊢
     refine w3 _ _ ?_
     simp only [hj,am_,ab_ hN,ae_,Int.reduceBEq,Int.reduceLT,Int.reduceLE,Int.reduceNeg,ge_iff_le,gt_iff_lt,decide_true,decide_false,Bool.not_false,Bool.not_true,Bool.or_true,Bool.true_or,Bool.or_false,Bool.false_or,Bool.and_true,Bool.true_and,Bool.not_not,forall_const,reduceCtorEq,false_implies,true_and,and_true,implies_true,cond_true,cond_false]
     clear hN w3 hT e1 e2 e4 hj
     generalize decide (0<(j.names.length:Int))=b
     generalize (j.s == [])=c
     generalize hd:(j.n_ == 0)=dd
     cases b<;>cases c<;>cases dd<;>simp
    case inr.inr.inr.inr.inr.inl=>
     have hj:aa_.mk 5 j.n_ j.s j.list j.names=j:=by rw [←hk];exact dE_ j
     rw [hk] at w3
     simp only [hk,Int.reduceBEq,Int.reduceLT,Int.reduceLE,Int.reduceNeg,ge_iff_le,gt_iff_lt,decide_true,decide_false,Bool.not_false,Bool.not_true,Bool.or_true,Bool.true_or,Bool.or_false,Bool.false_or,Bool.and_true,Bool.true_and,Bool.not_not,forall_const,reduceCtorEq,false_implies,true_and,and_true,implies_true,cond_true,cond_false] at hN ⊢
     refine w3 _ _ ?_
     simp only [hj,am_,ab_ hN,ae_,Int.reduceBEq,Int.reduceLT,Int.reduceLE,Int.reduceNeg,ge_iff_le,gt_iff_lt,decide_true,decide_false,Bool.not_false,Bool.not_true,Bool.or_true,Bool.true_or,Bool.or_false,Bool.false_or,Bool.and_true,Bool.true_and,Bool.not_not,forall_const,reduceCtorEq,false_implies,true_and,and_true,implies_true,cond_true,cond_false]
     clear hN w3 hT e1 e2 e4 hj
     generalize k2_ j.names=fn
     generalize ((j.names.length:Int) == (j.list.length:Int))=eq
     generalize (j.s == [])=c
     generalize hd:(j.n_ == 0)=dd
     cases fn<;>cases eq<;>cases c<;>cases dd<;>simp
    case inr.inr.inr.inr.inr.inr=>
     simp only [beq_eq_false_iff_ne.2 k0,beq_eq_false_iff_ne.2 k1,beq_eq_false_iff_ne.2 k2,beq_eq_false_iff_ne.2 k3,beq_eq_false_iff_ne.2 k4,beq_eq_false_iff_ne.2 k5,Int.reduceBEq,Int.reduceLT,Int.reduceLE,Int.reduceNeg,ge_iff_le,gt_iff_lt,decide_true,decide_false,Bool.not_false,Bool.not_true,Bool.or_true,Bool.true_or,Bool.or_false,Bool.false_or,Bool.and_true,Bool.true_and,Bool.not_not,forall_const,reduceCtorEq,false_implies,true_and,and_true,implies_true,cond_true,cond_false,Bool.and_false,Bool.false_and]
     rfl
    all_goals (
     simp only [hk,Int.reduceBEq,Int.reduceLT,Int.reduceLE,Int.reduceNeg,ge_iff_le,gt_iff_lt,decide_true,decide_false,Bool.not_false,Bool.not_true,Bool.or_true,Bool.true_or,Bool.or_false,Bool.false_or,Bool.and_true,Bool.true_and,Bool.not_not,forall_const,reduceCtorEq,false_implies,true_and,and_true,implies_true,cond_true,cond_false]
     clear hN w3 hT e1 e2 e4
     generalize decide (0<(j.names.length:Int))=b
     generalize decide (0<(j.list.length:Int))=a
     generalize (j.s == [])=c
     generalize hd:(j.n_ == 0)=dd
     generalize inn j.n_ 0 1=i1
     generalize inn j.n_ (-1000000000) 1000000000=i2
     generalize jk_ j.s=ft
     cases a<;>cases b<;>cases c<;>cases dd<;>cases i1<;>cases i2<;>cases ft<;>simp)
theorem da_ {j:aa_} (h:ft_ 6 j):Ev (fun n _=>cL_ n j) (cG_ j):=by
 refine ap_ ?_
 obtain ⟨v,v1,v2,v3⟩:=hU_ 6 j (by omega) h
 have e:Ev (fun n _=>aR_ n j 6) (v:Int):=v3
 simp only [cL_,aS_,ab_ e,ae_,cG_]
 by_cases hq:bE_ 6 j≤400
 · rw [decide_eq_true hq,decide_eq_true (by omega)]
 · rw [decide_eq_false hq,decide_eq_false (by omega)]
end Go.Pi
end
section
namespace Go.Pi
def digs (u:Nat):Bs:=if u=0 then [] else Lib.decDigits u
theorem digs_step {u:Nat} (h:u≠0):digs u=digs (u / 10)++[UInt8.ofNat (48+u % 10)]:=by
 unfold digs
 rw [if_neg h,Lib.decDigits]
 by_cases h1:u<10
 · rw [dif_pos h1,if_pos (by omega),Nat.mod_eq_of_lt h1];rfl
 · rw [dif_neg h1,if_neg (by omega)]
theorem sh_ {d:Nat} (h:d<10):iv_ ([(IntKind.u8.wrap (W (48+(d:Int))))]:List Int)=[UInt8.ofNat (48+d)]:=by
 have e1:W (48+(d:Int))=((48+d:Nat):Int):=by rw [W_id (by omega) (by omega)];omega
 rw [e1]
 have e2:IntKind.u8.wrap (((48+d:Nat):Int))=((48+d:Nat):Int):=by
  have:d=0∨d=1∨d=2∨d=3∨d=4∨d=5∨d=6∨d=7∨d=8∨d=9:=by omega
  rcases this with rfl|rfl|rfl|rfl|rfl|rfl|rfl|rfl|rfl|rfl<;>rfl
 rw [e2]
 rfl
theorem cO_ {x:Int} (h0 : -9223372036854775808≤x) (h1:x≤9223372036854775807):Ev (fun n _=>aK_ n x) (Lib.itoa x):=by
 refine ap_ ?_
 simp only [aK_,am_,ae_]
 refine ⟨fun h => ?_,fun h => ?_⟩
 · have:x=0:=by simpa using h
   subst this
   unfold Lib.itoa
   rw [if_neg (by decide)]
   show _=Lib.decDigits 0
   rw [Lib.decDigits_one (by decide)];rfl
 have hx0:x≠0:=by simpa using h
 have key:∀ (k:Nat) (y:Int) (out:Bs),y.natAbs<10 ^ k → -9223372036854775808≤y→y≤9223372036854775807→out.length+k≤100 →
   Ev (fun n N=>aK_.loop7 n (fun xy3 xy4=>(cond xy3 (cond (decide ([45].length+xy4.length≤9223372036854775807)) (some (([45]:Bs)++xy4)) none) (some xy4))) N y (decide (x<0)) out) (cond (decide (x<0)) ([45]++(digs y.natAbs++out)) (digs y.natAbs++out)):=by
  intro k
  induction k with
  |zero=>
   intro y out hy _ _ ho
   have:y=0:=by simp at hy;omega
   subst this
   refine bF_ ?_
   simp only [aK_.turn7,aK_.step7,bne_self_eq_false,cond_false,am_,ae_,dA_]
   refine ⟨fun hb=>⟨fun _=>by rw [hb];rfl,fun hc=>by have:=of_decide_eq_false hc;simp at this;omega⟩,fun hb=>by rw [hb];rfl⟩
  |succ k ih=>
   intro y out hy hy0 hy1 ho
   by_cases hz:y=0
   · subst hz
     refine bF_ ?_
     simp only [aK_.turn7,aK_.step7,bne_self_eq_false,cond_false,am_,ae_,dA_]
     refine ⟨fun hb=>⟨fun _=>by rw [hb];rfl,fun hc=>by have:=of_decide_eq_false hc;simp at this;omega⟩,fun hb=>by rw [hb];rfl⟩
   · have hm:(Int.tmod y 10).natAbs=y.natAbs % 10:=by rw [Int.natAbs_tmod];rfl
     have hd:(Int.tdiv y 10).natAbs=y.natAbs / 10:=by rw [Int.natAbs_tdiv];rfl
     have hW:W (Int.tdiv y 10)=Int.tdiv y 10:=W_id (by omega) (by omega)
     have hlt:y.natAbs % 10<10:=Nat.mod_lt _ (by decide)
     have hdl:(Int.tdiv y 10).natAbs<10 ^ k:=by rw [hd];rw [Nat.pow_succ] at hy;omega
     have hrec:=ih (Int.tdiv y 10) ([UInt8.ofNat (48+y.natAbs % 10)]++out) hdl (by omega) (by omega) (by simp;omega)
     have hdig:digs (Int.tdiv y 10).natAbs++([UInt8.ofNat (48+y.natAbs % 10)]++out)=digs y.natAbs++out:=by rw [hd,digs_step (show y.natAbs≠0 by omega),List.append_assoc]
     rw [hdig] at hrec
     have hne:(y != 0)=true:=by simpa using hz
     refine bF_ ?_
     simp only [aK_.turn7,aK_.step7,hne,cond_true,am_,dA_,hW]
     refine ⟨fun hneg => ?_,fun hneg => ?_⟩
     · have hneg:=of_decide_eq_true hneg
       have e:W (0 - Int.tmod y 10)=((y.natAbs % 10:Nat):Int):=by rw [W_id (by omega) (by omega)];omega
       rw [e,sh_ hlt]
       exact ⟨fun _=>hrec,fun hc=>by have:=of_decide_eq_false hc;simp at this;omega⟩
     · have hneg:=of_decide_eq_false hneg
       have e:Int.tmod y 10=((y.natAbs % 10:Nat):Int):=by omega
       rw [e,sh_ hlt]
       exact ⟨fun _=>hrec,fun hc=>by have:=of_decide_eq_false hc;simp at this;omega⟩
 have hfin:=key 19 x [] (by omega) h0 h1 (by simp)
 have hv:Lib.itoa x=cond (decide (x<0)) ([45]++(digs x.natAbs++[])) (digs x.natAbs++[]):=by
  unfold Lib.itoa digs
  rw [if_neg (show x.natAbs≠0 by omega)]
  by_cases hn:x<0
  · rw [if_pos hn,decide_eq_true hn];simp
  · rw [if_neg hn,decide_eq_false hn,cond_false,List.append_nil,show x.toNat=x.natAbs by omega]
 rw [hv]
 exact dg_ hfin
theorem Itoa_ev {x:Int} (h0 : -9223372036854775808≤x) (h1:x≤9223372036854775807):Ev (fun n _=>strconv_Itoa n x) (Lib.itoa x) :=
 ap_ (by simp only [strconv_Itoa,nItoa,am_,ae_,dA_];exact ⟨fun _=>trivial,fun h=>by simp at h;omega⟩)
end Go.Pi
end
section
namespace Go.Pi
theorem join_snoc (x sep:Bs):∀ l:List Bs,Lib.join (l++[x]) sep=if l=[] then x else Lib.join l sep++sep++x
 |[]=>by rw [if_pos rfl];exact Lib.join_one x sep
 |y::l=>by
  rw [if_neg (by simp),List.cons_append,Lib.join_cons,Lib.join_cons]
  simp [Lib.joinTail]
theorem gC_ {α:Type} (f:α→Nat):∀ a b:List α,er_ f (a++b)=er_ f a+er_ f b
 |[],b=>by simp [er_]
 |x::a,b=>by simp only [List.cons_append,er_,gC_ f a b];omega
theorem rA_ {α:Type} (f:α→Nat) (h:∀ x,1≤f x):∀ a:List α,a.length≤er_ f a
 |[]=>Nat.le_refl _
 |x::a=>by have:=rA_ f h a;have:=h x;simp only [er_,List.length_cons];omega
theorem qn_:∀ (d:Nat) (j:aa_),1≤bE_ d j
 |0,_=>by simp only [bE_];omega
 |d+1,j=>by
  simp only [bE_]
  cases FOwn j<;>simp only [cond_true,cond_false]<;>omega
theorem io_ {s:Bs} (h:jk_ s=true):s.length≤60:=by
 unfold jk_ at h
 rw [Bool.and_eq_true] at h
 have:=of_decide_eq_true h.2;omega
theorem iJ_ {l:List Bs} (h:k2_ l=true) {i:Nat} (hi:i<l.length):(l.getD i []).length≤60:=by
 have:=e8_.1 h i hi
 rw [Bool.and_eq_true] at this
 exact io_ this.1
structure Own (j:aa_):Prop where
 kind:j.kind=0∨j.kind=1∨j.kind=2∨j.kind=3∨j.kind=4∨j.kind=5
 list:j.kind≠4→j.kind≠5→j.list=[]
 bool:j.kind=1→0≤j.n_∧j.n_≤1
 num:j.kind=2 → -1000000000≤j.n_∧j.n_≤1000000000
 text:j.kind=3→j.s.length≤60
 obj:j.kind=5→j.names.length=j.list.length∧k2_ j.names=true
theorem FOwn_own {j:aa_} (h:FOwn j=true):Own j:=by
 unfold FOwn FOwnK at h
 simp only [Bool.and_eq_true,Bool.or_eq_true] at h
 obtain ⟨h1,h2,h3,h4,h5⟩:=h
 refine ⟨?_,fun k4 k5 => ?_,fun hk => ?_,fun hk => ?_,fun hk => ?_,fun hk => ?_⟩
 · rcases ml_ j.kind with hk|hk|hk|hk|hk|hk|⟨k0,k1,k2,k3,k4,k5⟩
   · exact .inl hk
   · exact .inr (.inl hk)
   · exact .inr (.inr (.inl hk))
   · exact .inr (.inr (.inr (.inl hk)))
   · exact .inr (.inr (.inr (.inr (.inl hk))))
   · exact .inr (.inr (.inr (.inr (.inr hk))))
   · simp only [beq_eq_false_iff_ne.2 k0,beq_eq_false_iff_ne.2 k1,beq_eq_false_iff_ne.2 k2,beq_eq_false_iff_ne.2 k3,beq_eq_false_iff_ne.2 k4,beq_eq_false_iff_ne.2 k5,cond_false,Bool.or_false] at h5
     cases h5
 · rcases h1 with h1|h1|h1
   · exact List.eq_nil_of_length_eq_zero (of_decide_eq_true h1)
   · exact absurd (by simpa using h1) k4
   · exact absurd (by simpa using h1) k5
 · simp only [hk,Int.reduceBEq,cond_true,cond_false] at h5;exact gK_ h5
 · simp only [hk,Int.reduceBEq,cond_true,cond_false] at h5;exact gK_ h5
 · simp only [hk,Int.reduceBEq,cond_true,cond_false] at h5;exact io_ h5
 · simp only [hk,Int.reduceBEq,cond_true,cond_false,Bool.and_eq_true] at h5
   exact ⟨by have:=h5.1;simp at this;omega,h5.2⟩
def dD_ (enc:aa_→Bs) (j:aa_) (i:Nat):Bs:=cond (j.kind == 5) (dn_ (j.names.getD i [])++([58]++enc (j.list.getD i aa_.dflt))) (enc (j.list.getD i aa_.dflt))
def ef_ (enc:aa_→Bs) (j:aa_) (m:Nat):Bs:=Lib.join ((List.range m).map (dD_ enc j)) [44]
def FEnc:Nat→aa_→Bs
 |0,_=>[]
 |d+1,j=>cond (j.kind == 0) [110,117,108,108] (cond (j.kind == 1) (cond (j.n_ == 1) [116,114,117,101] [102,97,108,115,101]) (cond (j.kind == 2) (Lib.itoa j.n_) (cond (j.kind == 3) (dn_ j.s)
   (cond (j.kind == 5) ([123]++ef_ (FEnc d) j j.list.length++[125]) ([91]++ef_ (FEnc d) j j.list.length++[93])))))
theorem nW_ (enc:aa_→Bs) (j:aa_):ef_ enc j 0=[]:=rfl
theorem is_ (enc:aa_→Bs) (j:aa_):ef_ enc j 1=dD_ enc j 0:=Lib.join_one _ _
theorem hd_ (enc:aa_→Bs) (j:aa_) {m:Nat} (h:0<m):ef_ enc j (m+1)=ef_ enc j m++[44]++dD_ enc j m:=by
 unfold ef_
 rw [List.range_succ,List.map_append,List.map_cons,List.map_nil,join_snoc,if_neg]
 intro e
 have:=congrArg List.length e
 simp at this;omega
theorem dY_ {d:Nat} {j:aa_} (h:bE_ (d+1) j≤400):Own j∧bE_ (d+1) j=1+er_ (bE_ d) j.list:=by
 simp only [bE_] at h ⊢
 cases ho:FOwn j with
 |false=>rw [ho,cond_false] at h;omega
 |true=>
  rw [ho,cond_true] at h
  exact ⟨FOwn_own ho,by rw [cond_true];omega⟩
theorem enc_len:∀ (d:Nat) (j:aa_),bE_ d j≤400→(FEnc d j).length+150≤300*bE_ d j
 |0,j,h=>by simp only [bE_] at h;omega
 |d+1,j,h=>by
  obtain ⟨ho,hs⟩:=dY_ h
  have hJ:∀ m,m≤j.list.length→(ef_ (FEnc d) j m).length≤300*er_ (bE_ d) (j.list.take m):=by
   intro m
   induction m with
   |zero=>intro _;exact Nat.zero_le _
   |succ m ih=>
    intro hm
    have hi:m<j.list.length:=by omega
    have h1:=ih (by omega)
    have h2:=i1_ (bE_ d) (bX_ aa_.dflt hi)
    have h3:=enc_len d (j.list.getD m aa_.dflt) (by omega)
    have h4:(dD_ (FEnc d) j m).length≤123+(FEnc d (j.list.getD m aa_.dflt)).length:=by
     unfold dD_
     cases hk:(j.kind == 5) with
     |false=>rw [cond_false];omega
     |true=>
      obtain ⟨e1,e2⟩:=ho.obj (by simpa using hk)
      have:=iJ_ e2 (i:=m) (by omega)
      have:=gg_ (j.names.getD m [])
      rw [cond_true];simp only [List.length_append,List.length_cons,List.length_nil];omega
    rw [cB_ aa_.dflt hi,gC_]
    simp only [er_,Nat.mul_add]
    by_cases h0:m=0
    · subst h0;rw [is_];omega
    · rw [hd_ _ _ (by omega)];simp only [List.length_append,List.length_cons,List.length_nil];omega
  have hL:=hJ j.list.length (Nat.le_refl _)
  rw [List.take_length] at hL
  rw [hs]
  rcases ho.kind with hk|hk|hk|hk|hk|hk
  · simp only [FEnc,hk,Int.reduceBEq,cond_true,cond_false,List.length_cons,List.length_nil];omega
  · simp only [FEnc,hk,Int.reduceBEq,cond_true,cond_false]
    cases (j.n_ == 1)<;>simp only [cond_true,cond_false,List.length_cons,List.length_nil]<;>omega
  · have:=ho.num hk
    have:=Lib.itoa_length_le j.n_ (by omega) (by omega)
    simp only [FEnc,hk,Int.reduceBEq,cond_true,cond_false];omega
  · have:=ho.text hk
    have:=gg_ j.s
    simp only [FEnc,hk,Int.reduceBEq,cond_true,cond_false];omega
  · simp only [FEnc,hk,Int.reduceBEq,cond_true,cond_false,List.length_append,List.length_cons,List.length_nil];omega
  · simp only [FEnc,hk,Int.reduceBEq,cond_true,cond_false,List.length_append,List.length_cons,List.length_nil];omega
structure Part (d:Nat) (j:aa_) (i:Nat):Prop where
 size:bE_ d (j.list.getD i aa_.dflt)≤400
 enc:(FEnc d (j.list.getD i aa_.dflt)).length≤120000
 name:j.kind=5→i<j.names.length∧(j.names.getD i []).length≤60
theorem fB_ {d:Nat} {j:aa_} (h:bE_ (d+1) j≤400) {i:Nat} (hi:i<j.list.length):Part d j i:=by
 obtain ⟨ho,hs⟩:=dY_ h
 have h2:=i1_ (bE_ d) (bX_ aa_.dflt hi)
 have h3:=enc_len d (j.list.getD i aa_.dflt) (by omega)
 exact ⟨by omega,by omega,fun hk=>⟨by have:=(ho.obj hk).1;omega,iJ_ (ho.obj hk).2 (by have:=(ho.obj hk).1;omega)⟩⟩
theorem oC_ {d:Nat} {j:aa_} (h:bE_ (d+1) j≤400):∀ m,m≤j.list.length→(ef_ (FEnc d) j m).length≤m*120200:=by
 intro m
 induction m with
 |zero=>intro _;exact Nat.zero_le _
 |succ m ih=>
  intro hm
  have hp:=fB_ h (i:=m) (by omega)
  have h1:=ih (by omega)
  have h4:(dD_ (FEnc d) j m).length≤123+120000:=by
   have:=hp.enc
   unfold dD_
   cases hk:(j.kind == 5) with
   |false=>rw [cond_false];omega
   |true=>
    have:=(hp.name (by simpa using hk)).2
    have:=gg_ (j.names.getD m [])
    rw [cond_true];simp only [List.length_append,List.length_cons,List.length_nil];omega
  by_cases h0:m=0
  · subst h0;rw [is_];omega
  · rw [hd_ _ _ (by omega)];simp only [List.length_append,List.length_cons,List.length_nil];omega
theorem eR_ {d:Nat} {j:aa_} (h:bE_ (d+1) j≤400):j.list.length≤400:=by
 have:=(dY_ h).2
 have:=rA_ (bE_ d) (qn_ d) j.list
 omega
end Go.Pi
end
