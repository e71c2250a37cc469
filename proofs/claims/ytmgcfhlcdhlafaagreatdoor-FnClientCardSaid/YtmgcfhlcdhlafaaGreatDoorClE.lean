/- FnClient: of drawn events that follow each other whoever listens has the last one's version, or is bad; once bad always. No condition. Text 5 of 7. -/
import Derived.Test.YtmgcfhlcdhlafaaGreatDoorClD
import Derived.Shelf.RegionOpenPlain
import Derived.WalkKit
import Derived.Deep.RegionLaw
import Derived.Lib.Walk
import Derived.Lib.SliceRun
import Derived.Laws.CopyRow
import Derived.RowKit
import Derived.Lib.Overlaps
import Derived.Lib.AppendZerosOnto
import Derived.Laws.NewBlocks
import Derived.Laws.Externs
import Derived.Shelf.Strconv.AtoiAll
import Derived.Shelf.Strings.OnBuilder
import Derived.Shelf.Strings.Replace
import Derived.ChangeArms
import Derived.DataReads
import Derived.ChangeOld
import Derived.Test.YtmgcfhlcdhlafaaGreatDoorRows
import Derived.ProofKit
import Derived.OpenShut
import Derived.JoinedOf
import Derived.JoinedAt
import Derived.ChangeVars
import Derived.ChangeMaps5
import Derived.Test.YtmgcfhlcdhlafaaGreatDoorTie
import Derived.Test.YtmgcfhlcdhlafaaGreatDoorCards
import Derived.IntWalk
set_option linter.unusedVariables false
set_option maxRecDepth 100000
set_option linter.unusedSimpArgs false
section
namespace Go.Pi
def ac_.p (m:M):List Pat:=[.sl m .u8,.i .i64,.i .i64]
abbrev ac_.c:Type:=(List Int) × Int × Int × Unit
def ac_.of:ac_.c→ac_:=fun (x0,x1,x2,_)=>⟨x0,x1,x2⟩
def ac_.to (s:ac_):ac_.c:=(s.b,s.i,s.h,())
def aP_.p (m:M):List Pat:=[.sl m .int]
abbrev aP_.c:Type:=(List Int) × Unit
def aP_.of:aP_.c→aP_:=fun (x0,_)=>⟨x0⟩
def aP_.to (s:aP_):aP_.c:=(s.cols,())
def TRow.p (m:M):List Pat:=[.i .i64,.sl m .int]
abbrev TRow.c:Type:=Int × (List Int) × Unit
def TRow.of:TRow.c→TRow:=fun (x0,x1,_)=>⟨x0,x1⟩
def TRow.to (s:TRow):TRow.c:=(s.id_,s.cells,())
def ar_.p (m:M):List Pat:=[.sl m .int,.i .i64,.sl m .s_iRow]
abbrev ar_.c:Type:=(List Int) × Int × (List (List TRow)) × Unit
def ar_.of:ar_.c→ar_:=fun (x0,x1,x2,_)=>⟨⟨x0⟩,x1,x2⟩
def ar_.to (s:ar_):ar_.c:=(s.schema.cols,s.version,s.tables,())
def bJ_.p (m:M):List Pat:=[.i .i64,.i .i64,.i .i64]
abbrev bJ_.c:Type:=Int × Int × Int × Unit
def bJ_.of:bJ_.c→bJ_:=fun (x0,x1,x2,_)=>⟨x0,x1,x2⟩
def bJ_.to (s:bJ_):bJ_.c:=(s.col,s.op,s.v,())
def av_.p (m:M):List Pat:=[.i .i64,.sl m .iCond,.i .i64,.b,.i .i64,.sl m .int,.b,.i .i64,.i .i64]
abbrev av_.c:Type:=Int × (List bJ_) × Int × Bool × Int × (List Int) × Bool × Int × Int × Unit
def av_.of:av_.c→av_:=fun (x0,x1,x2,x3,x4,x5,x6,x7,x8,_)=>⟨x0,x1,x2,x3,x4,x5,x6,x7,x8⟩
def av_.to (s:av_):av_.c:=(s.table,s.where_,s.order,s.down,s.first,s.show_,s.kids,s.kidTable,s.kidCol,())
def TKid.p (m:M):List Pat:=[.i .i64,.i .i64]
abbrev TKid.c:Type:=Int × Int × Unit
def TKid.of:TKid.c→TKid:=fun (x0,x1,_)=>⟨x0,x1⟩
def TKid.to (s:TKid):TKid.c:=(s.id_,s.n_,())
def a8_.p (m:M):List Pat:=[.i .i64,.sl m .iCond,.i .i64,.b,.i .i64,.sl m .int,.b,.i .i64,.i .i64,.sl m .iRow,.sl m .iKid]
abbrev a8_.c:Type:=Int × (List bJ_) × Int × Bool × Int × (List Int) × Bool × Int × Int × (List TRow) × (List TKid) × Unit
def a8_.of:a8_.c→a8_:=fun (x0,x1,x2,x3,x4,x5,x6,x7,x8,x9,x10,_)=>⟨⟨x0,x1,x2,x3,x4,x5,x6,x7,x8⟩,x9,x10⟩
def a8_.to (s:a8_):a8_.c:=(s.q.table,s.q.where_,s.q.order,s.q.down,s.q.first,s.q.show_,s.q.kids,s.q.kidTable,s.q.kidCol,s.rows,s.kids,())
def b3_.p (m:M):List Pat:=[.i .i64,.sl m .iCond,.i .i64,.b,.i .i64,.sl m .int,.b,.i .i64,.i .i64,.sl m .iRow,.sl m .iKid,.i .i64,.i .i64,.sl m .iCond,.i .i64,.b,.i .i64,.sl m .int,.b,.i .i64,.i .i64,.sl m .iRow,.sl m .iKid,.i .i64,.b]
abbrev b3_.c:Type:=Int × (List bJ_) × Int × Bool × Int × (List Int) × Bool × Int × Int × (List TRow) × (List TKid) × Int × Int × (List bJ_) × Int × Bool × Int × (List Int) × Bool × Int × Int × (List TRow) × (List TKid) × Int × Bool × Unit
def b3_.of:b3_.c→b3_:=fun (x0,x1,x2,x3,x4,x5,x6,x7,x8,x9,x10,x11,x12,x13,x14,x15,x16,x17,x18,x19,x20,x21,x22,x23,x24,_)=>⟨⟨⟨x0,x1,x2,x3,x4,x5,x6,x7,x8⟩,x9,x10⟩,x11,⟨⟨x12,x13,x14,x15,x16,x17,x18,x19,x20⟩,x21,x22⟩,x23,x24⟩
def b3_.to (s:b3_):b3_.c:=(s.view.q.table,s.view.q.where_,s.view.q.order,s.view.q.down,s.view.q.first,s.view.q.show_,s.view.q.kids,s.view.q.kidTable,s.view.q.kidCol,s.view.rows,s.view.kids,s.version,s.last.q.table,s.last.q.where_,s.last.q.order,s.last.q.down,s.last.q.first,s.last.q.show_,s.last.q.kids,s.last.q.kidTable,s.last.q.kidCol,s.last.rows,s.last.kids,s.lastVersion,s.began,())
def aa_.p (m:M):List Pat:=[.i .i64,.i .i64,.s,.sl m .iJson,.sl m .str]
abbrev aa_.c:Type:=Int × Int × Bs × (List aa_) × (List Bs) × Unit
def aa_.of:aa_.c→aa_:=fun (x0,x1,x2,x3,x4,_)=>⟨x0,x1,x2,x3,x4⟩
def aa_.to (s:aa_):aa_.c:=(s.kind,s.n_,s.s,s.list,s.names,())
def TOp.p (m:M):List Pat:=[.i .i64,.sl m .str,.i .i64,.i .i64,.s,.sl m .iJson,.sl m .str]
abbrev TOp.c:Type:=Int × (List Bs) × Int × Int × Bs × (List aa_) × (List Bs) × Unit
def TOp.of:TOp.c→TOp:=fun (x0,x1,x2,x3,x4,x5,x6,_)=>⟨x0,x1,⟨x2,x3,x4,x5,x6⟩⟩
def TOp.to (s:TOp):TOp.c:=(s.kind,s.way,s.value.kind,s.value.n_,s.value.s,s.value.list,s.value.names,())
def aE_.p (m:M):List Pat:=[.i .i64,.i .i64,.i .i64,.i .i64,.i .i64,.s,.sl m .iJson,.sl m .str,.sl m .iOp]
abbrev aE_.c:Type:=Int × Int × Int × Int × Int × Bs × (List aa_) × (List Bs) × (List TOp) × Unit
def aE_.of:aE_.c→aE_:=fun (x0,x1,x2,x3,x4,x5,x6,x7,x8,_)=>⟨x0,x1,x2,⟨x3,x4,x5,x6,x7⟩,x8⟩
def aE_.to (s:aE_):aE_.c:=(s.kind,s.version,s.base,s.doc.kind,s.doc.n_,s.doc.s,s.doc.list,s.doc.names,s.ops,())
def TMut.p (m:M):List Pat:=[.i .i64,.i .i64,.i .i64,.sl m .int]
abbrev TMut.c:Type:=Int × Int × Int × (List Int) × Unit
def TMut.of:TMut.c→TMut:=fun (x0,x1,x2,x3,_)=>⟨x0,x1,⟨x2,x3⟩⟩
def TMut.to (s:TMut):TMut.c:=(s.kind,s.table,s.row.id_,s.row.cells,())
def aT_.p (m:M):List Pat:=[.i .i64,.b,.b,.i .i64,.sl m .int,.i .i64,.sl m .int]
abbrev aT_.c:Type:=Int × Bool × Bool × Int × (List Int) × Int × (List Int) × Unit
def aT_.of:aT_.c→aT_:=fun (x0,x1,x2,x3,x4,x5,x6,_)=>⟨x0,x1,x2,⟨x3,x4⟩,⟨x5,x6⟩⟩
def aT_.to (s:aT_):aT_.c:=(s.table,s.had,s.has,s.old.id_,s.old.cells,s.new.id_,s.new.cells,())
def aX_.p (m:M):List Pat:=[.i .i64,.i .i64,.s,.sl m .iJson,.sl m .str,.i .i64,.b,.b]
abbrev aX_.c:Type:=Int × Int × Bs × (List aa_) × (List Bs) × Int × Bool × Bool × Unit
def aX_.of:aX_.c→aX_:=fun (x0,x1,x2,x3,x4,x5,x6,x7,_)=>⟨⟨x0,x1,x2,x3,x4⟩,x5,x6,x7⟩
def aX_.to (s:aX_):aX_.c:=(s.doc.kind,s.doc.n_,s.doc.s,s.doc.list,s.doc.names,s.version,s.began,s.bad,())
def rd0:RD:=⟨Bool,[.b],fun (a0,_)=>a0,fun r=>(r,())⟩
def fz_.e:FE:=mkE rd0 8 6 1 [.sl .v .u8] [.tmp 2] [] [] [] (un1 fz_)
def od0:OD:=⟨[(0,.view .u8),(3,.k),(4,.k)],(ac_.p .v),[.ext]⟩
def od1:OD:=⟨[(0,.view .u8),(3,.k)],[.sl .v .u8,.i .i64],[.ext]⟩
def rd1:RD:=⟨ac_,[.bx (ac_.p .v)],fun (a0,_)=>(ac_.of a0),fun r=>(ac_.to r,())⟩
def bS_.e:FE:=mkE rd1 37 32 1 [.sl .v .u8] [.tmp 2] [] [(4,od0)] [(0,od1)] (un1 bS_)
def rd2:RD:=⟨Int × ac_,[.i .i64,.bx (ac_.p .v)],fun (a0,a1,_)=>(a0,(ac_.of a1)),fun (a0,a1)=>(a0,ac_.to a1,())⟩
def c4_.e:FE:=mkE rd2 84 58 2 [.bx (ac_.p .v)] [.tmp 2] [.pb 1 0] [] [] fun n (a0,_)=>c4_ n (ac_.of a0)
def ag_.e:FE:=mkE rd2 39 37 2 [.bx (ac_.p .v),.i .i64] [.tmp 4] [.pb 1 0] [] [] fun n (a0,a1,_)=>ag_ n (ac_.of a0) a1
def od2:OD:=⟨[(0,.box [.view .u8,.k,.k]),(2,.box [.k]),(3,.box [.own .d .int]),(4,.k)],[.pb 1 0,.pb 2 0,.pb 3 0,.i .i64],[.ext,.box (ac_.p .v),.box [.nils],.box [.rt 4],.arr .d .int 2]⟩
def od3:OD:=⟨[(2,.box [.k]),(3,.box [.own .d .int])],[.pb 2 0,.pb 3 0],[.ext,.box (ac_.p .v),.box [.nils],.box [.rt 4],.arr .d .int 2]⟩
def rd3:RD:=⟨aP_ × ac_,[.ag [.sl .d .int],.bx (ac_.p .v)],fun (a0,a1,_)=>((aP_.of a0),(ac_.of a1)),fun (a0,a1)=>(aP_.to a0,ac_.to a1,())⟩
def aK_.e:FE:=mkE rd3 115 22 2 [.bx (ac_.p .v)] [.cell 2 98] [.pb 1 0] [(4,od2)] [(0,od3)] fun n (a0,_)=>aK_ n (ac_.of a0)
def bN_.e:FE:=mkE rd0 91 15 1 (bJ_.p .v) [.tmp 6] [] [] [] (un3 bN_)
def od4:OD:=⟨[(1,.box [.view .int]),(3,.k)],[.pb 1 0,.i .i64],[.ext,.box [.sl .v .int]]⟩
def od5:OD:=⟨[(1,.box [.view .int])],[.pb 1 0],[.ext,.box [.sl .v .int]]⟩
def aV_.e:FE:=mkE rd0 160 22 1 [.ag [.sl .v .int]] [.tmp 2] [] [(3,od4)] [(0,od5)] fun n (a0,_)=>aV_ n (aP_.of a0)
def rd4:RD:=⟨aP_,[.ag [.sl .d .int]],fun (a0,_)=>(aP_.of a0),fun r=>(aP_.to r,())⟩
def c6_.e:FE:=mkE rd4 161 8 1 [.ag [.sl .v .int]] [.cell 2 98] [] [] [] fun n (a0,_)=>c6_ n (aP_.of a0)
def rd5:RD:=⟨ar_ × Bool,[.ag (ar_.p .d),.b],fun (a0,a1,_)=>((ar_.of a0),a1),fun (a0,a1)=>(ar_.to a0,a1,())⟩
def dl_.e:FE:=mkE rd5 114 15 1 [.ag [.sl .v .int]] [.cell 2 101,.tmp 3] [] [] [] fun n (a0,_)=>dl_ n (aP_.of a0)
def od6:OD:=⟨[(0,.box [.view .u8,.k,.k]),(1,.k),(4,.box [.k,.k]),(5,.box [.k,.own .d .int]),(6,.k)],[.pb 1 0,.i .i64,.pb 2 0,.pb 3 0,.i .i64],[.ext,.box (ac_.p .v),.box [.i .i64,.nils],.box [.i .i64,.rt 4],.arr .d .int 2]⟩
def od7:OD:=⟨[(4,.box [.k,.k]),(5,.box [.k,.own .d .int])],[.pb 2 0,.pb 3 0],[.ext,.box (ac_.p .v),.box [.i .i64,.nils],.box [.i .i64,.rt 4],.arr .d .int 2]⟩
def rd6:RD:=⟨TRow × ac_,[.ag (TRow.p .d),.bx (ac_.p .v)],fun (a0,a1,_)=>((TRow.of a0),(ac_.of a1)),fun (a0,a1)=>(TRow.to a0,ac_.to a1,())⟩
def aZ_.e:FE:=mkE rd6 163 24 2 [.bx (ac_.p .v),.i .i64] [.cell 4 173] [.pb 1 0] [(4,od6)] [(0,od7)] fun n (a0,a1,_)=>aZ_ n (ac_.of a0) a1
def od8:OD:=⟨[(0,.view .iRow),(1,.k),(5,.k)],[.sl .v .iRow,.i .i64,.i .i64],[.ext]⟩
def od9:OD:=⟨[],[],[.ext]⟩
def rd7:RD:=⟨Int,[.i .i64],fun (a0,_)=>a0,fun r=>(r,())⟩
def bW_.e:FE:=mkE rd7 216 20 1 [.sl .v .iRow,.i .i64] [.tmp 4] [] [(3,od8)] [(0,od9)] (un2 bW_)
def rd8:RD:=⟨TRow,[.ag (TRow.p .d)],fun (a0,_)=>(TRow.of a0),fun r=>(TRow.to r,())⟩
def cc_.e:FE:=mkE rd8 217 10 1 [.ag (TRow.p .v)] [.cell 2 173] [] [] [] fun n (a0,_)=>cc_ n (TRow.of a0)
def od10:OD:=⟨[(0,.view .iRow),(5,.k),(6,.own .d .iRow),(7,.k)],[.sl .v .iRow,.i .i64,.rt 1,.i .i64],[.ext,.arr .d .iRow 2]⟩
def od11:OD:=⟨[(6,.own .d .iRow)],[.rt 1],[.ext,.arr .d .iRow 2]⟩
def rd9:RD:=⟨(List TRow),[.sl .d .iRow],fun (a0,_)=>a0,fun r=>(r,())⟩
def a6_.e:FE:=mkE rd9 215 30 1 [.sl .v .iRow,.i .i64] [.tmp 4] [] [(5,od10)] [(0,od11)] (un2 a6_)
def od12:OD:=⟨[(3,.box [.k,.view .int]),(5,.own .d .iRow),(6,.k),(7,.k)],[.pb 1 0,.rt 2,.i .i64,.i .i64],[.ext,.box (TRow.p .v),.arr .d .iRow 2]⟩
def od13:OD:=⟨[(3,.box [.k,.view .int]),(5,.own .d .iRow),(6,.k)],[.pb 1 0,.rt 2,.i .i64],[.ext,.box (TRow.p .v),.arr .d .iRow 2]⟩
def rd10:RD:=⟨(List TRow),[.sl .s .iRow],fun (a0,_)=>a0,fun r=>(r,())⟩
def bs_.e:FE:=mkE rd10 162 55 1 [.sl .v .iRow,.ag (TRow.p .v)] [.tmp 4] [] [(6,od12)] [(0,od13)] fun n (a0,a1,_)=>bs_ n a0 (TRow.of a1)
def od14:OD:=⟨[(0,.box [.view .u8,.k,.k]),(1,.k),(5,.own .s .iRow),(6,.k)],[.pb 1 0,.i .i64,.rt 2,.i .i64],[.ext,.box (ac_.p .v),.arr .s .iRow 2]⟩
def od15:OD:=⟨[(5,.own .s .iRow)],[.rt 2],[.ext,.box (ac_.p .v),.arr .s .iRow 2]⟩
def rd11:RD:=⟨(List TRow) × ac_,[.sl .s .iRow,.bx (ac_.p .v)],fun (a0,a1,_)=>(a0,(ac_.of a1)),fun (a0,a1)=>(a0,ac_.to a1,())⟩
def aU_.e:FE:=mkE rd11 116 20 2 [.bx (ac_.p .v),.i .i64] [.tmp 4] [.pb 1 0] [(4,od14)] [(0,od15)] fun n (a0,a1,_)=>aU_ n (ac_.of a0) a1
def od16:OD:=⟨[(0,.box [.view .u8,.k,.k]),(2,.box [.k,.k,.k]),(3,.box [.own .d .int,.k,.own .s .s_iRow]),(5,.k)],[.pb 1 0,.pb 2 0,.pb 3 0,.i .i64],[.ext,.box (ac_.p .v),.box [.nils,.i .i64,.nils],.box [.rt 4,.i .i64,.rt 5],.arr .d .int 2,.arr .s .s_iRow 2]⟩
def od17:OD:=⟨[(0,.box [.view .u8,.k,.k]),(2,.box [.k,.k,.k]),(3,.box [.own .d .int,.k,.own .s .s_iRow])],[.pb 1 0,.pb 2 0,.pb 3 0],[.ext,.box (ac_.p .v),.box [.nils,.i .i64,.nils],.box [.rt 4,.i .i64,.rt 5],.arr .d .int 2,.arr .s .s_iRow 2]⟩
def rd12:RD:=⟨ar_ × ac_,[.ag [.sl .d .int,.i .i64,.sl .s .s_iRow],.bx (ac_.p .v)],fun (a0,a1,_)=>((ar_.of a0),(ac_.of a1)),fun (a0,a1)=>(ar_.to a0,ac_.to a1,())⟩
def aL_.e:FE:=mkE rd12 74 35 2 [.bx (ac_.p .v)] [.cell 2 101] [.pb 1 0] [(4,od16)] [(0,od17)] fun n (a0,_)=>aL_ n (ac_.of a0)
def cp_.e:FE:=mkE rd7 69 10 1 (TKid.p .v) [.tmp 4] [] [] [] (un2 cp_)
def rd13:RD:=⟨Bool × ac_,[.b,.bx (ac_.p .v)],fun (a0,a1,_)=>(a0,(ac_.of a1)),fun (a0,a1)=>(a0,ac_.to a1,())⟩
def b1_.e:FE:=mkE rd13 71 9 2 [.bx (ac_.p .v),.i .i64] [.tmp 4] [.pb 1 0] [] [] fun n (a0,a1,_)=>b1_ n (ac_.of a0) a1
def bj_.e:FE:=mkE rd2 81 12 2 [.bx (ac_.p .v),.sl .v .int] [.tmp 4] [.pb 1 0] [] [] fun n (a0,a1,_)=>bj_ n (ac_.of a0) a1
def od18:OD:=⟨[(0,.box [.view .u8,.k,.k]),(3,.box [.view .int]),(4,.box [.k,.k,.k,.k,.k,.k,.k,.k,.k]),(5,.box [.k,.own .d .iCond,.k,.k,.k,.k,.k,.k,.k]),(6,.k),(7,.k)],[.pb 1 0,.pb 2 0,.pb 3 0,.pb 4 0,.i .i64,.i .i64],[.ext,.box (ac_.p .v),.box [.sl .v .int],.box [.i .i64,.nils,.i .i64,.b,.i .i64,.nils,.b,.i .i64,.i .i64],.box [.i .i64,.rt 5,.i .i64,.b,.i .i64,.nils,.b,.i .i64,.i .i64],.arr .d .iCond 2]⟩
def od19:OD:=⟨[(0,.box [.view .u8,.k,.k]),(3,.box [.view .int]),(4,.box [.k,.k,.k,.k,.k,.k,.k,.k,.k]),(5,.box [.k,.own .d .iCond,.k,.k,.k,.own .d .int,.k,.k,.k]),(6,.k),(8,.k)],[.pb 1 0,.pb 2 0,.pb 3 0,.pb 4 0,.i .i64,.i .i64],[.ext,.box (ac_.p .v),.box [.sl .v .int],.box [.i .i64,.nils,.i .i64,.b,.i .i64,.nils,.b,.i .i64,.i .i64],.box [.i .i64,.rt 5,.i .i64,.b,.i .i64,.rt 6,.b,.i .i64,.i .i64],.arr .d .iCond 2,.arr .d .int 2]⟩
def od20:OD:=⟨[(0,.box [.view .u8,.k,.k]),(3,.box [.view .int]),(4,.box [.k,.k,.k,.k,.k,.k,.k,.k,.k]),(5,.box [.k,.own .d .iCond,.k,.k,.k,.k,.k,.k,.k]),(6,.k)],[.pb 1 0,.pb 2 0,.pb 3 0,.pb 4 0,.i .i64],[.ext,.box (ac_.p .v),.box [.sl .v .int],.box [.i .i64,.nils,.i .i64,.b,.i .i64,.nils,.b,.i .i64,.i .i64],.box [.i .i64,.rt 5,.i .i64,.b,.i .i64,.nils,.b,.i .i64,.i .i64],.arr .d .iCond 2]⟩
def od21:OD:=⟨[(0,.box [.view .u8,.k,.k]),(3,.box [.view .int]),(4,.box [.k,.k,.k,.k,.k,.k,.k,.k,.k]),(5,.box [.k,.own .d .iCond,.k,.k,.k,.own .d .int,.k,.k,.k])],[.pb 1 0,.pb 2 0,.pb 3 0,.pb 4 0],[.ext,.box (ac_.p .v),.box [.sl .v .int],.box [.i .i64,.nils,.i .i64,.b,.i .i64,.nils,.b,.i .i64,.i .i64],.box [.i .i64,.rt 5,.i .i64,.b,.i .i64,.rt 6,.b,.i .i64,.i .i64],.arr .d .iCond 2,.arr .d .int 2]⟩
def rd14:RD:=⟨av_ × ac_,[.ag (av_.p .d),.bx (ac_.p .v)],fun (a0,a1,_)=>((av_.of a0),(ac_.of a1)),fun (a0,a1)=>(av_.to a0,ac_.to a1,())⟩
def aj_.e:FE:=mkE rd14 76 106 2 [.bx (ac_.p .v),.ag [.sl .v .int]] [.cell 4 105] [.pb 1 0] [(7,od18),(16,od19)] [(0,od20),(2,od21)] fun n (a0,a1,_)=>aj_ n (ac_.of a0) (aP_.of a1)
def od22:OD:=⟨[(5,.box [.k,.view .int]),(7,.k)],[.pb 1 0,.i .i64],[.ext,.box (TRow.p .v)]⟩
def bZ_.e:FE:=mkE rd0 230 51 1 [.ag [.sl .v .int],.i .i64,.ag (TRow.p .v)] [.tmp 6] [] [(6,od22)] [(0,od9)] fun n (a0,a1,a2,_)=>bZ_ n (aP_.of a0) a1 (TRow.of a2)
def od23:OD:=⟨[(1,.k),(2,.view .iRow),(3,.box [.view .int]),(7,.k)],[.i .i64,.sl .v .iRow,.pb 1 0,.i .i64],[.ext,.box [.sl .v .int]]⟩
def od24:OD:=⟨[(1,.k),(2,.view .iRow),(3,.box [.view .int])],[.i .i64,.sl .v .iRow,.pb 1 0],[.ext,.box [.sl .v .int]]⟩
def bM_.e:FE:=mkE rd0 177 55 1 [.ag [.sl .v .int],.i .i64,.sl .v .iRow] [.tmp 6] [] [(3,od23)] [(0,od24)] fun n (a0,a1,a2,_)=>bM_ n (aP_.of a0) a1 a2
def od25:OD:=⟨[(1,.box [.view .int,.k,.view .s_iRow]),(3,.k)],[.pb 1 0,.i .i64],[.ext,.box (ar_.p .v)]⟩
def bp_.e:FE:=mkE rd0 124 41 1 [.ag (ar_.p .v)] [.tmp 2] [] [(6,od25)] [(0,od9)] fun n (a0,_)=>bp_ n (ar_.of a0)
def od26:OD:=⟨[(2,.box [.view .int]),(3,.box [.k,.view .iCond,.k,.k,.k,.view .int,.k,.k,.k]),(5,.k),(6,.k)],[.pb 1 0,.pb 2 0,.i .i64,.i .i64],[.ext,.box [.sl .v .int],.box (av_.p .v)]⟩
def od27:OD:=⟨[(2,.box [.view .int]),(3,.box [.k,.view .iCond,.k,.k,.k,.view .int,.k,.k,.k]),(5,.k),(8,.k)],[.pb 1 0,.pb 2 0,.i .i64,.i .i64],[.ext,.box [.sl .v .int],.box (av_.p .v)]⟩
def od28:OD:=⟨[(2,.box [.view .int]),(3,.box [.k,.view .iCond,.k,.k,.k,.view .int,.k,.k,.k]),(5,.k)],[.pb 1 0,.pb 2 0,.i .i64],[.ext,.box [.sl .v .int],.box (av_.p .v)]⟩
def az_.e:FE:=mkE rd0 164 148 1 [.ag [.sl .v .int],.ag (av_.p .v)] [.tmp 4] [] [(7,od26),(16,od27)] [(0,od28),(2,od28)] fun n (a0,a1,_)=>az_ n (aP_.of a0) (av_.of a1)
def rd15:RD:=⟨av_,[.ag (av_.p .d)],fun (a0,_)=>(av_.of a0),fun r=>(av_.to r,())⟩
def dT_.e:FE:=mkE rd15 165 14 1 [.ag (av_.p .v)] [.cell 2 105] [] [] [] fun n (a0,_)=>dT_ n (av_.of a0)
def dq_.e:FE:=mkE rd0 255 46 1 [.ag (bJ_.p .v),.ag (TRow.p .v)] [.tmp 4] [] [] [] fun n (a0,a1,_)=>dq_ n (bJ_.of a0) (TRow.of a1)
def od29:OD:=⟨[(2,.box [.k,.view .iCond,.k,.k,.k,.view .int,.k,.k,.k]),(3,.box [.k,.view .int]),(5,.k)],[.pb 1 0,.pb 2 0,.i .i64],[.ext,.box (av_.p .v),.box (TRow.p .v)]⟩
def bA_.e:FE:=mkE rd0 218 21 1 [.ag (av_.p .v),.ag (TRow.p .v)] [.tmp 4] [] [(3,od29)] [(0,od9)] fun n (a0,a1,_)=>bA_ n (av_.of a0) (TRow.of a1)
def bC_.e:FE:=mkE rd7 231 17 1 [.ag (TRow.p .v),.i .i64] [.tmp 4] [] [] [] fun n (a0,a1,_)=>bC_ n (TRow.of a0) a1
def ed_.e:FE:=mkE rd0 256 36 1 [.ag (av_.p .v),.ag (TRow.p .v),.ag (TRow.p .v)] [.tmp 6] [] [] [] fun n (a0,a1,a2,_)=>ed_ n (av_.of a0) (TRow.of a1) (TRow.of a2)
def od30:OD:=⟨[(1,.view .iRow),(3,.box [.k,.view .iCond,.k,.k,.k,.view .int,.k,.k,.k]),(5,.box [.k,.view .int]),(7,.own .s .iRow),(8,.k),(9,.k)],[.sl .v .iRow,.pb 1 0,.pb 2 0,.rt 3,.b,.i .i64],[.ext,.box (av_.p .v),.box (TRow.p .v),.arr .s .iRow 2]⟩
def od31:OD:=⟨[(5,.box [.k,.view .int]),(7,.own .s .iRow),(8,.k)],[.pb 1 0,.rt 2,.b],[.ext,.box (TRow.p .v),.arr .s .iRow 2]⟩
def bE_.e:FE:=mkE rd10 219 48 1 [.ag (av_.p .v),.sl .v .iRow,.ag (TRow.p .v)] [.tmp 6] [] [(5,od30)] [(0,od31)] fun n (a0,a1,a2,_)=>bE_ n (av_.of a0) a1 (TRow.of a2)
def od32:OD:=⟨[(3,.box [.k,.view .iCond,.k,.k,.k,.view .int,.k,.k,.k]),(5,.own .s .iRow),(6,.view .iRow),(7,.k)],[.pb 1 0,.rt 2,.sl .v .iRow,.i .i64],[.ext,.box (av_.p .v),.arr .s .iRow 2]⟩
def od33:OD:=⟨[(5,.own .s .iRow)],[.rt 1],[.ext,.arr .s .iRow 2]⟩
def bv_.e:FE:=mkE rd10 166 46 1 [.ag (ar_.p .v),.ag (av_.p .v)] [.tmp 4] [] [(8,od32)] [(0,od33)] fun n (a0,a1,_)=>bv_ n (ar_.of a0) (av_.of a1)
def od34:OD:=⟨[(0,.view .iKid),(1,.k),(2,.k),(7,.own .d .iKid),(8,.k),(9,.k)],[.sl .v .iKid,.i .i64,.i .i64,.rt 1,.b,.i .i64],[.ext,.arr .d .iKid 2]⟩
def od35:OD:=⟨[(1,.k),(2,.k),(7,.own .d .iKid),(8,.k)],[.i .i64,.i .i64,.rt 1,.b],[.ext,.arr .d .iKid 2]⟩
def rd16:RD:=⟨(List TKid),[.sl .d .iKid],fun (a0,_)=>a0,fun r=>(r,())⟩
def aN_.e:FE:=mkE rd16 167 69 1 [.sl .v .iKid,.i .i64,.i .i64] [.tmp 6] [] [(5,od34)] [(0,od35)] (un3 aN_)
def od36:OD:=⟨[(3,.box [.k,.view .iCond,.k,.k,.k,.view .int,.k,.k,.k]),(4,.box [.k,.k,.k,.k,.k,.k,.k,.k,.k,.k,.k]),(6,.box [.k,.own .d .iCond,.k,.k,.k,.own .d .int,.k,.k,.k,.own .s .iRow,.own .d .iKid]),(7,.view .iRow),(8,.k)],[.pb 1 0,.pb 2 0,.pb 3 0,.sl .v .iRow,.i .i64],[.ext,.box (av_.p .v),.box [.i .i64,.nils,.i .i64,.b,.i .i64,.nils,.b,.i .i64,.i .i64,.nils,.nils],.box [.i .i64,.rt 4,.i .i64,.b,.i .i64,.rt 5,.b,.i .i64,.i .i64,.rt 6,.rt 7],.arr .d .iCond 2,.arr .d .int 2,.arr .s .iRow 2,.arr .d .iKid 2]⟩
def od37:OD:=⟨[(4,.box [.k,.k,.k,.k,.k,.k,.k,.k,.k,.k,.k]),(6,.box [.k,.own .d .iCond,.k,.k,.k,.own .d .int,.k,.k,.k,.own .s .iRow,.own .d .iKid])],[.pb 1 0,.pb 2 0],[.ext,.box [.i .i64,.nils,.i .i64,.b,.i .i64,.nils,.b,.i .i64,.i .i64,.nils,.nils],.box [.i .i64,.rt 3,.i .i64,.b,.i .i64,.rt 4,.b,.i .i64,.i .i64,.rt 5,.rt 6],.arr .d .iCond 2,.arr .d .int 2,.arr .s .iRow 2,.arr .d .iKid 2]⟩
def rd17:RD:=⟨a8_ × Bool,[.ag [.i .i64,.sl .d .iCond,.i .i64,.b,.i .i64,.sl .d .int,.b,.i .i64,.i .i64,.sl .s .iRow,.sl .d .iKid],.b],fun (a0,a1,_)=>((a8_.of a0),a1),fun (a0,a1)=>(a8_.to a0,a1,())⟩
def bL_.e:FE:=mkE rd17 117 56 1 [.ag (ar_.p .v),.ag (av_.p .v)] [.cell 4 109,.tmp 5] [] [(8,od36)] [(0,od37)] fun n (a0,a1,_)=>bL_ n (ar_.of a0) (av_.of a1)
def rd18:RD:=⟨b3_ × Bool,[.ag [.i .i64,.sl .d .iCond,.i .i64,.b,.i .i64,.sl .d .int,.b,.i .i64,.i .i64,.sl .s .iRow,.sl .d .iKid,.i .i64,.i .i64,.sl .d .iCond,.i .i64,.b,.i .i64,.sl .d .int,.b,.i .i64,.i .i64,.sl .d .iRow,.sl .d .iKid,.i .i64,.b],.b],fun (a0,a1,_)=>((b3_.of a0),a1),fun (a0,a1)=>(b3_.to a0,a1,())⟩
def dt_.e:FE:=mkE rd18 75 21 1 [.ag (ar_.p .v),.ag (av_.p .v)] [.cell 4 111,.tmp 5] [] [] [] fun n (a0,a1,_)=>dt_ n (ar_.of a0) (av_.of a1)
def od38:OD:=⟨[(0,.view .iRow),(3,.own .d .iRow),(4,.k)],[.sl .v .iRow,.rt 1,.i .i64],[.ext,.arr .d .iRow 2]⟩
def od39:OD:=⟨[(3,.own .d .iRow)],[.rt 1],[.ext,.arr .d .iRow 2]⟩
def bG_.e:FE:=mkE rd9 176 21 1 [.sl .v .iRow] [.tmp 2] [] [(4,od38)] [(0,od39)] (un1 bG_)
def rd19:RD:=⟨a8_,[.ag (a8_.p .d)],fun (a0,_)=>(a8_.of a0),fun r=>(a8_.to r,())⟩
def cB_.e:FE:=mkE rd19 123 14 1 [.ag (a8_.p .v)] [.cell 2 109] [] [] [] fun n (a0,_)=>cB_ n (a8_.of a0)
def rd20:RD:=⟨b3_,[.ag (b3_.p .d)],fun (a0,_)=>(b3_.of a0),fun r=>(b3_.to r,())⟩
def ds_.e:FE:=mkE rd20 118 16 1 [.ag (b3_.p .v)] [.cell 2 111] [] [] [] fun n (a0,_)=>ds_ n (b3_.of a0)
def od40:OD:=⟨[(1,.k),(2,.box [.k,.view .iCond,.k,.k,.k,.view .int,.k,.k,.k,.view .iRow,.view .iKid]),(5,.k)],[.i .i64,.pb 1 0,.i .i64],[.ext,.box (a8_.p .v)]⟩
def bQ_.e:FE:=mkE rd7 224 27 1 [.ag (a8_.p .v),.i .i64] [.tmp 4] [] [(3,od40)] [(0,od9)] fun n (a0,a1,_)=>bQ_ n (a8_.of a0) a1
def od41:OD:=⟨[(1,.box [.k,.view .iCond,.k,.k,.k,.view .int,.k,.k,.k,.view .iRow,.view .iKid]),(3,.own .d .int),(4,.k)],[.pb 1 0,.rt 2,.i .i64],[.ext,.box (a8_.p .v),.arr .d .int 2]⟩
def od42:OD:=⟨[(3,.own .d .int)],[.rt 1],[.ext,.arr .d .int 2]⟩
def rd21:RD:=⟨(List Int),[.sl .d .int],fun (a0,_)=>a0,fun r=>(r,())⟩
def a2_.e:FE:=mkE rd21 169 25 1 [.ag (a8_.p .v)] [.tmp 2] [] [(4,od41)] [(0,od42)] fun n (a0,_)=>a2_ n (a8_.of a0)
def eu_.e:FE:=mkE rd7 68 10 1 (TKid.p .v) [.tmp 4] [] [] [] (un2 eu_)
def c9_.e:FE:=mkE rd7 220 14 1 [.ag (av_.p .v),.i .i64] [.tmp 4] [] [] [] fun n (a0,a1,_)=>c9_ n (av_.of a0) a1
def od43:OD:=⟨[(0,.k),(3,.k),(4,.k)],[.i .i64,.b,.s],[.ext]⟩
def od44:OD:=⟨[(3,.k),(4,.k)],[.b,.s],[.ext]⟩
def rB_:RD:=⟨Bs,[.s],fun (a0,_)=>a0,fun r=>(r,())⟩
def aQ_.e:FE:=mkE rB_ 51 31 1 [.i .i64] [.tmp 2] [] [(7,od43)] [(0,od44)] (un1 aQ_)
def rd23:RD:=⟨aa_,[.ag (aa_.p .d)],fun (a0,_)=>(aa_.of a0),fun r=>(aa_.to r,())⟩
def cL_.e:FE:=mkE rd23 223 5 1 [.i .i64] [.cell 2 29] [] [] [] (un1 cL_)
def od45:OD:=⟨[(1,.k),(3,.box [.k,.k,.k,.view .iJson,.view .str]),(5,.box [.k,.k,.k,.view .iJson,.view .str]),(6,.box [.k,.k,.k,.k,.k]),(7,.box [.k,.k,.k,.own .s .iJson,.own .d .str]),(8,.k),(9,.k)],[.s,.pb 1 0,.pb 2 0,.pb 3 0,.pb 4 0,.b,.i .i64],[.ext,.box (aa_.p .v),.box (aa_.p .v),.box [.i .i64,.i .i64,.s,.nils,.nils],.box [.i .i64,.i .i64,.s,.rt 5,.rt 6],.arr .s .iJson 2,.arr .d .str 2]⟩
def od46:OD:=⟨[(1,.k),(5,.box [.k,.k,.k,.view .iJson,.view .str]),(6,.box [.k,.k,.k,.k,.k]),(7,.box [.k,.k,.k,.own .s .iJson,.own .d .str]),(8,.k)],[.s,.pb 1 0,.pb 2 0,.pb 3 0,.b],[.ext,.box (aa_.p .v),.box [.i .i64,.i .i64,.s,.nils,.nils],.box [.i .i64,.i .i64,.s,.rt 4,.rt 5],.arr .s .iJson 2,.arr .d .str 2]⟩
def rd24:RD:=⟨aa_,[.ag [.i .i64,.i .i64,.s,.sl .s .iJson,.sl .d .str]],fun (a0,_)=>(aa_.of a0),fun r=>(aa_.to r,())⟩
def br_.e:FE:=mkE rd24 87 83 1 [.ag (aa_.p .v),.s,.ag (aa_.p .v)] [.cell 6 29] [] [(5,od45)] [(0,od46)] fun n (a0,a1,a2,_)=>br_ n (aa_.of a0) a1 (aa_.of a2)
def od47:OD:=⟨[(2,.k),(3,.box [.k,.view .iCond,.k,.k,.k,.view .int,.k,.k,.k]),(4,.box [.k,.view .int]),(6,.box [.k,.k,.k,.k,.k]),(7,.box [.k,.k,.k,.own .s .iJson,.own .d .str]),(8,.k)],[.i .i64,.pb 1 0,.pb 2 0,.pb 3 0,.pb 4 0,.i .i64],[.ext,.box (av_.p .v),.box (TRow.p .v),.box [.i .i64,.i .i64,.s,.nils,.nils],.box [.i .i64,.i .i64,.s,.rt 5,.rt 6],.arr .s .iJson 2,.arr .d .str 2]⟩
def od48:OD:=⟨[(2,.k),(3,.box [.k,.view .iCond,.k,.k,.k,.view .int,.k,.k,.k]),(4,.box [.k,.view .int]),(6,.box [.k,.k,.k,.k,.k]),(7,.box [.k,.k,.k,.own .s .iJson,.own .d .str])],[.i .i64,.pb 1 0,.pb 2 0,.pb 3 0,.pb 4 0],[.ext,.box (av_.p .v),.box (TRow.p .v),.box [.i .i64,.i .i64,.s,.nils,.nils],.box [.i .i64,.i .i64,.s,.rt 5,.rt 6],.arr .s .iJson 2,.arr .d .str 2]⟩
def bz_.e:FE:=mkE rd24 221 46 1 [.ag (av_.p .v),.ag (TRow.p .v),.i .i64] [.cell 6 29] [] [(4,od47)] [(0,od48)] fun n (a0,a1,a2,_)=>bz_ n (av_.of a0) (TRow.of a1) a2
def od49:OD:=⟨[(0,.k),(3,.k)],[.s,.i .i64],[.ext]⟩
def od50:OD:=⟨[(0,.k)],[.s],[.ext]⟩
def bP_.e:FE:=mkE rd0 188 23 1 [.s] [.tmp 2] [] [(3,od49)] [(0,od50)] (un1 bP_)
def od51:OD:=⟨[(1,.box [.k,.k,.k,.view .iJson,.view .str]),(3,.k)],[.pb 1 0,.i .i64],[.ext,.box (aa_.p .v)]⟩
def od52:OD:=⟨[(1,.box [.k,.k,.k,.view .iJson,.view .str])],[.pb 1 0],[.ext,.box (aa_.p .v)]⟩
def ae_.e:FE:=mkE rd0 189 50 1 [.ag (aa_.p .v)] [.tmp 2] [] [(6,od51)] [(0,od52)] fun n (a0,_)=>ae_ n (aa_.of a0)
def od53:OD:=⟨[(1,.k),(2,.box [.k,.k,.k,.view .iJson,.view .str]),(5,.k),(6,.k),(7,.k)],[.i .i64,.pb 1 0,.i .i64,.i .i64,.i .i64],[.ext,.box (aa_.p .v)]⟩
def od54:OD:=⟨[(2,.box [.k,.k,.k,.view .iJson,.view .str]),(5,.k),(6,.k)],[.pb 1 0,.i .i64,.i .i64],[.ext,.box (aa_.p .v)]⟩
def aO_.e:FE:=mkE rd7 134 106 1 [.ag (aa_.p .v),.i .i64] [.tmp 4] [] [(23,od53)] [(1,od54)] fun n (a0,a1,_)=>aO_ n (aa_.of a0) a1
def ch_.e:FE:=mkE rd0 93 6 1 [.ag (aa_.p .v)] [.tmp 2] [] [] [] fun n (a0,_)=>ch_ n (aa_.of a0)
def rd25:RD:=⟨aa_,[.ag (aa_.p .v)],fun (a0,_)=>(aa_.of a0),fun r=>(aa_.to r,())⟩
def cW_.e:FE:=mkE rd25 222 8 1 [.ag (aa_.p .v)] [.cell 2 29] [] [] [] fun n (a0,_)=>cW_ n (aa_.of a0)
def od55:OD:=⟨[(1,.view .iRow),(2,.view .int),(3,.box [.k,.view .iCond,.k,.k,.k,.view .int,.k,.k,.k]),(6,.box [.k,.k,.k,.k,.k]),(7,.box [.k,.k,.k,.own .s .iJson,.k]),(8,.k)],[.sl .v .iRow,.sl .v .int,.pb 1 0,.pb 2 0,.pb 3 0,.i .i64],[.ext,.box (av_.p .v),.box [.i .i64,.i .i64,.s,.nils,.nils],.box [.i .i64,.i .i64,.s,.rt 4,.nils],.arr .s .iJson 2]⟩
def od56:OD:=⟨[(1,.view .iRow),(6,.box [.k,.k,.k,.k,.k]),(7,.box [.k,.k,.k,.own .s .iJson,.k])],[.sl .v .iRow,.pb 1 0,.pb 2 0],[.ext,.box [.i .i64,.i .i64,.s,.nils,.nils],.box [.i .i64,.i .i64,.s,.rt 3,.nils],.arr .s .iJson 2]⟩
def bX_.e:FE:=mkE rd25 168 47 1 [.ag (av_.p .v),.sl .v .iRow,.sl .v .int] [.cell 6 29] [] [(4,od55)] [(0,od56)] fun n (a0,a1,a2,_)=>bX_ n (av_.of a0) a1 a2
def c2_.e:FE:=mkE rd25 120 10 1 [.ag (a8_.p .v)] [.cell 2 29] [] [] [] fun n (a0,_)=>c2_ n (a8_.of a0)
def od57:OD:=⟨[(2,.box [.k,.k,.k,.view .iJson,.view .str]),(3,.box [.k,.k,.k,.view .iJson,.view .str]),(5,.k)],[.pb 1 0,.pb 2 0,.i .i64],[.ext,.box (aa_.p .v),.box (aa_.p .v)]⟩
def od58:OD:=⟨[(2,.box [.k,.k,.k,.view .iJson,.view .str]),(3,.box [.k,.k,.k,.view .iJson,.view .str]),(6,.k)],[.pb 1 0,.pb 2 0,.i .i64],[.ext,.box (aa_.p .v),.box (aa_.p .v)]⟩
def od59:OD:=⟨[(2,.box [.k,.k,.k,.view .iJson,.view .str]),(3,.box [.k,.k,.k,.view .iJson,.view .str])],[.pb 1 0,.pb 2 0],[.ext,.box (aa_.p .v),.box (aa_.p .v)]⟩
def an_.e:FE:=mkE rd0 92 81 1 [.ag (aa_.p .v),.ag (aa_.p .v)] [.tmp 4] [] [(6,od57),(14,od58)] [(0,od59),(2,od9)] fun n (a0,a1,_)=>an_ n (aa_.of a0) (aa_.of a1)
def dm_.e:FE:=mkE rd0 112 16 1 [.ag (aa_.p .v),.ag (aa_.p .v)] [.tmp 4] [] [] [] fun n (a0,a1,_)=>dm_ n (aa_.of a0) (aa_.of a1)
def dL_.e:FE:=mkE rd0 119 16 1 [.ag (b3_.p .v)] [.tmp 2] [] [] [] fun n (a0,_)=>dL_ n (b3_.of a0)
def od60:OD:=⟨[(0,.view .iCond),(1,.view .iCond),(5,.k)],[.sl .v .iCond,.sl .v .iCond,.i .i64],[.ext]⟩
def od61:OD:=⟨[(0,.view .iCond),(1,.view .iCond)],[.sl .v .iCond,.sl .v .iCond],[.ext]⟩
def bu_.e:FE:=mkE rd0 225 32 1 [.sl .v .iCond,.sl .v .iCond] [.tmp 4] [] [(3,od60)] [(0,od61)] (un2 bu_)
def od62:OD:=⟨[(0,.view .int),(1,.view .int),(5,.k)],[.sl .v .int,.sl .v .int,.i .i64],[.ext]⟩
def od63:OD:=⟨[(0,.view .int),(1,.view .int)],[.sl .v .int,.sl .v .int],[.ext]⟩
def bK_.e:FE:=mkE rd0 226 32 1 [.sl .v .int,.sl .v .int] [.tmp 4] [] [(3,od62)] [(0,od63)] (un2 bK_)
def da_.e:FE:=mkE rd0 171 66 1 [.ag (av_.p .v),.ag (av_.p .v)] [.tmp 4] [] [] [] fun n (a0,a1,_)=>da_ n (av_.of a0) (av_.of a1)
def ew_.e:FE:=mkE rd23 172 11 1 [.i .i64] [.cell 2 29] [] [] [] (un1 ew_)
def d8_.e:FE:=mkE rd25 227 12 1 [.ag (av_.p .v),.ag (TRow.p .v),.i .i64] [.cell 6 29] [] [] [] fun n (a0,a1,a2,_)=>d8_ n (av_.of a0) (TRow.of a1) a2
def od64:OD:=⟨[(1,.box [.k,.view .iCond,.k,.k,.k,.view .int,.k,.k,.k,.view .iRow,.view .iKid]),(4,.own .s .iJson),(5,.own .d .int),(6,.k)],[.pb 1 0,.rt 2,.rt 3,.i .i64],[.ext,.box (a8_.p .v),.arr .s .iJson 2,.arr .d .int 2]⟩
def od65:OD:=⟨[(4,.own .s .iJson),(5,.own .d .int)],[.rt 1,.rt 2],[.ext,.arr .s .iJson 2,.arr .d .int 2]⟩
def rd26:RD:=⟨(List aa_) × (List Int),[.sl .s .iJson,.sl .d .int],fun (a0,a1,_)=>(a0,a1),fun (a0,a1)=>(a0,a1,())⟩
def bg_.e:FE:=mkE rd26 173 49 1 [.ag (a8_.p .v)] [.tmp 2,.tmp 3] [] [(5,od64)] [(0,od65)] fun n (a0,_)=>bg_ n (a8_.of a0)
def od66:OD:=⟨[(0,.view .int),(1,.k),(5,.k)],[.sl .v .int,.i .i64,.i .i64],[.ext]⟩
def cb_.e:FE:=mkE rd7 257 19 1 [.sl .v .int,.i .i64] [.tmp 4] [] [(3,od66)] [(0,od9)] (un2 cb_)
def od67:OD:=⟨[(0,.view .int),(1,.view .iJson),(5,.k)],[.sl .v .int,.sl .v .iJson,.i .i64],[.ext]⟩
def od68:OD:=⟨[(0,.view .int),(1,.view .iJson),(6,.k)],[.sl .v .int,.sl .v .iJson,.i .i64],[.ext]⟩
def od69:OD:=⟨[(0,.view .int),(1,.view .iJson)],[.sl .v .int,.sl .v .iJson],[.ext]⟩
def aI_.e:FE:=mkE rd0 228 39 1 [.sl .v .int,.sl .v .iJson] [.tmp 4] [] [(3,od67),(11,od68)] [(0,od69),(2,od69)] (un2 aI_)
def cQ_.e:FE:=mkE rd21 258 15 1 [.sl .v .int,.i .i64] [.tmp 4] [] [] [] (un2 cQ_)
def od70:OD:=⟨[(1,.box [.k,.k,.k,.view .iJson,.view .str]),(2,.box [.k,.k,.k,.k,.k]),(3,.box [.k,.k,.k,.own .d .iJson,.own .d .str]),(4,.k)],[.pb 1 0,.pb 2 0,.pb 3 0,.i .i64],[.ext,.box (aa_.p .v),.box [.i .i64,.i .i64,.s,.nils,.nils],.box [.i .i64,.i .i64,.s,.rt 4,.rt 5],.arr .d .iJson 2,.arr .d .str 2]⟩
def od71:OD:=⟨[(2,.box [.k,.k,.k,.k,.k]),(3,.box [.k,.k,.k,.own .d .iJson,.own .d .str])],[.pb 1 0,.pb 2 0],[.ext,.box [.i .i64,.i .i64,.s,.nils,.nils],.box [.i .i64,.i .i64,.s,.rt 3,.rt 4],.arr .d .iJson 2,.arr .d .str 2]⟩
def aB_.e:FE:=mkE rd23 46 35 1 [.ag (aa_.p .v)] [.cell 2 29] [] [(4,od70)] [(0,od71)] fun n (a0,_)=>aB_ n (aa_.of a0)
def c8_.e:FE:=mkE rd21 259 22 1 [.sl .v .int,.i .i64,.i .i64] [.tmp 6] [] [] [] (un3 c8_)
def od72:OD:=⟨[(0,.view .iJson),(1,.view .int),(2,.view .iJson),(3,.view .int),(9,.own .d .iOp),(10,.own .d .int),(11,.k)],[.sl .v .iJson,.sl .v .int,.sl .v .iJson,.sl .v .int,.rt 1,.rt 2,.i .i64],[.ext,.arr .d .iOp 2,.arr .d .int 2]⟩
def od73:OD:=⟨[(0,.view .iJson),(1,.view .int),(2,.view .iJson),(3,.view .int),(9,.own .d .iOp),(10,.own .d .int),(12,.k)],[.sl .v .iJson,.sl .v .int,.sl .v .iJson,.sl .v .int,.rt 1,.rt 2,.i .i64],[.ext,.arr .d .iOp 2,.arr .d .int 2]⟩
def od74:OD:=⟨[(0,.view .iJson),(1,.view .int),(2,.view .iJson),(3,.view .int),(9,.own .d .iOp),(10,.own .d .int)],[.sl .v .iJson,.sl .v .int,.sl .v .iJson,.sl .v .int,.rt 1,.rt 2],[.ext,.arr .d .iOp 2,.arr .d .int 2]⟩
def od75:OD:=⟨[(9,.own .d .iOp)],[.rt 1],[.ext,.arr .d .iOp 2]⟩
def rd27:RD:=⟨(List TOp),[.sl .d .iOp],fun (a0,_)=>a0,fun r=>(r,())⟩
def aF_.e:FE:=mkE rd27 229 116 1 [.sl .v .iJson,.sl .v .int,.sl .v .iJson,.sl .v .int] [.tmp 8] [] [(5,od72),(13,od73)] [(0,od74),(2,od75)] (un4 aF_)
def eF_.e:FE:=mkE rd27 175 25 1 [.sl .v .iJson,.sl .v .int,.sl .v .iJson,.sl .v .int] [.tmp 8] [] [] [] (un4 eF_)
def od76:OD:=⟨[(0,.k),(1,.view .iOp),(5,.own .d .iOp),(6,.k)],[.s,.sl .v .iOp,.rt 1,.i .i64],[.ext,.arr .d .iOp 2]⟩
def od77:OD:=⟨[(5,.own .d .iOp)],[.rt 1],[.ext,.arr .d .iOp 2]⟩
def bT_.e:FE:=mkE rd27 174 38 1 [.s,.sl .v .iOp] [.tmp 4] [] [(4,od76)] [(0,od77)] (un2 bT_)
def cS_.e:FE:=mkE rd27 122 52 1 [.ag (a8_.p .v),.ag (a8_.p .v)] [.tmp 4] [] [] [] fun n (a0,a1,_)=>cS_ n (a8_.of a0) (a8_.of a1)
def od78:OD:=⟨[(1,.box [.k,.view .str,.k,.k,.k,.view .iJson,.view .str]),(3,.k)],[.pb 1 0,.i .i64],[.ext,.box (TOp.p .v)]⟩
def od79:OD:=⟨[(1,.box [.k,.view .str,.k,.k,.k,.view .iJson,.view .str])],[.pb 1 0],[.ext,.box (TOp.p .v)]⟩
def b6_.e:FE:=mkE rd0 135 43 1 [.ag (TOp.p .v)] [.tmp 2] [] [(6,od78)] [(0,od79)] fun n (a0,_)=>b6_ n (TOp.of a0)
def rd28:RD:=⟨(List Bs),[.sl .d .str],fun (a0,_)=>a0,fun r=>(r,())⟩
def dI_.e:FE:=mkE rd28 110 2 1 [] [.tmp 0] [] [] [] fun n _=>dI_ n ()
def od80:OD:=⟨[(0,.view .str),(3,.own .d .u8),(4,.k)],[.sl .v .str,.rt 1,.i .i64],[.ext,.arr .d .u8 2]⟩
def od81:OD:=⟨[(0,.view .str),(3,.own .d .u8),(4,.k),(5,.k)],[.sl .v .str,.rt 1,.i .i64,.i .i64],[.ext,.arr .d .u8 2]⟩
def od82:OD:=⟨[(3,.own .d .u8)],[.rt 1],[.ext,.arr .d .u8 2]⟩
def aC_.e:FE:=mkE rB_ 144 52 1 [.sl .v .str] [.tmp 2] [] [(10,od81),(4,od80)] [(0,od82),(2,od80)] (un1 aC_)
def dU_.e:FE:=mkE rd24 99 34 1 [.ag (TOp.p .v)] [.cell 2 29] [] [] [] fun n (a0,_)=>dU_ n (TOp.of a0)
def od83:OD:=⟨[(0,.k),(3,.own .d .u8),(4,.k)],[.s,.rt 1,.i .i64],[.ext,.arr .d .u8 2]⟩
def bi_.e:FE:=mkE rB_ 143 35 1 [.s] [.tmp 2] [] [(4,od83)] [(0,od82)] (un1 bi_)
def od84:OD:=⟨[(1,.box [.k,.k,.k,.view .iJson,.view .str]),(3,.k),(4,.k)],[.pb 1 0,.s,.i .i64],[.ext,.box (aa_.p .v)]⟩
def od85:OD:=⟨[(1,.box [.k,.k,.k,.view .iJson,.view .str]),(3,.k)],[.pb 1 0,.s],[.ext,.box (aa_.p .v)]⟩
def aM_.e:FE:=mkE rB_ 98 64 1 [.ag (aa_.p .v)] [.tmp 2] [] [(17,od84)] [(1,od85)] fun n (a0,_)=>aM_ n (aa_.of a0)
def cY_.e:FE:=mkE rB_ 52 13 1 [.ag (aa_.p .v)] [.tmp 2] [] [] [] fun n (a0,_)=>cY_ n (aa_.of a0)
def od86:OD:=⟨[(0,.view .iOp),(3,.box [.k,.k,.k,.own .s .iJson,.k]),(4,.k)],[.sl .v .iOp,.pb 1 0,.i .i64],[.ext,.box [.i .i64,.i .i64,.s,.rt 2,.nils],.arr .s .iJson 2]⟩
def od87:OD:=⟨[(3,.box [.k,.k,.k,.own .s .iJson,.k])],[.pb 1 0],[.ext,.box [.i .i64,.i .i64,.s,.rt 2,.nils],.arr .s .iJson 2]⟩
def aY_.e:FE:=mkE rd7 170 34 1 [.sl .v .iOp] [.tmp 2] [] [(4,od86)] [(0,od87)] (un1 aY_)
def dK_.e:FE:=mkE rd0 121 27 1 [.ag (a8_.p .v),.ag (a8_.p .v)] [.tmp 4] [] [] [] fun n (a0,a1,_)=>dK_ n (a8_.of a0) (a8_.of a1)
def rd29:RD:=⟨b3_ × aE_ × Bool,[.ag (b3_.p .d),.ag [.i .i64,.i .i64,.i .i64,.i .i64,.i .i64,.s,.sl .v .iJson,.sl .v .str,.sl .d .iOp],.b],fun (a0,a1,a2,_)=>((b3_.of a0),(aE_.of a1),a2),fun (a0,a1,a2)=>(b3_.to a0,aE_.to a1,a2,())⟩
def cJ_.e:FE:=mkE rd29 77 49 1 [.ag (b3_.p .v)] [.cell 2 111,.cell 3 35,.tmp 4] [] [] [] fun n (a0,_)=>cJ_ n (b3_.of a0)
def rd30:RD:=⟨TMut × ac_,[.ag (TMut.p .d),.bx (ac_.p .v)],fun (a0,a1,_)=>((TMut.of a0),(ac_.of a1)),fun (a0,a1)=>(TMut.to a0,ac_.to a1,())⟩
def c7_.e:FE:=mkE rd30 127 102 2 [.bx (ac_.p .v),.ag (ar_.p .v)] [.cell 4 179] [.pb 1 0] [] [] fun n (a0,a1,_)=>c7_ n (ac_.of a0) (ar_.of a1)
def ex_.e:FE:=mkE rd0 178 43 1 [.ag [.sl .v .int],.ag (TMut.p .v)] [.tmp 4] [] [] [] fun n (a0,a1,_)=>ex_ n (aP_.of a0) (TMut.of a1)
def od88:OD:=⟨[(1,.box [.view .int,.k,.view .s_iRow]),(2,.box [.k,.k,.k]),(3,.box [.own .d .int,.k,.own .d .s_iRow]),(4,.k)],[.pb 1 0,.pb 2 0,.pb 3 0,.i .i64],[.ext,.box (ar_.p .v),.box [.nils,.i .i64,.nils],.box [.rt 4,.i .i64,.rt 5],.arr .d .int 2,.arr .d .s_iRow 2]⟩
def od89:OD:=⟨[(2,.box [.k,.k,.k]),(3,.box [.own .d .int,.k,.own .d .s_iRow])],[.pb 1 0,.pb 2 0],[.ext,.box [.nils,.i .i64,.nils],.box [.rt 3,.i .i64,.rt 4],.arr .d .int 2,.arr .d .s_iRow 2]⟩
def rd31:RD:=⟨ar_,[.ag (ar_.p .d)],fun (a0,_)=>(ar_.of a0),fun r=>(ar_.to r,())⟩
def bm_.e:FE:=mkE rd31 125 30 1 [.ag (ar_.p .v)] [.cell 2 101] [] [(4,od88)] [(0,od89)] fun n (a0,_)=>bm_ n (ar_.of a0)
def rd32:RD:=⟨ar_ × aT_ × Bool,[.ag [.sl .d .int,.i .i64,.sl .s .s_iRow],.ag (aT_.p .d),.b],fun (a0,a1,a2,_)=>((ar_.of a0),(aT_.of a1),a2),fun (a0,a1,a2)=>(ar_.to a0,aT_.to a1,a2,())⟩
def eS_.e:FE:=mkE rd32 179 82 3 [.ag [.sl .d .int,.i .i64,.sl .s .s_iRow],.ag (TMut.p .v)] [.cell 4 101,.cell 5 175,.tmp 6] [] [] [] fun n (a0,a1,_)=>eS_ n (ar_.of a0) (TMut.of a1)
def ec_.e:FE:=mkE rd32 126 38 1 [.ag (ar_.p .v),.ag (TMut.p .v)] [.cell 4 101,.cell 5 175,.tmp 6] [] [] [] fun n (a0,a1,_)=>ec_ n (ar_.of a0) (TMut.of a1)
def od90:OD:=⟨[(0,.box [.view .u8,.k,.k]),(5,.box [.view .int,.k,.view .s_iRow]),(6,.own .s .iMut),(7,.k)],[.pb 1 0,.pb 2 0,.rt 3,.i .i64],[.ext,.box (ac_.p .v),.box (ar_.p .v),.arr .s .iMut 2]⟩
def od91:OD:=⟨[(0,.box [.view .u8,.k,.k]),(5,.box [.view .int,.k,.view .s_iRow]),(6,.own .s .iMut),(7,.k),(8,.box [.k,.k,.k,.view .int])],[.pb 1 0,.pb 2 0,.rt 3,.i .i64,.pb 4 0],[.ext,.box (ac_.p .v),.box (ar_.p .v),.arr .s .iMut 2,.box (TMut.p .v)]⟩
def od92:OD:=⟨[(6,.own .s .iMut)],[.rt 2],[.ext,.box (ac_.p .v),.arr .s .iMut 2]⟩
def rd33:RD:=⟨(List TMut) × ac_,[.sl .s .iMut,.bx (ac_.p .v)],fun (a0,a1,_)=>(a0,(ac_.of a1)),fun (a0,a1)=>(a0,ac_.to a1,())⟩
def aw_.e:FE:=⟨_,⟨79,43,2,[.bx (ac_.p .v),.ag (ar_.p .v)],rd33.rp,rd33.toR,rd33.ofR,[.ptr [.v,.v,.v],.ag [.v,.v,.v]],[.o,.ptr [.v,.v,.v]],[.own .s .iMut,.box [.view .u8,.k,.k]],[.tmp 4],[.pb 1 0],[(9,od91),(5,od90)],[(9,od90)],[(0,od92)]⟩,fun _=>true,fun n (a0,a1,_)=>aw_ n (ac_.of a0) (ar_.of a1)⟩
def od93:OD:=⟨[(1,.view .iMut),(2,.box [.view .int,.k,.view .s_iRow]),(4,.box [.k,.k,.k]),(7,.own .d .iChange),(8,.box [.own .d .int,.k,.own .s .s_iRow]),(9,.own .d .iChange),(10,.k)],[.sl .v .iMut,.pb 1 0,.pb 2 0,.rt 3,.pb 4 0,.rt 5,.i .i64],[.ext,.box (ar_.p .v),.box [.nils,.i .i64,.nils],.arr .d .iChange 2,.box [.rt 6,.i .i64,.rt 7],.arr .d .iChange 2,.arr .d .int 2,.arr .s .s_iRow 2]⟩
def od94:OD:=⟨[(2,.box [.view .int,.k,.view .s_iRow]),(4,.box [.k,.k,.k]),(8,.box [.own .d .int,.k,.own .s .s_iRow]),(9,.own .d .iChange)],[.pb 1 0,.pb 2 0,.pb 3 0,.rt 4],[.ext,.box (ar_.p .v),.box [.nils,.i .i64,.nils],.box [.rt 5,.i .i64,.rt 6],.arr .d .iChange 2,.arr .d .int 2,.arr .s .s_iRow 2]⟩
def rd34:RD:=⟨ar_ × (List aT_) × Bool,[.ag [.sl .d .int,.i .i64,.sl .s .s_iRow],.sl .d .iChange,.b],fun (a0,a1,a2,_)=>((ar_.of a0),a1,a2),fun (a0,a1,a2)=>(ar_.to a0,a1,a2,())⟩
def a7_.e:FE:=mkE rd34 78 67 1 [.ag (ar_.p .v),.sl .v .iMut] [.cell 4 101,.tmp 5,.tmp 6] [] [(12,od93)] [(0,od94)] fun n (a0,a1,_)=>a7_ n (ar_.of a0) a1
def rd35:RD:=⟨a8_,[.ag [.i .i64,.sl .d .iCond,.i .i64,.b,.i .i64,.sl .d .int,.b,.i .i64,.i .i64,.sl .s .iRow,.sl .d .iKid]],fun (a0,_)=>(a8_.of a0),fun r=>(a8_.to r,())⟩
def cX_.e:FE:=mkE rd35 180 76 1 [.ag (a8_.p .v),.ag (aT_.p .v)] [.cell 4 109] [] [] [] fun n (a0,a1,_)=>cX_ n (a8_.of a0) (aT_.of a1)
def od95:OD:=⟨[(1,.view .iChange),(4,.box [.k,.k,.k,.k,.k,.k,.k,.k,.k,.k,.k]),(5,.box [.k,.own .d .iCond,.k,.k,.k,.own .d .int,.k,.k,.k,.own .s .iRow,.own .d .iKid]),(6,.k)],[.sl .v .iChange,.pb 1 0,.pb 2 0,.i .i64],[.ext,.box [.i .i64,.nils,.i .i64,.b,.i .i64,.nils,.b,.i .i64,.i .i64,.nils,.nils],.box [.i .i64,.rt 3,.i .i64,.b,.i .i64,.rt 4,.b,.i .i64,.i .i64,.rt 5,.rt 6],.arr .d .iCond 2,.arr .d .int 2,.arr .s .iRow 2,.arr .d .iKid 2]⟩
def od96:OD:=⟨[(4,.box [.k,.k,.k,.k,.k,.k,.k,.k,.k,.k,.k]),(5,.box [.k,.own .d .iCond,.k,.k,.k,.own .d .int,.k,.k,.k,.own .s .iRow,.own .d .iKid])],[.pb 1 0,.pb 2 0],[.ext,.box [.i .i64,.nils,.i .i64,.b,.i .i64,.nils,.b,.i .i64,.i .i64,.nils,.nils],.box [.i .i64,.rt 3,.i .i64,.b,.i .i64,.rt 4,.b,.i .i64,.i .i64,.rt 5,.rt 6],.arr .d .iCond 2,.arr .d .int 2,.arr .s .iRow 2,.arr .d .iKid 2]⟩
def aR_.e:FE:=mkE rd35 128 22 1 [.ag (a8_.p .v),.sl .v .iChange] [.cell 4 109] [] [(4,od95)] [(0,od96)] fun n (a0,a1,_)=>aR_ n (a8_.of a0) a1
def rd36:RD:=⟨b3_,[.ag [.i .i64,.sl .d .iCond,.i .i64,.b,.i .i64,.sl .d .int,.b,.i .i64,.i .i64,.sl .s .iRow,.sl .d .iKid,.i .i64,.i .i64,.sl .d .iCond,.i .i64,.b,.i .i64,.sl .d .int,.b,.i .i64,.i .i64,.sl .d .iRow,.sl .d .iKid,.i .i64,.b]],fun (a0,_)=>(b3_.of a0),fun r=>(b3_.to r,())⟩
def cM_.e:FE:=mkE rd36 80 18 1 [.ag (b3_.p .v),.sl .v .iChange] [.cell 4 111] [] [] [] fun n (a0,a1,_)=>cM_ n (b3_.of a0) a1
def od97:OD:=⟨[(0,.box [.view .u8,.k,.k]),(3,.box [.view .int,.k,.view .s_iRow])],[.pb 1 0,.pb 2 0],[.ext,.box (ac_.p .v),.box (ar_.p .v)]⟩
def od98:OD:=⟨[(0,.box [.view .u8,.k,.k]),(3,.box [.view .int,.k,.view .s_iRow]),(4,.box [.k,.view .iCond,.k,.k,.k,.view .int,.k,.k,.k,.view .iRow,.view .iKid,.k,.k,.view .iCond,.k,.k,.k,.view .int,.k,.k,.k,.view .iRow,.view .iKid,.k,.k]),(6,.own .s .iEvent),(7,.k),(8,.k)],[.pb 1 0,.pb 2 0,.pb 3 0,.rt 4,.i .i64,.i .i64],[.ext,.box (ac_.p .v),.box (ar_.p .v),.box (b3_.p .v),.arr .s .iEvent 2]⟩
def od99:OD:=⟨[(6,.own .s .iEvent)],[.rt 2],[.ext,.box (ac_.p .v),.arr .s .iEvent 2]⟩
def rd37:RD:=⟨(List aE_) × ac_,[.sl .s .iEvent,.bx (ac_.p .v)],fun (a0,a1,_)=>(a0,(ac_.of a1)),fun (a0,a1)=>(a0,ac_.to a1,())⟩
def ao_.e:FE:=⟨_,⟨36,65,2,[.bx (ac_.p .v)],rd37.rp,rd37.toR,rd37.ofR,[.ptr [.v,.v,.v]],[.o,.ptr [.v,.v,.v]],[.own .s .iEvent,.box [.view .u8,.k,.k]],[.tmp 2],[.pb 1 0],[(8,od98),(7,od98),(1,od97)],[(8,od98)],[(0,od99)]⟩,fun _=>true,fun n (a0,_)=>ao_ n (ac_.of a0)⟩
def rd38:RD:=⟨(List aE_),[.sl .s .iEvent],fun (a0,_)=>a0,fun r=>(r,())⟩
def cw_.e:FE:=mkE rd38 9 6 1 [.sl .v .u8] [.tmp 2] [] [] [] (un1 cw_)
def cH_.e:FE:=mkE rd28 88 6 1 [.sl .v .str] [.tmp 2] [] [] [] (un1 cH_)
def od100:OD:=⟨[(2,.box [.k,.k,.k,.k,.k]),(3,.box [.k,.k,.k,.own .d .iJson,.own .d .str]),(17,.view .iJson),(18,.k),(19,.k)],[.pb 1 0,.pb 2 0,.sl .v .iJson,.i .i64,.i .i64],[.ext,.box [.i .i64,.i .i64,.s,.nils,.nils],.box [.i .i64,.i .i64,.s,.rt 3,.rt 4],.arr .d .iJson 2,.arr .d .str 2]⟩
def aA_.e:FE:=mkE rd23 42 32 1 [.ag (aa_.p .v)] [.cell 2 29] [] [(4,od100)] [(0,od71)] fun n (a0,_)=>aA_ n (aa_.of a0)
def rd39:RD:=⟨aX_,[.ag (aX_.p .d)],fun (a0,_)=>(aX_.of a0),fun r=>(aX_.to r,())⟩
def cZ_.e:FE:=mkE rd39 41 8 1 [.ag (aX_.p .v)] [.cell 2 31] [] [] [] fun n (a0,_)=>cZ_ n (aX_.of a0)
def aJ_.e:FE:=mkE rd0 55 15 1 (bJ_.p .v) [.tmp 6] [] [] [] (un3 aJ_)
def cT_.e:FE:=mkE rd0 54 5 1 [.i .i64] [.tmp 2] [] [] [] (un1 cT_)
def bb_.e:FE:=mkE rd0 233 5 1 [.i .i64] [.tmp 2] [] [] [] (un1 bb_)
def od101:OD:=⟨[(0,.k),(5,.k),(6,.k)],[.s,.i .i64,.i .i64],[.ext]⟩
def ay_.e:FE:=mkE rd0 183 19 1 [.s] [.tmp 2] [] [(3,od101)] [(0,od50)] (un1 ay_)
def od102:OD:=⟨[(0,.view .str),(5,.view .str),(6,.k),(7,.k)],[.sl .v .str,.sl .v .str,.i .i64,.i .i64],[.ext]⟩
def as_.e:FE:=mkE rd0 234 29 1 [.sl .v .str] [.tmp 2] [] [(3,od102)] [(0,od9)] (un1 as_)
def eB_.e:FE:=mkE rd0 182 90 1 [.ag (aa_.p .v)] [.tmp 2] [] [] [] fun n (a0,_)=>eB_ n (aa_.of a0)
def od103:OD:=⟨[(1,.k),(5,.k),(16,.view .iJson),(17,.k),(18,.k)],[.i .i64,.i .i64,.sl .v .iJson,.i .i64,.i .i64],[.ext]⟩
def od104:OD:=⟨[(5,.k)],[.i .i64],[.ext]⟩
def bt_.e:FE:=mkE rd7 131 32 1 [.ag (aa_.p .v),.i .i64] [.tmp 4] [] [(7,od103)] [(0,od104)] fun n (a0,a1,_)=>bt_ n (aa_.of a0) a1
def cN_.e:FE:=mkE rd0 89 6 1 [.ag (aa_.p .v)] [.tmp 2] [] [] [] fun n (a0,_)=>cN_ n (aa_.of a0)
def od105:OD:=⟨[(0,.k),(3,.own .d .u8),(7,.k),(8,.k)],[.s,.rt 1,.i .i64,.i .i64],[.ext,.arr .d .u8 2]⟩
def bH_.e:FE:=mkE rB_ 138 35 1 [.s] [.tmp 2] [] [(4,od105)] [(0,od82)] (un1 bH_)
def strconv_Itoa.e:FE:=mkE rB_ 95 5 1 [.i .i64] [.tmp 2] [] [] [] (un1 strconv_Itoa)
def strings_Join.e:FE:=mkE rB_ 139 75 1 [.sl .v .str,.s] [.tmp 4] [] [] [] (un2 strings_Join)
def od106:OD:=⟨[(1,.box [.k,.k,.k,.view .iJson,.view .str]),(3,.own .d .str),(9,.view .iJson),(10,.k),(11,.k)],[.pb 1 0,.rt 2,.sl .v .iJson,.i .i64,.i .i64],[.ext,.box (aa_.p .v),.arr .d .str 2]⟩
def od107:OD:=⟨[(1,.box [.k,.k,.k,.view .iJson,.view .str]),(3,.own .d .str)],[.pb 1 0,.rt 2],[.ext,.box (aa_.p .v),.arr .d .str 2]⟩
def a1_.e:FE:=mkE rB_ 96 66 1 [.ag (aa_.p .v)] [.tmp 2] [] [(4,od106)] [(0,od107)] fun n (a0,_)=>a1_ n (aa_.of a0)
def dW_.e:FE:=mkE rB_ 49 13 1 [.ag (aa_.p .v)] [.tmp 2] [] [] [] fun n (a0,_)=>dW_ n (aa_.of a0)
def dz_.e:FE:=mkE rd0 56 28 1 [.ag (aa_.p .v)] [.tmp 2] [] [] [] fun n (a0,_)=>dz_ n (aa_.of a0)
def od108:OD:=⟨[(1,.box [.k,.view .str,.k,.k,.k,.view .iJson,.view .str]),(6,.view .str),(7,.k),(8,.k)],[.pb 1 0,.sl .v .str,.i .i64,.i .i64],[.ext,.box (TOp.p .v)]⟩
def b9_.e:FE:=mkE rd0 132 40 1 [.ag (TOp.p .v)] [.tmp 2] [] [(3,od108)] [(0,od79)] fun n (a0,_)=>b9_ n (TOp.of a0)
def dP_.e:FE:=mkE rd28 140 2 1 [] [.tmp 0] [] [] [] fun n _=>dP_ n ()
def strings_ReplaceAll.e:FE:=mkE rB_ 196 11 1 [.s,.s,.s] [.tmp 6] [] [] [] (un3 strings_ReplaceAll)
def od109:OD:=⟨[(3,.k),(6,.view .str),(7,.k),(8,.k)],[.s,.sl .v .str,.i .i64,.i .i64],[.ext]⟩
def od110:OD:=⟨[(3,.k)],[.s],[.ext]⟩
def bI_.e:FE:=mkE rB_ 141 20 1 [.sl .v .str] [.tmp 2] [] [(4,od109)] [(0,od110)] (un1 bI_)
def dV_.e:FE:=mkE rd23 142 8 3 [.ag (aa_.p .d)] [.cell 2 29] [] [] [] fun n (a0,_)=>dV_ n (aa_.of a0)
def d9_.e:FE:=mkE rd23 97 41 1 [.ag (TOp.p .v)] [.cell 2 29] [] [] [] fun n (a0,_)=>d9_ n (TOp.of a0)
def od111:OD:=⟨[(2,.box [.k,.k,.k,.k,.k]),(4,.box [.k,.k,.k,.own .d .iJson,.k]),(9,.view .iOp),(10,.k),(11,.k)],[.pb 1 0,.pb 2 0,.sl .v .iOp,.i .i64,.i .i64],[.ext,.box [.i .i64,.i .i64,.s,.nils,.nils],.box [.i .i64,.i .i64,.s,.rt 3,.nils],.arr .d .iJson 2]⟩
def od112:OD:=⟨[(2,.box [.k,.k,.k,.k,.k]),(4,.box [.k,.k,.k,.own .d .iJson,.k])],[.pb 1 0,.pb 2 0],[.ext,.box [.i .i64,.i .i64,.s,.nils,.nils],.box [.i .i64,.i .i64,.s,.rt 3,.nils],.arr .d .iJson 2]⟩
def rd40:RD:=⟨aa_ × Bool,[.ag (aa_.p .d),.b],fun (a0,a1,_)=>((aa_.of a0),a1),fun (a0,a1)=>(aa_.to a0,a1,())⟩
def bl_.e:FE:=mkE rd40 50 29 1 [.sl .v .iOp] [.cell 2 29,.tmp 3] [] [(4,od111)] [(0,od112)] (un1 bl_)
def dc_.e:FE:=mkE rd7 57 21 1 [.sl .v .iOp] [.tmp 2] [] [] [] (un1 dc_)
def dR_.e:FE:=mkE rd0 18 57 1 [.ag (aE_.p .v)] [.tmp 2] [] [] [] fun n (a0,_)=>dR_ n (aE_.of a0)
def od113:OD:=⟨[(0,.view .str),(1,.view .str),(12,.k),(13,.k)],[.sl .v .str,.sl .v .str,.i .i64,.i .i64],[.ext]⟩
def aH_.e:FE:=mkE rd0 260 26 1 [.sl .v .str,.sl .v .str] [.tmp 4] [] [(6,od113)] [(0,od9)] (un2 aH_)
def od114:OD:=⟨[(1,.view .iJson),(2,.k),(15,.view .iJson),(16,.k),(17,.k)],[.sl .v .iJson,.clo 235 [],.sl .v .iJson,.i .i64,.i .i64],[.ext]⟩
def ai_.e:FE:=mkE rd0 261 32 1 [.sl .v .iJson,.sl .v .iJson,.clo 235 []] [.tmp 6] [] [(6,od114)] [(0,od9)] fun n (a0,a1,_,_)=>ai_ n a0 a1
def dy_.e:FE:=mkE rd0 235 38 1 [.ag (aa_.p .v),.ag (aa_.p .v)] [.tmp 4] [] [] [] fun n (a0,a1,_)=>dy_ n (aa_.of a0) (aa_.of a1)
def eA_.e:FE:=mkE rd40 184 22 3 [.ag (aa_.p .d),.ag (TOp.p .v)] [.cell 4 29,.tmp 5] [] [] [] fun n (a0,a1,_)=>eA_ n (aa_.of a0) (TOp.of a1)
def ct_.e:FE:=mkE rd0 280 6 1 [.s] [.tmp 2] [] [] [] (un1 ct_)
def cK_.e:FE:=mkE rd0 262 17 1 [.s,.s] [.tmp 4] [] [] [] (un2 cK_)
def b2_.e:FE:=mkE rd0 263 6 1 [.s] [.tmp 2] [] [] [] (un1 b2_)
def od115:OD:=⟨[(0,.view .str),(1,.k),(6,.k),(7,.k),(8,.k)],[.sl .v .str,.s,.i .i64,.i .i64,.i .i64],[.ext]⟩
def od116:OD:=⟨[(0,.view .str),(1,.k),(6,.k),(7,.k)],[.sl .v .str,.s,.i .i64,.i .i64],[.ext]⟩
def rd41:RD:=⟨Int × Bool,[.i .i64,.b],fun (a0,a1,_)=>(a0,a1),fun (a0,a1)=>(a0,a1,())⟩
def al_.e:FE:=mkE rd41 236 54 1 [.sl .v .str,.s] [.tmp 4,.tmp 5] [] [(4,od115)] [(0,od116)] (un2 al_)
def cn_.e:FE:=mkE rd28 237 95 1 [.sl .d .str,.i .i64,.sl .d .str] [.tmp 6] [] [] [] (un3 cn_)
def rd42:RD:=⟨(List aa_),[.sl .d .iJson],fun (a0,_)=>a0,fun r=>(r,())⟩
def cd_.e:FE:=mkE rd42 238 95 1 [.sl .d .iJson,.i .i64,.sl .d .iJson] [.tmp 6] [] [] [] (un3 cd_)
def rd43:RD:=⟨Int × Bool,[.i .i64,.er],fun (a0,a1,_)=>(a0,a1),fun (a0,a1)=>(a0,a1,())⟩
def dG_.e:FE:=mkE rd43 102 18 1 [.s] [.tmp 2,.tmp 3] [] [] [] (un1 dG_)
def dw_.e:FE:=mkE rd7 239 24 1 [.s] [.tmp 2] [] [] [] (un1 dw_)
def dQ_.e:FE:=mkE rd40 185 69 5 [.ag (aa_.p .d),.s,.ag (aa_.p .d)] [.cell 6 29,.tmp 7] [] [] [] fun n (a0,a1,a2,_)=>dQ_ n (aa_.of a0) a1 (aa_.of a2)
def od117:OD:=⟨[(0,.view .str),(1,.k),(7,.k),(8,.k)],[.sl .v .str,.s,.i .i64,.i .i64],[.ext]⟩
def aG_.e:FE:=mkE rd7 211 19 1 [.sl .v .str,.s] [.tmp 4] [] [(3,od117)] [(0,od9)] (un2 aG_)
def dv_.e:FE:=mkE rd7 186 24 1 [.ag (aa_.p .v),.s] [.tmp 4] [] [] [] fun n (a0,a1,_)=>dv_ n (aa_.of a0) a1
def cx_.e:FE:=mkE rd42 240 33 1 [.sl .d .iJson,.i .i64,.i .i64] [.tmp 6] [] [] [] (un3 cx_)
def co_.e:FE:=mkE rd28 241 33 1 [.sl .d .str,.i .i64,.i .i64] [.tmp 6] [] [] [] (un3 co_)
def db_.e:FE:=mkE rd23 187 23 3 [.ag (aa_.p .d),.i .i64] [.cell 4 29] [] [] [] fun n (a0,a1,_)=>db_ n (aa_.of a0) a1
def cC_.e:FE:=mkE rd40 133 77 3 [.ag (aa_.p .d),.sl .v .str,.ag (TOp.p .v)] [.cell 6 29,.tmp 7] [] [] [] fun n (a0,a1,a2,_)=>cC_ n (aa_.of a0) a1 (TOp.of a2)
def eC_.e:FE:=mkE rd40 90 35 1 [.ag (aa_.p .v),.ag (TOp.p .v)] [.cell 4 29,.tmp 5] [] [] [] fun n (a0,a1,_)=>eC_ n (aa_.of a0) (TOp.of a1)
def od118:OD:=⟨[(4,.box [.k,.k,.k,.k,.k]),(6,.box [.k,.k,.k,.own .d .iJson,.own .d .str]),(22,.view .iOp),(23,.k),(24,.k)],[.pb 1 0,.pb 2 0,.sl .v .iOp,.i .i64,.i .i64],[.ext,.box [.i .i64,.i .i64,.s,.nils,.nils],.box [.i .i64,.i .i64,.s,.rt 3,.rt 4],.arr .d .iJson 2,.arr .d .str 2]⟩
def od119:OD:=⟨[(4,.box [.k,.k,.k,.k,.k]),(6,.box [.k,.k,.k,.own .d .iJson,.own .d .str])],[.pb 1 0,.pb 2 0],[.ext,.box [.i .i64,.i .i64,.s,.nils,.nils],.box [.i .i64,.i .i64,.s,.rt 3,.rt 4],.arr .d .iJson 2,.arr .d .str 2]⟩
def a9_.e:FE:=mkE rd40 43 40 1 [.ag (aa_.p .v),.sl .v .iOp] [.cell 4 29,.tmp 5] [] [(7,od118)] [(0,od119)] fun n (a0,a1,_)=>a9_ n (aa_.of a0) a1
def cI_.e:FE:=mkE rd39 13 74 1 [.ag (aX_.p .v),.ag (aE_.p .v)] [.cell 4 31] [] [] [] fun n (a0,a1,_)=>cI_ n (aX_.of a0) (aE_.of a1)
def od120:OD:=⟨[(2,.box [.k,.k,.k,.k,.k,.k,.k,.k]),(3,.box [.k,.k,.k,.own .d .iJson,.own .d .str,.k,.k,.k]),(7,.view .iEvent),(8,.k),(9,.k)],[.pb 1 0,.pb 2 0,.sl .v .iEvent,.i .i64,.i .i64],[.ext,.box [.i .i64,.i .i64,.s,.nils,.nils,.i .i64,.b,.b],.box [.i .i64,.i .i64,.s,.rt 3,.rt 4,.i .i64,.b,.b],.arr .d .iJson 2,.arr .d .str 2]⟩
def od121:OD:=⟨[(2,.box [.k,.k,.k,.k,.k,.k,.k,.k]),(3,.box [.k,.k,.k,.own .d .iJson,.own .d .str,.k,.k,.k])],[.pb 1 0,.pb 2 0],[.ext,.box [.i .i64,.i .i64,.s,.nils,.nils,.i .i64,.b,.b],.box [.i .i64,.i .i64,.s,.rt 3,.rt 4,.i .i64,.b,.b],.arr .d .iJson 2,.arr .d .str 2]⟩
def a3_.e:FE:=mkE rd39 10 18 1 [.sl .v .iEvent] [.cell 2 31] [] [(4,od120)] [(0,od121)] (un1 a3_)
def dJ_.e:FE:=mkE rd39 44 13 1 [.ag (aX_.p .v)] [.cell 2 31] [] [] [] fun n (a0,_)=>dJ_ n (aX_.of a0)
def od122:OD:=⟨[(0,.view .iOp),(2,.box [.k,.k,.k,.k,.k]),(4,.box [.k,.k,.k,.own .s .iJson,.k]),(5,.k)],[.sl .v .iOp,.pb 1 0,.pb 2 0,.i .i64],[.ext,.box [.i .i64,.i .i64,.s,.nils,.nils],.box [.i .i64,.i .i64,.s,.rt 3,.nils],.arr .s .iJson 2]⟩
def od123:OD:=⟨[(0,.view .iOp),(2,.box [.k,.k,.k,.k,.k]),(4,.box [.k,.k,.k,.own .s .iJson,.k])],[.sl .v .iOp,.pb 1 0,.pb 2 0],[.ext,.box [.i .i64,.i .i64,.s,.nils,.nils],.box [.i .i64,.i .i64,.s,.rt 3,.nils],.arr .s .iJson 2]⟩
def rd44:RD:=⟨aa_ × Bool,[.ag [.i .i64,.i .i64,.s,.sl .s .iJson,.sl .d .str],.b],fun (a0,a1,_)=>((aa_.of a0),a1),fun (a0,a1)=>(aa_.to a0,a1,())⟩
def bD_.e:FE:=mkE rd44 53 38 1 [.sl .v .iOp] [.cell 2 29,.tmp 3] [] [(4,od122)] [(0,od123)] (un1 bD_)
def dM_.e:FE:=mkE rd0 45 51 1 [.ag (aE_.p .v)] [.tmp 2] [] [] [] fun n (a0,_)=>dM_ n (aE_.of a0)
def dH_.e:FE:=mkE rd40 190 21 3 [.ag (aa_.p .d),.ag (TOp.p .v)] [.cell 4 29,.tmp 5] [] [] [] fun n (a0,a1,_)=>dH_ n (aa_.of a0) (TOp.of a1)
def od124:OD:=⟨[(1,.k),(2,.box [.k,.k,.k,.view .iJson,.view .str]),(5,.k)],[.s,.pb 1 0,.i .i64],[.ext,.box (aa_.p .v)]⟩
def ck_.e:FE:=mkE rd7 86 21 1 [.ag (aa_.p .v),.s] [.tmp 4] [] [(3,od124)] [(0,od9)] fun n (a0,a1,_)=>ck_ n (aa_.of a0) a1
def od125:OD:=⟨[(0,.k),(3,.k),(4,.k)],[.s,.i .i64,.i .i64],[.ext]⟩
def bk_.e:FE:=mkE rd7 232 41 1 [.s] [.tmp 2] [] [(7,od125)] [(0,od49)] (un1 bk_)
def ek_.e:FE:=mkE rd7 181 23 1 [.ag (aa_.p .v),.s] [.tmp 4] [] [] [] fun n (a0,a1,_)=>ek_ n (aa_.of a0) a1
def et_.e:FE:=mkE rd44 242 58 3 [.ag (aa_.p .d),.s,.ag (TOp.p .v)] [.cell 6 29,.tmp 7] [] [] [] fun n (a0,a1,a2,_)=>et_ n (aa_.of a0) a1 (TOp.of a2)
def od126:OD:=⟨[(3,.box [.k,.k,.k,.view .iJson,.own .d .str]),(6,.box [.k,.k,.k,.k,.k]),(8,.k)],[.pb 3 0,.pb 4 0,.i .i64],[.ext,.non,.arr .d .str 2,.box [.i .i64,.i .i64,.s,.sl .v .iJson,.rt 2],.box [.i .i64,.i .i64,.s,.nils,.nils]]⟩
def od127:OD:=⟨[(3,.box [.k,.k,.k,.own .s .iJson,.view .str]),(6,.box [.k,.k,.k,.k,.k]),(8,.k),(62,.k)],[.pb 3 0,.pb 4 0,.i .i64,.b],[.ext,.non,.non,.box [.i .i64,.i .i64,.s,.rt 5,.sl .v .str],.box [.i .i64,.i .i64,.s,.nils,.nils],.arr .s .iJson 2]⟩
def od128:OD:=⟨[(3,.box [.k,.k,.k,.own .s .iJson,.view .str]),(6,.box [.k,.k,.k,.k,.k])],[.pb 3 0,.pb 4 0],[.ext,.non,.non,.box [.i .i64,.i .i64,.s,.rt 5,.sl .v .str],.box [.i .i64,.i .i64,.s,.nils,.nils],.arr .s .iJson 2]⟩
def rd45:RD:=⟨aa_ × Bool,[.ag [.i .i64,.i .i64,.s,.sl .s .iJson,.sl .v .str],.b],fun (a0,a1,_)=>((aa_.of a0),a1),fun (a0,a1)=>(aa_.to a0,a1,())⟩
def c3_.e:FE:=⟨_,⟨191,77,3,[.ag (aa_.p .d),.s,.ag (TOp.p .v)],rd45.rp,rd45.toR,rd45.ofR,[.ag [.v,.v,.v,.o,.o],.v,.ag [.v,.v,.v,.v,.v,.v,.v]],[.ag [.v,.v,.v,.o,.v],.v],[.ag [.k,.k,.k,.own .s .iJson,.view .str],.k],[.cell 6 29,.tmp 7],[],[(17,od127),(8,od126)],[(17,od128)],[]⟩,fun _=>true,fun n (a0,a1,a2,_)=>c3_ n (aa_.of a0) a1 (TOp.of a2)⟩
def c1_.e:FE:=mkE rd45 136 57 3 [.ag (aa_.p .d),.sl .v .str,.ag (TOp.p .v)] [.cell 6 29,.tmp 7] [] [] [] fun n (a0,a1,a2,_)=>c1_ n (aa_.of a0) a1 (TOp.of a2)
def ev_.e:FE:=mkE rd45 94 35 1 [.ag (aa_.p .v),.ag (TOp.p .v)] [.cell 4 29,.tmp 5] [] [] [] fun n (a0,a1,_)=>ev_ n (aa_.of a0) (TOp.of a1)
def od129:OD:=⟨[(1,.view .iOp),(4,.box [.k,.k,.k,.k,.k]),(6,.box [.k,.k,.k,.own .s .iJson,.view .str]),(7,.k)],[.sl .v .iOp,.pb 1 0,.pb 2 0,.i .i64],[.ext,.box [.i .i64,.i .i64,.s,.nils,.nils],.box [.i .i64,.i .i64,.s,.rt 3,.sl .v .str],.arr .s .iJson 2]⟩
def od130:OD:=⟨[(4,.box [.k,.k,.k,.k,.k]),(6,.box [.k,.k,.k,.own .s .iJson,.view .str])],[.pb 1 0,.pb 2 0],[.ext,.box [.i .i64,.i .i64,.s,.nils,.nils],.box [.i .i64,.i .i64,.s,.rt 3,.sl .v .str],.arr .s .iJson 2]⟩
def be_.e:FE:=mkE rd45 47 41 1 [.ag (aa_.p .v),.sl .v .iOp] [.cell 4 29,.tmp 5] [] [(7,od129)] [(0,od130)] fun n (a0,a1,_)=>be_ n (aa_.of a0) a1
def rd46:RD:=⟨aX_,[.ag [.i .i64,.i .i64,.s,.sl .s .iJson,.sl .v .str,.i .i64,.b,.b]],fun (a0,_)=>(aX_.of a0),fun r=>(aX_.to r,())⟩
def cG_.e:FE:=mkE rd46 14 64 1 [.ag (aX_.p .v),.ag (aE_.p .v)] [.cell 4 31] [] [] [] fun n (a0,a1,_)=>cG_ n (aX_.of a0) (aE_.of a1)
def od131:OD:=⟨[(0,.view .iEvent),(2,.box [.k,.k,.k,.k,.k,.k,.k,.k]),(3,.box [.k,.k,.k,.own .s .iJson,.view .str,.k,.k,.k]),(4,.k)],[.sl .v .iEvent,.pb 1 0,.pb 2 0,.i .i64],[.ext,.box [.i .i64,.i .i64,.s,.nils,.nils,.i .i64,.b,.b],.box [.i .i64,.i .i64,.s,.rt 3,.sl .v .str,.i .i64,.b,.b],.arr .s .iJson 2]⟩
def od132:OD:=⟨[(2,.box [.k,.k,.k,.k,.k,.k,.k,.k]),(3,.box [.k,.k,.k,.own .s .iJson,.view .str,.k,.k,.k])],[.pb 1 0,.pb 2 0],[.ext,.box [.i .i64,.i .i64,.s,.nils,.nils,.i .i64,.b,.b],.box [.i .i64,.i .i64,.s,.rt 3,.sl .v .str,.i .i64,.b,.b],.arr .s .iJson 2]⟩
def a0_.e:FE:=mkE rd46 11 19 1 [.sl .v .iEvent] [.cell 2 31] [] [(4,od131)] [(0,od132)] (un1 a0_)
def rd47:RD:=⟨Bs × ac_,[.s,.bx (ac_.p .v)],fun (a0,a1,_)=>(a0,(ac_.of a1)),fun (a0,a1)=>(a0,ac_.to a1,())⟩
def cU_.e:FE:=mkE rd47 60 12 2 [.bx (ac_.p .v),.sl .v .str] [.tmp 4] [.pb 1 0] [] [] fun n (a0,a1,_)=>cU_ n (ac_.of a0) a1
def cV_.e:FE:=mkE rd47 85 6 2 [.bx (ac_.p .v)] [.tmp 2] [.pb 1 0] [] [] fun n (a0,_)=>cV_ n (ac_.of a0)
def od133:OD:=⟨[(0,.box [.view .u8,.k,.k]),(1,.k),(4,.box [.k,.k,.k,.k,.k]),(6,.box [.k,.k,.k,.own .s .iJson,.k]),(7,.k)],[.pb 1 0,.i .i64,.pb 2 0,.pb 3 0,.i .i64],[.ext,.box (ac_.p .v),.box [.i .i64,.i .i64,.s,.nils,.nils],.box [.i .i64,.i .i64,.s,.rt 4,.nils],.arr .s .iJson 2]⟩
def od134:OD:=⟨[(0,.box [.view .u8,.k,.k]),(1,.k),(4,.box [.k,.k,.k,.k,.k]),(8,.box [.k,.k,.k,.own .s .iJson,.own .d .str]),(9,.k)],[.pb 1 0,.i .i64,.pb 2 0,.pb 3 0,.i .i64],[.ext,.box (ac_.p .v),.box [.i .i64,.i .i64,.s,.nils,.nils],.box [.i .i64,.i .i64,.s,.rt 4,.rt 5],.arr .s .iJson 2,.arr .d .str 2]⟩
def od135:OD:=⟨[(4,.box [.k,.k,.k,.k,.k]),(6,.box [.k,.k,.k,.own .s .iJson,.k])],[.pb 2 0,.pb 3 0],[.ext,.box (ac_.p .v),.box [.i .i64,.i .i64,.s,.nils,.nils],.box [.i .i64,.i .i64,.s,.rt 4,.nils],.arr .s .iJson 2]⟩
def od136:OD:=⟨[(4,.box [.k,.k,.k,.k,.k]),(8,.box [.k,.k,.k,.own .s .iJson,.own .d .str])],[.pb 2 0,.pb 3 0],[.ext,.box (ac_.p .v),.box [.i .i64,.i .i64,.s,.nils,.nils],.box [.i .i64,.i .i64,.s,.rt 4,.rt 5],.arr .s .iJson 2,.arr .d .str 2]⟩
def rd48:RD:=⟨aa_ × ac_,[.ag [.i .i64,.i .i64,.s,.sl .s .iJson,.sl .d .str],.bx (ac_.p .v)],fun (a0,a1,_)=>((aa_.of a0),(ac_.of a1)),fun (a0,a1)=>(aa_.to a0,ac_.to a1,())⟩
def ab_.e:FE:=mkE rd48 40 80 2 [.bx (ac_.p .v),.i .i64] [.cell 4 29] [.pb 1 0] [(20,od133),(28,od134)] [(1,od135),(3,od136)] fun n (a0,a1,_)=>ab_ n (ac_.of a0) a1
def od137:OD:=⟨[(0,.box [.view .u8,.k,.k]),(2,.box [.k,.k,.k]),(3,.box [.k,.k,.k,.k,.k,.k,.k,.k,.k,.k,.k,.k,.k,.k,.k,.k,.k,.k,.k,.k,.k,.k,.k,.k,.k]),(4,.box [.view .int,.k,.view .s_iRow])],[.pb 1 0,.pb 2 0,.pb 3 0,.pb 4 0],[.ext,.box (ac_.p .v),.box [.nils,.i .i64,.nils],.box [.i .i64,.nils,.i .i64,.b,.i .i64,.nils,.b,.i .i64,.i .i64,.nils,.nils,.i .i64,.i .i64,.nils,.i .i64,.b,.i .i64,.nils,.b,.i .i64,.i .i64,.nils,.nils,.i .i64,.b],.box (ar_.p .v)]⟩
def od138:OD:=⟨[(0,.box [.view .u8,.k,.k]),(2,.box [.k,.k,.k]),(3,.box [.k,.k,.k,.k,.k,.k,.k,.k,.k,.k,.k,.k,.k,.k,.k,.k,.k,.k,.k,.k,.k,.k,.k,.k,.k]),(4,.box [.view .int,.k,.view .s_iRow]),(5,.box [.k,.view .iCond,.k,.k,.k,.view .int,.k,.k,.k,.view .iRow,.view .iKid,.k,.k,.view .iCond,.k,.k,.k,.view .int,.k,.k,.k,.view .iRow,.view .iKid,.k,.k]),(7,.k)],[.pb 1 0,.pb 2 0,.pb 3 0,.pb 4 0,.pb 5 0,.i .i64],[.ext,.box (ac_.p .v),.box [.nils,.i .i64,.nils],.box [.i .i64,.nils,.i .i64,.b,.i .i64,.nils,.b,.i .i64,.i .i64,.nils,.nils,.i .i64,.i .i64,.nils,.i .i64,.b,.i .i64,.nils,.b,.i .i64,.i .i64,.nils,.nils,.i .i64,.b],.box (ar_.p .v),.box (b3_.p .v)]⟩
def od139:OD:=⟨[(0,.box [.view .u8,.k,.k]),(2,.box [.k,.k,.k]),(3,.box [.k,.k,.k,.k,.k,.k,.k,.k,.k,.k,.k,.k,.k,.k,.k,.k,.k,.k,.k,.k,.k,.k,.k,.k,.k]),(4,.box [.view .int,.k,.view .s_iRow]),(5,.box [.k,.view .iCond,.k,.k,.k,.view .int,.k,.k,.k,.view .iRow,.view .iKid,.k,.k,.view .iCond,.k,.k,.k,.view .int,.k,.k,.k,.view .iRow,.view .iKid,.k,.k]),(7,.k),(29,.k)],[.pb 1 0,.pb 2 0,.pb 3 0,.pb 4 0,.pb 5 0,.i .i64,.b],[.ext,.box (ac_.p .v),.box [.nils,.i .i64,.nils],.box [.i .i64,.nils,.i .i64,.b,.i .i64,.nils,.b,.i .i64,.i .i64,.nils,.nils,.i .i64,.i .i64,.nils,.i .i64,.b,.i .i64,.nils,.b,.i .i64,.i .i64,.nils,.nils,.i .i64,.b],.box (ar_.p .v),.box (b3_.p .v)]⟩
def od140:OD:=⟨[(2,.box [.k,.k,.k]),(3,.box [.k,.k,.k,.k,.k,.k,.k,.k,.k,.k,.k,.k,.k,.k,.k,.k,.k,.k,.k,.k,.k,.k,.k,.k,.k]),(4,.box [.view .int,.k,.view .s_iRow]),(5,.box [.k,.view .iCond,.k,.k,.k,.view .int,.k,.k,.k,.view .iRow,.view .iKid,.k,.k,.view .iCond,.k,.k,.k,.view .int,.k,.k,.k,.view .iRow,.view .iKid,.k,.k])],[.pb 2 0,.pb 3 0,.pb 4 0,.pb 5 0],[.ext,.box (ac_.p .v),.box [.nils,.i .i64,.nils],.box [.i .i64,.nils,.i .i64,.b,.i .i64,.nils,.b,.i .i64,.i .i64,.nils,.nils,.i .i64,.i .i64,.nils,.i .i64,.b,.i .i64,.nils,.b,.i .i64,.i .i64,.nils,.nils,.i .i64,.b],.box (ar_.p .v),.box (b3_.p .v)]⟩
def rd49:RD:=⟨ar_ × b3_ × ac_,[.ag (ar_.p .v),.ag (b3_.p .v),.bx (ac_.p .v)],fun (a0,a1,a2,_)=>((ar_.of a0),(b3_.of a1),(ac_.of a2)),fun (a0,a1,a2)=>(ar_.to a0,b3_.to a1,ac_.to a2,())⟩
def aq_.e:FE:=⟨_,⟨106,52,2,[.bx (ac_.p .v)],rd49.rp,rd49.toR,rd49.ofR,[.ptr [.v,.v,.v]],[.ag [.v,.v,.v],.ag [.v,.v,.v,.v,.v,.v,.v,.v,.v,.v,.v,.v,.v,.v,.v,.v,.v,.v,.v,.v,.v,.v,.v,.v,.v],.ptr [.v,.v,.v]],[.ag [.view .int,.k,.view .s_iRow],.ag [.k,.view .iCond,.k,.k,.k,.view .int,.k,.k,.k,.view .iRow,.view .iKid,.k,.k,.view .iCond,.k,.k,.k,.view .int,.k,.k,.k,.view .iRow,.view .iKid,.k,.k],.box [.view .u8,.k,.k]],[.cell 2 101,.cell 3 111],[.pb 1 0],[(10,od139),(5,od138),(1,od137)],[(10,od138)],[(0,od140)]⟩,fun _=>true,fun n (a0,_)=>aq_ n (ac_.of a0)⟩
def rd50:RD:=⟨aE_ × ac_,[.ag [.i .i64,.i .i64,.i .i64,.i .i64,.i .i64,.s,.sl .v .iJson,.sl .v .str,.sl .d .iOp],.bx (ac_.p .v)],fun (a0,a1,_)=>((aE_.of a0),(ac_.of a1)),fun (a0,a1)=>(aE_.to a0,ac_.to a1,())⟩
def cE_.e:FE:=mkE rd50 59 30 2 [.bx (ac_.p .v)] [.cell 2 35] [.pb 1 0] [] [] fun n (a0,_)=>cE_ n (ac_.of a0)
def od141:OD:=⟨[(2,.box [.k,.k,.k,.k,.k]),(3,.box [.k,.k,.k,.own .s .iJson,.own .d .str]),(4,.k)],[.pb 2 0,.pb 3 0,.i .i64],[.ext,.box (ac_.p .v),.box [.i .i64,.i .i64,.s,.nils,.nils],.box [.i .i64,.i .i64,.s,.rt 4,.rt 5],.arr .s .iJson 2,.arr .d .str 2]⟩
def od142:OD:=⟨[(2,.box [.k,.k,.k,.k,.k]),(3,.box [.k,.k,.k,.own .s .iJson,.own .d .str])],[.pb 2 0,.pb 3 0],[.ext,.box (ac_.p .v),.box [.i .i64,.i .i64,.s,.nils,.nils],.box [.i .i64,.i .i64,.s,.rt 4,.rt 5],.arr .s .iJson 2,.arr .d .str 2]⟩
def bo_.e:FE:=mkE rd48 82 51 2 [.bx (ac_.p .v)] [.cell 2 29] [.pb 1 0] [(10,od141)] [(1,od142)] fun n (a0,_)=>bo_ n (ac_.of a0)
def od143:OD:=⟨[(0,.box [.view .u8,.k,.k]),(3,.box [.k,.k,.k,.view .iJson,.view .str]),(5,.own .d .str),(6,.k)],[.pb 1 0,.pb 2 0,.rt 3,.i .i64],[.ext,.box (ac_.p .v),.box (aa_.p .v),.arr .d .str 2]⟩
def od144:OD:=⟨[(0,.box [.view .u8,.k,.k]),(5,.own .d .str)],[.pb 1 0,.rt 2],[.ext,.box (ac_.p .v),.arr .d .str 2]⟩
def rd51:RD:=⟨(List Bs) × ac_,[.sl .d .str,.bx (ac_.p .v)],fun (a0,a1,_)=>(a0,(ac_.of a1)),fun (a0,a1)=>(a0,ac_.to a1,())⟩
def ba_.e:FE:=mkE rd51 129 65 2 [.bx (ac_.p .v),.ag (aa_.p .v)] [.tmp 4] [.pb 1 0] [(4,od143)] [(0,od144)] fun n (a0,a1,_)=>ba_ n (ac_.of a0) (aa_.of a1)
def od145:OD:=⟨[(1,.view .str),(2,.box [.k,.k,.k,.view .iJson,.view .str]),(4,.box [.k,.k,.k,.k,.k]),(6,.k)],[.sl .v .str,.pb 1 0,.pb 2 0,.i .i64],[.ext,.box (aa_.p .v),.box [.i .i64,.i .i64,.s,.nils,.nils]]⟩
def od146:OD:=⟨[(2,.box [.k,.k,.k,.view .iJson,.view .str]),(4,.box [.k,.k,.k,.k,.k])],[.pb 1 0,.pb 2 0],[.ext,.box (aa_.p .v),.box [.i .i64,.i .i64,.s,.nils,.nils]]⟩
def cr_.e:FE:=mkE rd40 130 34 1 [.ag (aa_.p .v),.sl .v .str] [.cell 4 29,.tmp 5] [] [(6,od145)] [(0,od146)] fun n (a0,a1,_)=>cr_ n (aa_.of a0) a1
def rd52:RD:=⟨TOp × ac_,[.ag [.i .i64,.sl .d .str,.i .i64,.i .i64,.s,.sl .s .iJson,.sl .d .str],.bx (ac_.p .v)],fun (a0,a1,_)=>((TOp.of a0),(ac_.of a1)),fun (a0,a1)=>(TOp.to a0,ac_.to a1,())⟩
def dk_.e:FE:=mkE rd52 83 64 2 [.bx (ac_.p .v),.ag (aa_.p .v)] [.cell 4 87] [.pb 1 0] [] [] fun n (a0,a1,_)=>dk_ n (ac_.of a0) (aa_.of a1)
def rd53:RD:=⟨aE_ × ac_,[.ag [.i .i64,.i .i64,.i .i64,.i .i64,.i .i64,.s,.sl .v .iJson,.sl .v .str,.sl .s .iOp],.bx (ac_.p .v)],fun (a0,a1,_)=>((aE_.of a0),(ac_.of a1)),fun (a0,a1)=>(aE_.to a0,ac_.to a1,())⟩
def dr_.e:FE:=mkE rd53 38 41 2 [.bx (ac_.p .v)] [.cell 2 35] [.pb 1 0] [] [] fun n (a0,_)=>dr_ n (ac_.of a0)
def od147:OD:=⟨[(2,.box [.k,.k,.k,.k,.k,.k,.k,.k]),(3,.box [.k,.k,.k,.k,.k,.k,.k,.k,.k]),(4,.box [.view .u8,.k,.k]),(5,.view .iEvent),(6,.k)],[.pb 1 0,.pb 2 0,.pb 3 0,.sl .v .iEvent,.i .i64],[.ext,.box [.i .i64,.i .i64,.s,.nils,.nils,.i .i64,.b,.b],.box [.i .i64,.i .i64,.i .i64,.i .i64,.i .i64,.s,.nils,.nils,.nils],.box (ac_.p .v)]⟩
def rd54:RD:=⟨aX_ × aE_,[.ag [.i .i64,.i .i64,.s,.sl .s .iJson,.sl .v .str,.i .i64,.b,.b],.ag (aE_.p .v)],fun (a0,a1,_)=>((aX_.of a0),(aE_.of a1)),fun (a0,a1)=>(aX_.to a0,aE_.to a1,())⟩
def bU_.e:FE:=mkE rd54 12 50 1 [.sl .v .u8] [.cell 2 31,.cell 3 35] [] [(6,od147)] [] (un1 bU_)
def od148:OD:=⟨[(0,.view .u8),(3,.view .iEvent),(4,.box [.k,.k,.k,.own .d .iJson,.own .d .str,.k,.k,.k])],[.sl .v .u8,.sl .v .iEvent,.pb 1 0],[.ext,.box [.i .i64,.i .i64,.s,.rt 2,.rt 3,.i .i64,.b,.b],.arr .d .iJson 2,.arr .d .str 2]⟩
def od149:OD:=⟨[(3,.view .iEvent),(4,.box [.k,.k,.k,.own .d .iJson,.own .d .str,.k,.k,.k]),(6,.box [.k,.k,.k,.view .iJson,.view .str,.k,.k,.k]),(7,.box [.k,.k,.k,.k,.k,.k,.view .iJson,.view .str,.view .iOp]),(8,.box [.k,.k,.k,.own .d .iJson,.own .d .str,.k,.k,.k])],[.sl .v .iEvent,.pb 1 0,.pb 2 0,.pb 3 0,.pb 4 0],[.ext,.box [.i .i64,.i .i64,.s,.rt 5,.rt 6,.i .i64,.b,.b],.box (aX_.p .v),.box (aE_.p .v),.box [.i .i64,.i .i64,.s,.rt 7,.rt 8,.i .i64,.b,.b],.arr .d .iJson 2,.arr .d .str 2,.arr .d .iJson 2,.arr .d .str 2]⟩
def laws_FnClient.e:FE:=mkE rd0 3 115 1 [.sl .v .u8] [.tmp 2] [] [(11,od149),(5,od148)] [] (un1 laws_FnClient)
def ents:List FE:=[laws_FnClient.e,fz_.e,cw_.e,a3_.e,a0_.e,bU_.e,cI_.e,cG_.e,dR_.e,ao_.e,bS_.e,dr_.e,ag_.e,ab_.e,cZ_.e,aA_.e,a9_.e,dJ_.e,dM_.e,aB_.e,be_.e,dW_.e,bl_.e,aQ_.e,cY_.e,bD_.e,cT_.e,aJ_.e,dz_.e,dc_.e,cE_.e,cU_.e,eu_.e,cp_.e,b1_.e,aL_.e,dt_.e,aj_.e,cJ_.e,a7_.e,aw_.e,cM_.e,bj_.e,bo_.e,dk_.e,c4_.e,cV_.e,ck_.e,br_.e,cH_.e,cN_.e,eC_.e,bN_.e,an_.e,ch_.e,ev_.e,strconv_Itoa.e,a1_.e,d9_.e,aM_.e,dU_.e,dG_.e,aq_.e,dI_.e,dm_.e,dl_.e,aK_.e,aU_.e,bL_.e,ds_.e,dL_.e,c2_.e,dK_.e,cS_.e,cB_.e,bp_.e,bm_.e,ec_.e,c7_.e,aR_.e,ba_.e,cr_.e,bt_.e,b9_.e,cC_.e,aO_.e,b6_.e,c1_.e,bH_.e,strings_Join.e,dP_.e,bI_.e,dV_.e,bi_.e,aC_.e,aV_.e,c6_.e,bs_.e,aZ_.e,az_.e,dT_.e,bv_.e,aN_.e,bX_.e,a2_.e,aY_.e,da_.e,ew_.e,bg_.e,bT_.e,eF_.e,bG_.e,bM_.e,ex_.e,eS_.e,cX_.e,ek_.e,eB_.e,ay_.e,eA_.e,dQ_.e,dv_.e,db_.e,bP_.e,ae_.e,dH_.e,c3_.e,strings_ReplaceAll.e,aG_.e,a6_.e,bW_.e,cc_.e,bA_.e,bE_.e,c9_.e,bz_.e,cW_.e,cL_.e,bQ_.e,bu_.e,bK_.e,d8_.e,aI_.e,aF_.e,bZ_.e,bC_.e,bk_.e,bb_.e,as_.e,dy_.e,al_.e,cn_.e,cd_.e,dw_.e,cx_.e,co_.e,et_.e,dq_.e,ed_.e,cb_.e,cQ_.e,c8_.e,aH_.e,ai_.e,cK_.e,b2_.e,ct_.e]
def fzL:List Nat:=[9,11,12,14,36,37,38,39,40,47,53,59,60,71,74,75,76,77,78,79,80,81,82,83,84,85,87,94,99,106,115,116,117,120,126,127,128,129,136,162,163,166,168,173,179,180,191,219,221,222,227,242]
def cx (n nt:Nat):Cx:=⟨nt,tt,sigE ents,KE n ents,fun f=>fzL.any (Nat.beq f)⟩
theorem okk {n:Nat} {e:FE} {fn:Func} (s:Stps e.R e.d.cut) (hfn:E.P.funcs[e.d.fid]?=some fn) (h:e.L (cx n e.d.nt) fn n s=e.Q (cx n e.d.nt) fn (e.F (n+1)) s):e.Oks E (cx n) n:=FE.ok s mixedOk hfn h
end Go.Pi
end
section
namespace Go.Pi
open Go.Proofs
theorem fz_.ok (n:Nat):fz_.e.Oks E (cx n) n:=okk () Tryz.func8 (by kernel_rfl)
theorem bS_.ok (n:Nat):bS_.e.Oks E (cx n) n:=okk (.lp fun κe=>bS_.step4 n (od1.k (κe 0)),()) Tryz.func37 (by kernel_rfl)
theorem c4_.ok (n:Nat):c4_.e.Oks E (cx n) n:=okk () Tryz.func84 (by kernel_rfl)
theorem ag_.ok (n:Nat):ag_.e.Oks E (cx n) n:=okk () Tryz.func39 (by kernel_rfl)
theorem aK_.ok (n:Nat):aK_.e.Oks E (cx n) n:=okk (.lp fun κe=>aK_.step4 n (od3.k (κe 0)),()) Tryz.func115 (by kernel_rfl)
theorem bN_.ok (n:Nat):bN_.e.Oks E (cx n) n:=okk () Tryz.func91 (by kernel_rfl)
theorem aV_.ok (n:Nat):aV_.e.Oks E (cx n) n:=okk (.lp fun κe=>aV_.step3 n (od5.k (κe 0)),()) Tryz.func160 (by kernel_rfl)
theorem c6_.ok (n:Nat):c6_.e.Oks E (cx n) n:=okk () Tryz.func161 (by kernel_rfl)
theorem dl_.ok (n:Nat):dl_.e.Oks E (cx n) n:=okk () Tryz.func114 (by kernel_rfl)
theorem aZ_.ok (n:Nat):aZ_.e.Oks E (cx n) n:=okk (.lp fun κe=>aZ_.step4 n (od7.k (κe 0)),()) Tryz.func163 (by kernel_rfl)
theorem bW_.ok (n:Nat):bW_.e.Oks E (cx n) n:=okk (.lp fun κe=>bW_.step3 n (od9.k (κe 0)),()) Tryz.func216 (by kernel_rfl)
theorem cc_.ok (n:Nat):cc_.e.Oks E (cx n) n:=okk () Tryz.func217 (by kernel_rfl)
theorem a6_.ok (n:Nat):a6_.e.Oks E (cx n) n:=okk (.lp fun κe=>a6_.step5 n (od11.k (κe 0)),()) Tryz.func215 (by kernel_rfl)
theorem bs_.ok (n:Nat):bs_.e.Oks E (cx n) n:=okk (.lp fun κe=>bs_.step6 n (od13.k (κe 0)),()) Tryz.func162 (by kernel_rfl)
theorem aU_.ok (n:Nat):aU_.e.Oks E (cx n) n:=okk (.lp fun κe=>aU_.step4 n (od15.k (κe 0)),()) Tryz.func116 (by kernel_rfl)
theorem aL_.ok (n:Nat):aL_.e.Oks E (cx n) n:=okk (.lp fun κe=>aL_.step4 n (od17.k (κe 0)),()) Tryz.func74 (by kernel_rfl)
theorem cp_.ok (n:Nat):cp_.e.Oks E (cx n) n:=okk () Tryz.func69 (by kernel_rfl)
theorem b1_.ok (n:Nat):b1_.e.Oks E (cx n) n:=okk () Tryz.func71 (by kernel_rfl)
theorem bj_.ok (n:Nat):bj_.e.Oks E (cx n) n:=okk () Tryz.func81 (by kernel_rfl)
theorem aj_.ok (n:Nat):aj_.e.Oks E (cx n) n:=okk (.lp fun κe=>aj_.step7 n (od20.k (κe 0)),.lp fun κe=>aj_.step16 n (od21.k (κe 2)),()) Tryz.func76 (by kernel_rfl)
theorem bZ_.ok (n:Nat):bZ_.e.Oks E (cx n) n:=okk (.lp fun κe=>bZ_.step6 n (od9.k (κe 0)),()) Tryz.func230 (by kernel_rfl)
theorem bM_.ok (n:Nat):bM_.e.Oks E (cx n) n:=okk (.lp fun κe=>bM_.step3 n (od24.k (κe 0)),()) Tryz.func177 (by kernel_rfl)
theorem bp_.ok (n:Nat):bp_.e.Oks E (cx n) n:=okk (.lp fun κe=>bp_.step6 n (od9.k (κe 0)),()) Tryz.func124 (by kernel_rfl)
theorem az_.ok (n:Nat):az_.e.Oks E (cx n) n:=okk (.lp fun κe=>az_.step7 n (od28.k (κe 0)),.lp fun κe=>az_.step16 n (od28.k (κe 2)),()) Tryz.func164 (by kernel_rfl)
theorem dT_.ok (n:Nat):dT_.e.Oks E (cx n) n:=okk () Tryz.func165 (by kernel_rfl)
theorem dq_.ok (n:Nat):dq_.e.Oks E (cx n) n:=okk () Tryz.func255 (by kernel_rfl)
theorem bA_.ok (n:Nat):bA_.e.Oks E (cx n) n:=okk (.lp fun κe=>bA_.step3 n (od9.k (κe 0)),()) Tryz.func218 (by kernel_rfl)
theorem bC_.ok (n:Nat):bC_.e.Oks E (cx n) n:=okk () Tryz.func231 (by kernel_rfl)
theorem ed_.ok (n:Nat):ed_.e.Oks E (cx n) n:=okk () Tryz.func256 (by kernel_rfl)
theorem bE_.ok (n:Nat):bE_.e.Oks E (cx n) n:=okk (.lp fun κe=>bE_.step5 n (od31.k (κe 0)),()) Tryz.func219 (by kernel_rfl)
theorem bv_.ok (n:Nat):bv_.e.Oks E (cx n) n:=okk (.lp fun κe=>bv_.step8 n (od33.k (κe 0)),()) Tryz.func166 (by kernel_rfl)
theorem aN_.ok (n:Nat):aN_.e.Oks E (cx n) n:=okk (.lp fun κe=>aN_.step5 n (od35.k (κe 0)),()) Tryz.func167 (by kernel_rfl)
theorem bL_.ok (n:Nat):bL_.e.Oks E (cx n) n:=okk (.lp fun κe=>bL_.step8 n (od37.k (κe 0)),()) Tryz.func117 (by kernel_rfl)
theorem dt_.ok (n:Nat):dt_.e.Oks E (cx n) n:=okk () Tryz.func75 (by kernel_rfl)
theorem bG_.ok (n:Nat):bG_.e.Oks E (cx n) n:=okk (.lp fun κe=>bG_.step4 n (od39.k (κe 0)),()) Tryz.func176 (by kernel_rfl)
theorem cB_.ok (n:Nat):cB_.e.Oks E (cx n) n:=okk () Tryz.func123 (by kernel_rfl)
theorem ds_.ok (n:Nat):ds_.e.Oks E (cx n) n:=okk () Tryz.func118 (by kernel_rfl)
theorem bQ_.ok (n:Nat):bQ_.e.Oks E (cx n) n:=okk (.lp fun κe=>bQ_.step3 n (od9.k (κe 0)),()) Tryz.func224 (by kernel_rfl)
theorem a2_.ok (n:Nat):a2_.e.Oks E (cx n) n:=okk (.lp fun κe=>a2_.step4 n (od42.k (κe 0)),()) Tryz.func169 (by kernel_rfl)
theorem eu_.ok (n:Nat):eu_.e.Oks E (cx n) n:=okk () Tryz.func68 (by kernel_rfl)
theorem c9_.ok (n:Nat):c9_.e.Oks E (cx n) n:=okk () Tryz.func220 (by kernel_rfl)
theorem aQ_.ok (n:Nat):aQ_.e.Oks E (cx n) n:=okk (.lp fun κe=>aQ_.step7 n (od44.k (κe 0)),()) Tryz.func51 (by kernel_rfl)
theorem cL_.ok (n:Nat):cL_.e.Oks E (cx n) n:=okk () Tryz.func223 (by kernel_rfl)
theorem br_.ok (n:Nat):br_.e.Oks E (cx n) n:=okk (.lp fun κe=>br_.step5 n (od46.k (κe 0)),()) Tryz.func87 (by kernel_rfl)
theorem bz_.ok (n:Nat):bz_.e.Oks E (cx n) n:=okk (.lp fun κe=>bz_.step4 n (od48.k (κe 0)),()) Tryz.func221 (by kernel_rfl)
theorem bP_.ok (n:Nat):bP_.e.Oks E (cx n) n:=okk (.lp fun κe=>bP_.step3 n (od50.k (κe 0)),()) Tryz.func188 (by kernel_rfl)
theorem ae_.ok (n:Nat):ae_.e.Oks E (cx n) n:=okk (.lp fun κe=>ae_.step6 n (od52.k (κe 0)),()) Tryz.func189 (by kernel_rfl)
theorem aO_.ok (n:Nat):aO_.e.Oks E (cx n) n:=okk (.lp fun κe=>aO_.step23 n (aO_ n) (od54.k (κe 1)),()) Tryz.func134 (by kernel_rfl)
theorem ch_.ok (n:Nat):ch_.e.Oks E (cx n) n:=okk () Tryz.func93 (by kernel_rfl)
theorem cW_.ok (n:Nat):cW_.e.Oks E (cx n) n:=okk () Tryz.func222 (by kernel_rfl)
theorem bX_.ok (n:Nat):bX_.e.Oks E (cx n) n:=okk (.lp fun κe=>bX_.step4 n (od56.k (κe 0)),()) Tryz.func168 (by kernel_rfl)
theorem c2_.ok (n:Nat):c2_.e.Oks E (cx n) n:=okk () Tryz.func120 (by kernel_rfl)
theorem an_.ok (n:Nat):an_.e.Oks E (cx n) n:=okk (.lp fun κe=>an_.step6 n (an_ n) (od59.k (κe 0)),.lp fun κe=>an_.step14 n (an_ n) (od9.k (κe 2)),()) Tryz.func92 (by kernel_rfl)
theorem dm_.ok (n:Nat):dm_.e.Oks E (cx n) n:=okk () Tryz.func112 (by kernel_rfl)
theorem dL_.ok (n:Nat):dL_.e.Oks E (cx n) n:=okk () Tryz.func119 (by kernel_rfl)
theorem bu_.ok (n:Nat):bu_.e.Oks E (cx n) n:=okk (.lp fun κe=>bu_.step3 n (od61.k (κe 0)),()) Tryz.func225 (by kernel_rfl)
theorem bK_.ok (n:Nat):bK_.e.Oks E (cx n) n:=okk (.lp fun κe=>bK_.step3 n (od63.k (κe 0)),()) Tryz.func226 (by kernel_rfl)
theorem da_.ok (n:Nat):da_.e.Oks E (cx n) n:=okk () Tryz.func171 (by kernel_rfl)
theorem ew_.ok (n:Nat):ew_.e.Oks E (cx n) n:=okk () Tryz.func172 (by kernel_rfl)
theorem d8_.ok (n:Nat):d8_.e.Oks E (cx n) n:=okk () Tryz.func227 (by kernel_rfl)
theorem bg_.ok (n:Nat):bg_.e.Oks E (cx n) n:=okk (.lp fun κe=>bg_.step5 n (od65.k (κe 0)),()) Tryz.func173 (by kernel_rfl)
theorem cb_.ok (n:Nat):cb_.e.Oks E (cx n) n:=okk (.lp fun κe=>cb_.step3 n (od9.k (κe 0)),()) Tryz.func257 (by kernel_rfl)
theorem aI_.ok (n:Nat):aI_.e.Oks E (cx n) n:=okk (.lp fun κe=>aI_.step3 n (od69.k (κe 0)),.lp fun κe=>aI_.step11 n (od69.k (κe 2)),()) Tryz.func228 (by kernel_rfl)
theorem cQ_.ok (n:Nat):cQ_.e.Oks E (cx n) n:=okk () Tryz.func258 (by kernel_rfl)
theorem aB_.ok (n:Nat):aB_.e.Oks E (cx n) n:=okk (.lp fun κe=>aB_.step4 n (aB_ n) (od71.k (κe 0)),()) Tryz.func46 (by kernel_rfl)
theorem c8_.ok (n:Nat):c8_.e.Oks E (cx n) n:=okk () Tryz.func259 (by kernel_rfl)
theorem aF_.ok (n:Nat):aF_.e.Oks E (cx n) n:=okk (.lp fun κe=>aF_.step5 n (od74.k (κe 0)),.lp fun κe=>aF_.step13 n (od75.k (κe 2)),()) Tryz.func229 (by kernel_rfl)
theorem eF_.ok (n:Nat):eF_.e.Oks E (cx n) n:=okk () Tryz.func175 (by kernel_rfl)
theorem bT_.ok (n:Nat):bT_.e.Oks E (cx n) n:=okk (.lp fun κe=>bT_.step4 n (od77.k (κe 0)),()) Tryz.func174 (by kernel_rfl)
theorem cS_.ok (n:Nat):cS_.e.Oks E (cx n) n:=okk () Tryz.func122 (by kernel_rfl)
theorem b6_.ok (n:Nat):b6_.e.Oks E (cx n) n:=okk (.lp fun κe=>b6_.step6 n (od79.k (κe 0)),()) Tryz.func135 (by kernel_rfl)
theorem dI_.ok (n:Nat):dI_.e.Oks E (cx n) n:=okk () Tryz.func110 (by kernel_rfl)
theorem aC_.ok (n:Nat):aC_.e.Oks E (cx n) n:=okk (.lp fun κe=>aC_.step10 n (od80.k (κe 2)),.lp fun κe=>aC_.step4 n (od82.k (κe 0)),()) Tryz.func144 (by kernel_rfl)
theorem dU_.ok (n:Nat):dU_.e.Oks E (cx n) n:=okk () Tryz.func99 (by kernel_rfl)
theorem bi_.ok (n:Nat):bi_.e.Oks E (cx n) n:=okk (.lp fun κe=>bi_.step4 n (od82.k (κe 0)),()) Tryz.func143 (by kernel_rfl)
theorem aM_.ok (n:Nat):aM_.e.Oks E (cx n) n:=okk (.lp fun κe=>aM_.step17 n (aM_ n) (od85.k (κe 1)),()) Tryz.func98 (by kernel_rfl)
theorem cY_.ok (n:Nat):cY_.e.Oks E (cx n) n:=okk () Tryz.func52 (by kernel_rfl)
theorem aY_.ok (n:Nat):aY_.e.Oks E (cx n) n:=okk (.lp fun κe=>aY_.step4 n (od87.k (κe 0)),()) Tryz.func170 (by kernel_rfl)
theorem dK_.ok (n:Nat):dK_.e.Oks E (cx n) n:=okk () Tryz.func121 (by kernel_rfl)
theorem cJ_.ok (n:Nat):cJ_.e.Oks E (cx n) n:=okk () Tryz.func77 (by kernel_rfl)
theorem c7_.ok (n:Nat):c7_.e.Oks E (cx n) n:=okk () Tryz.func127 (by kernel_rfl)
theorem ex_.ok (n:Nat):ex_.e.Oks E (cx n) n:=okk () Tryz.func178 (by kernel_rfl)
theorem bm_.ok (n:Nat):bm_.e.Oks E (cx n) n:=okk (.lp fun κe=>bm_.step4 n (od89.k (κe 0)),()) Tryz.func125 (by kernel_rfl)
theorem eS_.ok (n:Nat):eS_.e.Oks E (cx n) n:=okk () Tryz.func179 (by kernel_rfl)
theorem ec_.ok (n:Nat):ec_.e.Oks E (cx n) n:=okk () Tryz.func126 (by kernel_rfl)
theorem aw_.ok (n:Nat):aw_.e.Oks E (cx n) n:=okk (.tl fun κd _=>aw_.tail9 n (od90.k κd),.lp fun κe=>aw_.step5 n (od92.k (κe 0)),()) Tryz.func79 (by kernel_rfl)
theorem a7_.ok (n:Nat):a7_.e.Oks E (cx n) n:=okk (.lp fun κe=>a7_.step12 n (od94.k (κe 0)),()) Tryz.func78 (by kernel_rfl)
theorem cX_.ok (n:Nat):cX_.e.Oks E (cx n) n:=okk () Tryz.func180 (by kernel_rfl)
theorem aR_.ok (n:Nat):aR_.e.Oks E (cx n) n:=okk (.lp fun κe=>aR_.step4 n (od96.k (κe 0)),()) Tryz.func128 (by kernel_rfl)
theorem cM_.ok (n:Nat):cM_.e.Oks E (cx n) n:=okk () Tryz.func80 (by kernel_rfl)
theorem ao_.ok (n:Nat):ao_.e.Oks E (cx n) n:=okk (.tl fun κd _=>ao_.tail8 n (od98.k κd),.lp fun κe=>ao_.step7 n (od99.k (κe 0)),.tl fun _ _=>ao_.tail1 n,()) Tryz.func36 (by kernel_rfl)
theorem cw_.ok (n:Nat):cw_.e.Oks E (cx n) n:=okk () Tryz.func9 (by kernel_rfl)
theorem cH_.ok (n:Nat):cH_.e.Oks E (cx n) n:=okk () Tryz.func88 (by kernel_rfl)
theorem aA_.ok (n:Nat):aA_.e.Oks E (cx n) n:=okk (.lp fun κe=>aA_.step4 n (aA_ n) (od71.k (κe 0)),()) Tryz.func42 (by kernel_rfl)
theorem cZ_.ok (n:Nat):cZ_.e.Oks E (cx n) n:=okk () Tryz.func41 (by kernel_rfl)
theorem aJ_.ok (n:Nat):aJ_.e.Oks E (cx n) n:=okk () Tryz.func55 (by kernel_rfl)
theorem cT_.ok (n:Nat):cT_.e.Oks E (cx n) n:=okk () Tryz.func54 (by kernel_rfl)
theorem bb_.ok (n:Nat):bb_.e.Oks E (cx n) n:=okk () Tryz.func233 (by kernel_rfl)
theorem ay_.ok (n:Nat):ay_.e.Oks E (cx n) n:=okk (.lp fun κe=>ay_.step3 n (od50.k (κe 0)),()) Tryz.func183 (by kernel_rfl)
theorem as_.ok (n:Nat):as_.e.Oks E (cx n) n:=okk (.lp fun κe=>as_.step3 n (od9.k (κe 0)),()) Tryz.func234 (by kernel_rfl)
theorem eB_.ok (n:Nat):eB_.e.Oks E (cx n) n:=okk () Tryz.func182 (by kernel_rfl)
theorem bt_.ok (n:Nat):bt_.e.Oks E (cx n) n:=okk (.lp fun κe=>bt_.step7 n (bt_ n) (od104.k (κe 0)),()) Tryz.func131 (by kernel_rfl)
theorem cN_.ok (n:Nat):cN_.e.Oks E (cx n) n:=okk () Tryz.func89 (by kernel_rfl)
theorem bH_.ok (n:Nat):bH_.e.Oks E (cx n) n:=okk (.lp fun κe=>bH_.step4 n (od82.k (κe 0)),()) Tryz.func138 (by kernel_rfl)
theorem a1_.ok (n:Nat):a1_.e.Oks E (cx n) n:=okk (.lp fun κe=>a1_.step4 n (a1_ n) (od107.k (κe 0)),()) Tryz.func96 (by kernel_rfl)
theorem dW_.ok (n:Nat):dW_.e.Oks E (cx n) n:=okk () Tryz.func49 (by kernel_rfl)
theorem dz_.ok (n:Nat):dz_.e.Oks E (cx n) n:=okk () Tryz.func56 (by kernel_rfl)
theorem b9_.ok (n:Nat):b9_.e.Oks E (cx n) n:=okk (.lp fun κe=>b9_.step3 n (od79.k (κe 0)),()) Tryz.func132 (by kernel_rfl)
theorem dP_.ok (n:Nat):dP_.e.Oks E (cx n) n:=okk () Tryz.func140 (by kernel_rfl)
theorem bI_.ok (n:Nat):bI_.e.Oks E (cx n) n:=okk (.lp fun κe=>bI_.step4 n (od110.k (κe 0)),()) Tryz.func141 (by kernel_rfl)
theorem dV_.ok (n:Nat):dV_.e.Oks E (cx n) n:=okk () Tryz.func142 (by kernel_rfl)
theorem d9_.ok (n:Nat):d9_.e.Oks E (cx n) n:=okk () Tryz.func97 (by kernel_rfl)
theorem bl_.ok (n:Nat):bl_.e.Oks E (cx n) n:=okk (.lp fun κe=>bl_.step4 n (od112.k (κe 0)),()) Tryz.func50 (by kernel_rfl)
theorem dc_.ok (n:Nat):dc_.e.Oks E (cx n) n:=okk () Tryz.func57 (by kernel_rfl)
theorem dR_.ok (n:Nat):dR_.e.Oks E (cx n) n:=okk () Tryz.func18 (by kernel_rfl)
theorem aH_.ok (n:Nat):aH_.e.Oks E (cx n) n:=okk (.lp fun κe=>aH_.step6 n (od9.k (κe 0)),()) Tryz.func260 (by kernel_rfl)
theorem ai_.ok (n:Nat):ai_.e.Oks E (cx n) n:=okk (.lp fun κe=>ai_.step6 n (dy_ n) (od9.k (κe 0)),()) Tryz.func261 (by kernel_rfl)
theorem dy_.ok (n:Nat):dy_.e.Oks E (cx n) n:=okk () Tryz.func235 (by kernel_rfl)
theorem eA_.ok (n:Nat):eA_.e.Oks E (cx n) n:=okk () Tryz.func184 (by kernel_rfl)
theorem ct_.ok (n:Nat):ct_.e.Oks E (cx n) n:=okk () Tryz.func280 (by kernel_rfl)
theorem cK_.ok (n:Nat):cK_.e.Oks E (cx n) n:=okk () Tryz.func262 (by kernel_rfl)
theorem b2_.ok (n:Nat):b2_.e.Oks E (cx n) n:=okk () Tryz.func263 (by kernel_rfl)
theorem al_.ok (n:Nat):al_.e.Oks E (cx n) n:=okk (.lp fun κe=>al_.step4 n (od116.k (κe 0)),()) Tryz.func236 (by kernel_rfl)
theorem dw_.ok (n:Nat):dw_.e.Oks E (cx n) n:=okk () Tryz.func239 (by kernel_rfl)
theorem dQ_.ok (n:Nat):dQ_.e.Oks E (cx n) n:=okk () Tryz.func185 (by kernel_rfl)
theorem aG_.ok (n:Nat):aG_.e.Oks E (cx n) n:=okk (.lp fun κe=>aG_.step3 n (od9.k (κe 0)),()) Tryz.func211 (by kernel_rfl)
theorem dv_.ok (n:Nat):dv_.e.Oks E (cx n) n:=okk () Tryz.func186 (by kernel_rfl)
theorem db_.ok (n:Nat):db_.e.Oks E (cx n) n:=okk () Tryz.func187 (by kernel_rfl)
theorem cC_.ok (n:Nat):cC_.e.Oks E (cx n) n:=okk () Tryz.func133 (by kernel_rfl)
theorem eC_.ok (n:Nat):eC_.e.Oks E (cx n) n:=okk () Tryz.func90 (by kernel_rfl)
theorem a9_.ok (n:Nat):a9_.e.Oks E (cx n) n:=okk (.lp fun κe=>a9_.step7 n (od119.k (κe 0)),()) Tryz.func43 (by kernel_rfl)
theorem cI_.ok (n:Nat):cI_.e.Oks E (cx n) n:=okk () Tryz.func13 (by kernel_rfl)
theorem a3_.ok (n:Nat):a3_.e.Oks E (cx n) n:=okk (.lp fun κe=>a3_.step4 n (od121.k (κe 0)),()) Tryz.func10 (by kernel_rfl)
theorem dJ_.ok (n:Nat):dJ_.e.Oks E (cx n) n:=okk () Tryz.func44 (by kernel_rfl)
theorem bD_.ok (n:Nat):bD_.e.Oks E (cx n) n:=okk (.lp fun κe=>bD_.step4 n (od123.k (κe 0)),()) Tryz.func53 (by kernel_rfl)
theorem dM_.ok (n:Nat):dM_.e.Oks E (cx n) n:=okk () Tryz.func45 (by kernel_rfl)
theorem dH_.ok (n:Nat):dH_.e.Oks E (cx n) n:=okk () Tryz.func190 (by kernel_rfl)
theorem ck_.ok (n:Nat):ck_.e.Oks E (cx n) n:=okk (.lp fun κe=>ck_.step3 n (od9.k (κe 0)),()) Tryz.func86 (by kernel_rfl)
theorem bk_.ok (n:Nat):bk_.e.Oks E (cx n) n:=okk (.lp fun κe=>bk_.step7 n (od49.k (κe 0)),()) Tryz.func232 (by kernel_rfl)
theorem ek_.ok (n:Nat):ek_.e.Oks E (cx n) n:=okk () Tryz.func181 (by kernel_rfl)
theorem et_.ok (n:Nat):et_.e.Oks E (cx n) n:=okk () Tryz.func242 (by kernel_rfl)
theorem c3_.ok (n:Nat):c3_.e.Oks E (cx n) n:=okk (.tl fun κd _=>c3_.tail17 n (od128.k κd),.tl fun _ _=>c3_.tail8 n,()) Tryz.func191 (by kernel_rfl)
theorem c1_.ok (n:Nat):c1_.e.Oks E (cx n) n:=okk () Tryz.func136 (by kernel_rfl)
theorem ev_.ok (n:Nat):ev_.e.Oks E (cx n) n:=okk () Tryz.func94 (by kernel_rfl)
theorem be_.ok (n:Nat):be_.e.Oks E (cx n) n:=okk (.lp fun κe=>be_.step7 n (od130.k (κe 0)),()) Tryz.func47 (by kernel_rfl)
theorem cG_.ok (n:Nat):cG_.e.Oks E (cx n) n:=okk () Tryz.func14 (by kernel_rfl)
theorem a0_.ok (n:Nat):a0_.e.Oks E (cx n) n:=okk (.lp fun κe=>a0_.step4 n (od132.k (κe 0)),()) Tryz.func11 (by kernel_rfl)
theorem cU_.ok (n:Nat):cU_.e.Oks E (cx n) n:=okk () Tryz.func60 (by kernel_rfl)
theorem cV_.ok (n:Nat):cV_.e.Oks E (cx n) n:=okk () Tryz.func85 (by kernel_rfl)
theorem ab_.ok (n:Nat):ab_.e.Oks E (cx n) n:=okk (.lp fun κe=>ab_.step20 n (ab_ n) (od135.k (κe 1)),.lp fun κe=>ab_.step28 n (ab_ n) (od136.k (κe 3)),()) Tryz.func40 (by kernel_rfl)
theorem aq_.ok (n:Nat):aq_.e.Oks E (cx n) n:=okk (.tl fun κd _=>aq_.tail10 n (od138.k κd),.lp fun κe=>aq_.step5 n (od140.k (κe 0)),.tl fun _ _=>aq_.tail1 n,()) Tryz.func106 (by kernel_rfl)
theorem cE_.ok (n:Nat):cE_.e.Oks E (cx n) n:=okk () Tryz.func59 (by kernel_rfl)
theorem bo_.ok (n:Nat):bo_.e.Oks E (cx n) n:=okk (.lp fun κe=>bo_.step10 n (od142.k (κe 1)),()) Tryz.func82 (by kernel_rfl)
theorem ba_.ok (n:Nat):ba_.e.Oks E (cx n) n:=okk (.lp fun κe=>ba_.step4 n (od144.k (κe 0)),()) Tryz.func129 (by kernel_rfl)
theorem cr_.ok (n:Nat):cr_.e.Oks E (cx n) n:=okk (.lp fun κe=>cr_.step6 n (od146.k (κe 0)),()) Tryz.func130 (by kernel_rfl)
theorem dk_.ok (n:Nat):dk_.e.Oks E (cx n) n:=okk () Tryz.func83 (by kernel_rfl)
theorem dr_.ok (n:Nat):dr_.e.Oks E (cx n) n:=okk () Tryz.func38 (by kernel_rfl)
theorem bU_.ok (n:Nat):bU_.e.Oks E (cx n) n:=okk (.tl fun _ _=>bU_.tail6 n,()) Tryz.func12 (by kernel_rfl)
theorem laws_FnClient.ok (n:Nat):laws_FnClient.e.Oks E (cx n) n:=okk (.tl fun _ _=>laws_FnClient.tail11 n,.tl fun _ _=>laws_FnClient.tail5 n,()) Tryz.func3 (by kernel_rfl)
end Go.Pi
end
section
namespace Go.Pi
def InsM (P:Program) (f:FuncId) (e:TypeId) (K B:Nat):Prop :=
 ∀ (w:World) (S:Value) (n:Nat) (vals:List Value) (U:Value) (m:Nat) (us:List Value) (i:Nat),w.ownsRow 0 e K S n vals→w.ownsRow 0 e K U m us→(∀ b,ce_ S b≠0→ce_ U b=0)→i≤n →
   (∀ v ∈ vals,v.oneCell'=true)→(∀ v ∈ us,v.oneCell'=true)→(n+m)*B≤140737488355328 →
   Calls P f (List.toArray [S,.int .i64 i,U]) w fun e' w'=>∃ R,e' = .returned R∧w'.ownsRow 0 e K R (n+m) (vals.take (i*K)++us++vals.drop (i*K))∧jz_ w w' (fun b=>ce_ S b≠0) ∧
    ∀ b,ce_ R b≠0→(w.heap.size≤b∨ce_ S b≠0)∧b<w'.heap.size
def DelM (P:Program) (f:FuncId) (e:TypeId) (K:Nat):Prop :=
 ∀ (w:World) (S:Value) (n:Nat) (vals:List Value) (i j:Nat),w.ownsRow 0 e K S n vals→i≤j→j≤n→(∀ v ∈ vals,v.oneCell'=true) →
   Calls P f (List.toArray [S,.int .i64 i,.int .i64 j]) w fun e' w'=>∃ R,e' = .returned R∧w'.ownsRow 0 e K R (n - (j - i)) (vals.take (i*K)++vals.drop (j*K))∧jz_ w w' (fun b=>ce_ S b≠0) ∧
    ∀ b,ce_ R b≠0→(w.heap.size≤b∨ce_ S b≠0)∧b<w'.heap.size
def M.both:M→M→M
 |.d,.d=>.d
 |_,_=>.s
variable [ah_]
open ah_
variable {E:Env} {w w':World} {F F':Nat→Prop}
theorem RL.own_inv {m t xs v l vs φ} (hm:m ≠ .v) (h:RL E w F (.sl m t xs::l) (v::vs) φ):∃ vals φ₁ φ₂,w.ownsRow 0 (E.eid t) t.width v xs.length vals∧RL E w F (aS_ m.sub t xs) vals φ₁∧(∀ b,ce_ v b≠0→F b)∧RL E w F l vs φ₂∧∀ b,φ b=ce_ v b+φ₁ b+φ₂ b:=by
 cases h with
 |scal _ _ _ _ _ h=>exact h.elim
 |view=>exact absurd rfl hm
 |own m t xs v vals φ₁ l vs φ₂ φ h1 h2 h3 h4 h5 h6=>exact ⟨vals,φ₁,φ₂,h2,h3,h4,h5,h6⟩
theorem RL.len_inv {a l Vs φ} (h:RL E w F (a::l) Vs φ):∃ v vs,Vs=v::vs:=by
 obtain ⟨v,vs,_,_,h,_⟩:=RL.uncons h
 exact ⟨v,vs,h⟩
theorem p2_ [ak_] {φ:Nat→Nat} (h1:∀ b,φ b≤1) (low:∀ b,φ b≠0→F b∧b<w.heap.size) {S:Value} (hSF:∀ b,ce_ S b≠0→F b) {t:TC} {zs:List (El t)} {vals:List Value} {ψ:Nat→Nat}
  (hz:RL E w F (aS_ .d t zs) vals ψ) (eφ:∀ b,ce_ S b+ψ b≤φ b) {R:Value} (hR:w'.ownsRow 0 (E.eid t) t.width R zs.length vals) (hg:jz_ w w' (fun b=>ce_ S b≠0))
  (hRb:∀ b,ce_ R b≠0→(w.heap.size≤b∨ce_ S b≠0)∧b<w'.heap.size) :
  ∃ φ',RL E w' (fun b=>(F b∧φ b=0)∨φ' b≠0) [.sl .d t zs] [R] φ'∧(∀ b,φ' b≤1)∧(∀ b,φ' b≠0→φ b≠0∨w.heap.size≤b) ∧
    w'.os=w.os∧w'.tape=w.tape∧w'.output=w.output∧w.heap.size≤w'.heap.size∧∀ b,b<w.heap.size→φ b=0→w'.heap[b]?=w.heap[b]?:=by
 have key:∀ b,ce_ R b≠0→ce_ S b≠0∨w.heap.size≤b:=fun b hb=>(hRb b hb).1.symm
 have elt:∀ b,ψ b≠0→ce_ R b=0∧ce_ S b=0:=fun b hb=>by
  have q1:=eφ b;have q2:=h1 b
  have s0:ce_ S b=0:=by omega
  refine ⟨Classical.byContradiction fun hr => ?_,s0⟩
  rcases key b hr with hs|hs
  · exact hs s0
  · have:=(low b (by omega)).2;omega
 refine ⟨fun b=>ce_ R b+ψ b,?_,fun b => ?_,fun b hb => ?_,hg.os,hg.tape,hg.output,hg.size,fun b hb h0=>hg.heap b hb fun hc=>hc (by have:=eφ b;omega)⟩
 · refine .own .d t zs R vals ψ [] _ (fun _=>0) _ (by decide) hR ?_ (fun b hb=>.inr (by show ce_ R b+_≠0;omega)) (.nil _ fun _=>rfl) (fun b=>rfl)
   refine hz.frame hg.size (fun b hb=>⟨hg.heap b (hz.low b hb).2 fun hc=>hc (elt b hb).2,.inr (by show ce_ R b+ψ b≠0;omega)⟩) fun b hb hn=>⟨hg.heap b hb fun hc=>hn (hSF b hc),fun hc => ?_⟩
   rcases hc with ⟨hf,-⟩|hc
   · exact hn hf
   · have hc:ce_ R b+ψ b≠0:=hc
     by_cases hr0:ce_ R b=0
     · exact hn (hz.low b (by omega)).1
     · rcases key b hr0 with hs|hs
       · exact hn (hSF b hs)
       · omega
 · show ce_ R b+ψ b≤1
   have q1:=eφ b;have q2:=h1 b;have:=mR_ R b
   by_cases h0:ψ b=0
   · omega
   · have:=elt b h0;omega
 · have hb:ce_ R b+ψ b≠0:=hb
   by_cases h0:ψ b=0
   · rcases key b (by omega) with hs|hs
     · exact .inl (by have:=eφ b;omega)
     · exact .inr hs
   · exact .inl (by have:=eφ b;omega)
theorem l0_ [ak_] {φ:Nat→Nat} (h1:∀ b,φ b≤1) (low:∀ b,φ b≠0→F b∧b<w.heap.size) {S:Value} (hSF:∀ b,ce_ S b≠0→F b) {t:TC} {zs:List (El t)} {L:List AV} {vals:List Value} {ψ:Nat→Nat}
  (hz:RL E w F L vals ψ) (hL:L.map AV.asView=aS_ .v t zs) (eφ:∀ b,ce_ S b+ψ b≤φ b) {R:Value} (hR:w'.ownsRow 0 (E.eid t) t.width R zs.length vals) (hg:jz_ w w' (fun b=>ce_ S b≠0))
  (hRb:∀ b,ce_ R b≠0→(w.heap.size≤b∨ce_ S b≠0)∧b<w'.heap.size) :
  ∃ φ',RL E w' (fun b=>(F b∧φ b=0)∨φ' b≠0) [.sl .s t zs] [R] φ'∧(∀ b,φ' b≤1)∧(∀ b,φ' b≠0→φ b≠0∨w.heap.size≤b) ∧
    w'.os=w.os∧w'.tape=w.tape∧w'.output=w.output∧w.heap.size≤w'.heap.size∧∀ b,b<w.heap.size→φ b=0→w'.heap[b]?=w.heap[b]?:=by
 have key:∀ b,ce_ R b≠0→ce_ S b≠0∨w.heap.size≤b:=fun b hb=>(hRb b hb).1.symm
 have hv:=hz.seen (F':=fun b=>F b∧ψ b=0) (fun b hb hc=>hb hc.2) (fun b _ hn hc=>hn hc.1)
 rw [hL] at hv
 refine ⟨ce_ R,?_,mR_ R,fun b hb => ?_,hg.os,hg.tape,hg.output,hg.size,fun b hb h0=>hg.heap b hb fun hc=>hc (by have:=eφ b;omega)⟩
 · refine .own .s t zs R vals (fun _=>0) [] _ (fun _=>0) _ (by decide) hR ?_ (fun b hb=>.inr hb) (.nil _ fun _=>rfl) (fun b=>rfl)
   refine hv.frame hg.size (fun b hb=>absurd rfl hb) fun b hb hn=>⟨hg.heap b hb fun hc=>hn ⟨hSF b hc,by have:=eφ b;have:=h1 b;omega⟩,fun hc => ?_⟩
   rcases hc with ⟨hf,h0⟩|hc
   · exact hn ⟨hf,by have:=eφ b;omega⟩
   · rcases key b hc with hs|hs
     · exact hn ⟨hSF b hs,by have:=eφ b;have:=h1 b;omega⟩
     · omega
 · rcases key b hb with hs|hs
   · exact .inl (by have:=eφ b;omega)
   · exact .inr hs
theorem RL.int_inv {k n l v vs φ} (h:RL E w F (.i k n::l) (v::vs) φ):v = .int k n∧RL E w F l vs φ:=by
 cases h with
 |scal _ _ _ _ _ h1 h2=>exact ⟨h1,h2⟩
theorem codedD [ak_] {m:M} {t:TC} (zs:List (El t)):∀ a ∈ aS_ m t zs,∃ m,a.coded m:=fun a ha=>⟨m,dC_ a ha⟩
theorem q5_ [ak_] {f:FuncId} {t:TC} {m1 m2:M} (hm1:m1 ≠ .v) (hm2:m2 ≠ .v) (h:InsM E.P f (E.eid t) t.width t.bytes) {xs ys:List (El t)} {i:Nat} (hi:i≤xs.length) (hb:(xs.length+ys.length)*t.bytes≤140737488355328) :
  ea_ E f [.sl m1 t xs,.i .i64 i,.sl m2 t ys] (.sl (M.both m1 m2) t (xs.take i++ys++xs.drop i)) [] [.o,.v,.o]:=by
 intro w F Vs φ hrl h1 hlow _
 have low:∀ b,φ b≠0→F b∧b<w.heap.size:=hrl.low
 obtain ⟨S,_,rfl⟩:=hrl.len_inv
 replace hrl:=hrl.own_inv hm1
 obtain ⟨vals,φx,φ2,hS,hx,hSF,hrl,e1⟩:=hrl
 obtain ⟨I,_,rfl⟩:=hrl.len_inv
 replace hrl:=hrl.int_inv
 obtain ⟨rfl,hrl⟩:=hrl
 obtain ⟨U,_,rfl⟩:=hrl.len_inv
 replace hrl:=hrl.own_inv hm2
 obtain ⟨us,φy,φ4,hU,hy,hUF,hrl,e3⟩:=hrl
 obtain ⟨rfl,e4⟩:=RL.nil_inv hrl
 have eφ:∀ b,φ b=ce_ S b+φx b+(ce_ U b+φy b):=fun b=>by rw [e1,e3,e4];omega
 refine (h w S xs.length vals U ys.length us i hS hU (fun b hb=>by have:=h1 b;have:=eφ b;omega) hi (hx.one (codedD _)) (hy.one (codedD _)) hb).mono ?_
 rintro e' w' ⟨R,rfl,hR,hg,hRb⟩
 have hx':RL E w F (aS_ m1.sub t (xs.take i)++aS_ m1.sub t (xs.drop i)) vals φx:=by rw [←ci_,List.take_append_drop];exact hx
 obtain ⟨va,vb,φa,φb,rfl,ha,hb',e6⟩:=hx'.split
 have hla:va.length=i*t.width:=by rw [←ha.length,dd_,List.length_take,Nat.min_eq_left hi]
 rw [←hla,List.take_left,List.drop_left] at hR
 have hz:RL E w F (aS_ m1.sub t (xs.take i)++aS_ m2.sub t ys++aS_ m1.sub t (xs.drop i)) (va++us++vb) (fun b=>φa b+φy b+φb b) :=
  (ha.append hy (ψ:=fun b=>φa b+φy b) (fun b=>rfl)).append hb' (fun b=>rfl)
 have hl:(xs.take i++ys++xs.drop i).length=xs.length+ys.length:=by simp;omega
 have he:∀ b,ce_ S b+(φa b+φy b+φb b)≤φ b:=fun b=>by have:=eφ b;have:=e6 b;omega
 by_cases hd:m1 = .d∧m2 = .d
 · obtain ⟨rfl,rfl⟩:=hd
   have hz':RL E w F (aS_ .d t (xs.take i++ys++xs.drop i)) (va++us++vb) (fun b=>φa b+φy b+φb b):=by
    rw [ci_,ci_];exact hz
   obtain ⟨φ',k1,k2⟩:=p2_ (S:=S) (R:=R) h1 low hSF hz' he (by rw [hl];exact hR) hg hRb
   exact ⟨R,φ',rfl,k1,k2⟩
 · have hb2:M.both m1 m2 = .s:=by cases m1<;>cases m2<;>first|rfl|exact absurd rfl hm1|exact absurd rfl hm2|exact absurd ⟨rfl,rfl⟩ hd
   rw [hb2]
   obtain ⟨φ',k1,k2⟩:=l0_ (S:=S) (R:=R) (t:=t) (zs:=xs.take i++ys++xs.drop i) h1 low hSF hz (by rw [List.map_append,List.map_append,e8_,e8_,e8_,ci_,ci_]) he (by rw [hl];exact hR) hg hRb
   exact ⟨R,φ',rfl,k1,k2⟩
theorem rl_ [ak_] {f:FuncId} {t:TC} {m:M} (hm0:m ≠ .v) (h:DelM E.P f (E.eid t) t.width) {xs:List (El t)} {i j:Nat} (hij:i≤j) (hj:j≤xs.length) :
  ea_ E f [.sl m t xs,.i .i64 i,.i .i64 j] (.sl (M.both m m) t (xs.take i++xs.drop j)) [] [.o,.v,.v]:=by
 intro w F Vs φ hrl h1 hlow _
 have low:∀ b,φ b≠0→F b∧b<w.heap.size:=hrl.low
 obtain ⟨S,_,rfl⟩:=hrl.len_inv
 replace hrl:=hrl.own_inv hm0
 obtain ⟨vals,φx,φ2,hS,hx,hSF,hrl,e1⟩:=hrl
 obtain ⟨I,_,rfl⟩:=hrl.len_inv
 replace hrl:=hrl.int_inv
 obtain ⟨rfl,hrl⟩:=hrl
 obtain ⟨J,_,rfl⟩:=hrl.len_inv
 replace hrl:=hrl.int_inv
 obtain ⟨rfl,hrl⟩:=hrl
 obtain ⟨rfl,e4⟩:=RL.nil_inv hrl
 have eφ:∀ b,φ b=ce_ S b+φx b:=fun b=>by rw [e1,e4];omega
 refine (h w S xs.length vals i j hS hij hj (hx.one (codedD _))).mono ?_
 rintro e' w' ⟨R,rfl,hR,hg,hRb⟩
 have hx':RL E w F (aS_ m.sub t (xs.take i)++(aS_ m.sub t ((xs.drop i).take (j - i))++aS_ m.sub t (xs.drop j))) vals φx:=by
  rw [←ci_,←ci_]
  have:xs.drop j=(xs.drop i).drop (j - i):=by rw [List.drop_drop];congr 1;omega
  rw [this,List.take_append_drop,List.take_append_drop];exact hx
 obtain ⟨va,vc,φa,φc,rfl,ha,hc,e6⟩:=hx'.split
 obtain ⟨vm,vb,φm,φb,rfl,hm,hb',e7⟩:=hc.split
 have hla:va.length=i*t.width:=by rw [←ha.length,dd_,List.length_take,Nat.min_eq_left (by omega)]
 have hlm:vm.length=(j - i)*t.width:=by rw [←hm.length,dd_,List.length_take,List.length_drop,Nat.min_eq_left (by omega)]
 have hlj:(va++vm).length=j*t.width:=by rw [List.length_append,hla,hlm,←Nat.add_mul];congr 1;omega
 rw [←hla,List.take_left,←hlj,←List.append_assoc,List.drop_left] at hR
 have hz:RL E w F (aS_ m.sub t (xs.take i)++aS_ m.sub t (xs.drop j)) (va++vb) (fun b=>φa b+φb b):=ha.append hb' (fun b=>rfl)
 have hl:(xs.take i++xs.drop j).length=xs.length - (j - i):=by simp;omega
 have he:∀ b,ce_ S b+(φa b+φb b)≤φ b:=fun b=>by have:=eφ b;have:=e6 b;have:=e7 b;omega
 cases m with
 |v=>exact absurd rfl hm0
 |d=>
  have hz':RL E w F (aS_ .d t (xs.take i++xs.drop j)) (va++vb) (fun b=>φa b+φb b):=by
   rw [ci_];exact hz
  obtain ⟨φ',k1,k2⟩:=p2_ (S:=S) (R:=R) h1 low hSF hz' he (by rw [hl];exact hR) hg hRb
  exact ⟨R,φ',rfl,k1,k2⟩
 |s=>
  obtain ⟨φ',k1,k2⟩:=l0_ (S:=S) (R:=R) (t:=t) (zs:=xs.take i++xs.drop j) h1 low hSF hz (by rw [List.map_append,e8_,e8_,ci_]) he (by rw [hl];exact hR) hg hRb
  exact ⟨R,φ',rfl,k1,k2⟩
theorem nDel_ok [ak_] {f:FuncId} {t:TC} {m:M} (hm0:m ≠ .v) (h:DelM E.P f (E.eid t) t.width) {xs r:List (El t)} {i j:Int} (hr:ji_ xs i j=some r) :
  ea_ E f [.sl m t xs,.i .i64 i,.i .i64 j] (.sl (M.both m m) t r) [] [.o,.v,.v]:=by
 unfold ji_ at hr
 by_cases hc:0≤i∧i≤j∧j≤(xs.length:Int)
 · obtain ⟨h1,h2,h3⟩:=hc
   obtain ⟨i,rfl⟩:=Int.eq_ofNat_of_zero_le h1
   obtain ⟨j,rfl⟩:=Int.eq_ofNat_of_zero_le (Int.le_trans h1 h2)
   simp only [h1,h2,h3,decide_true,Bool.and_true,cond_true,Option.some.injEq] at hr
   subst hr
   exact rl_ hm0 h (by omega) (by omega)
 · have:(decide (0≤i)&&(decide (i≤j)&&decide (j≤(xs.length:Int))))=false:=by
    rw [Bool.eq_false_iff];intro h;simp only [Bool.and_eq_true,decide_eq_true_eq] at h;exact hc h
   rw [this] at hr;cases hr
theorem nIns_ok [ak_] {f:FuncId} {t:TC} {m1 m2:M} (hm1:m1 ≠ .v) (hm2:m2 ≠ .v) (h:InsM E.P f (E.eid t) t.width t.bytes) {xs ys r:List (El t)} {i:Int} (hr:jh_ t.bytes xs i ys=some r) :
  ea_ E f [.sl m1 t xs,.i .i64 i,.sl m2 t ys] (.sl (M.both m1 m2) t r) [] [.o,.v,.o]:=by
 unfold jh_ at hr
 by_cases hc:0≤i∧i≤(xs.length:Int)
 · obtain ⟨h1,h2⟩:=hc
   obtain ⟨i,rfl⟩:=Int.eq_ofNat_of_zero_le h1
   by_cases hb:(xs.length+ys.length)*t.bytes≤140737488355328
   · simp only [h1,h2,hb,decide_true,Bool.and_true,cond_true,Option.some.injEq] at hr
     subst hr
     exact q5_ hm1 hm2 h (by omega) hb
   · simp [h1,h2,hb] at hr
 · have:(decide (0≤i)&&decide (i≤(xs.length:Int)))=false:=by
    rw [Bool.eq_false_iff];intro h;simp only [Bool.and_eq_true,decide_eq_true_eq] at h;exact hc h
   rw [this] at hr;cases hr
end Go.Pi
end
section
namespace Go.Proofs
open Go.Shelf Go.RowKit Go.Lib Go.Pi
section
variable {P:Program}
theorem gV_ {ops:Array Oper} {o:Oper} {a:Act} {w:World} {K:Act→World→Prop} {Q:Exit→Act→World→Prop} {E:Prop}
  (hg:o.guard=none) (d x:Operand) (dT sT:TypeId) (hop:o.op=Op.call { callee:=Callee.builtin Builtin.append,args:=#[d,x],argTypes:=#[dT,sT] })
  (v u:Value) (hd:a.eval d=v) (hx:a.eval x=u) {v':Value} {w':World} (hr:(Builtin.append_ #[dT,sT] o.type #[v,u]).run P w = .ok v' w') (hK:K (a.put o.dst v') w') :
  if Region.wanted o (yielded ops a.tmps)=true then Oper.wp P o a w K Q else E:=by
 have hw:Region.wanted o (yielded ops a.tmps)=true:=by simp [Region.wanted,hg]
 rw [if_pos hw]
 unfold Oper.wp
 simp [execOp,hop,resolve,invoke,builtin,hd,hx,hr,Result.andThen]
 exact hK
theorem qO_ (w:World) {ops:Array Oper} {hX_:List Oper} {o:Oper} {a:Act} {Q:Exit→Act→World→Prop} (hgd:o.guard=none) (d:Operand) (t:TypeId)
  (ho:o.op = .call { callee:=.builtin .clear,args:=#[d],argTypes:=#[t] }) (v:Value) (hd:a.eval d=v) {v':Value} {w':World}
  (hr:(Builtin.clear_ #[t] o.type #[v]).run P w = .ok v' w') (h:wpList P ops Q hX_ (a.put o.dst v') w'):wpList P ops Q (o::hX_) a w :=
 wpList_plain hgd fun _ hK=>by
  unfold Oper.wp execOp
  simp only [ho,resolve,invoke,builtin,Sem.run_bind,Sem.run_pure,Result.andThen_ok,List.map_toArray,List.map_cons,List.map_nil,hd,hr]
  exact hK _ _ h
theorem kI_ (w:World) (t e ty:TypeId) (z:Value) (ht:P.underlying t=some (.slice e)) (hv:∀ w,(zeroValue e).run P w = .ok z w) (g o n c:Nat) (hn:0<n) (cur:Array Value) (T:TypeId) (hg:w.heap[g]?=some (.cells cur T (0,0)))
  (hfit:o+(Builtin.zeroCells z.cells n).toList.length≤cur.size) (h1:∀ v ∈ (Builtin.zeroCells z.cells n).toList,v.oneCell'=true) :
  (Builtin.clear_ #[t] ty #[.slice (some ⟨g,o,none⟩) n c]).run P w = .ok (.tuple #[]) (w.setRow g (cur.toList.take o++(Builtin.zeroCells z.cells n).toList++cur.toList.drop (o+(Builtin.zeroCells z.cells n).toList.length)).toArray):=by
 have hst:=run_storeCells_at P g o T (Builtin.zeroCells z.cells n).toList 0 cur w hg (by simpa using hfit) h1
 obtain ⟨m,rfl⟩:∃ m,n=m+1:=⟨n - 1,by omega⟩
 simp only [Builtin.clear_,run_underlying ht,Sem.run_bind,Result.andThen_ok,hv]
 simp only [List.getElem?_toArray,List.getElem?_cons_zero,Sem.run_bind,run_underlying ht,Result.andThen_ok,hv,hst,Nat.add_zero,Sem.run_pure]
end
theorem gT_ (w:World) {P:Program} {ops:Array Oper} {hX_:List Oper} {o:Oper} {a:Act} {Q:Exit→Act→World→Prop} (hgd:o.guard=none) (d s:Operand) (t t':TypeId)
  (ho:o.op = .call { callee:=.builtin .copy,args:=#[d,s],argTypes:=#[t,t'] }) (v u:Value) (hd:a.eval d=v) (hs:a.eval s=u) {v':Value} {w':World}
  (hr:(Builtin.copy_ #[t,t'] o.type #[v,u]).run P w = .ok v' w') (h:wpList P ops Q hX_ (a.put o.dst v') w'):wpList P ops Q (o::hX_) a w :=
 wpList_plain hgd fun _ hK=>by
  unfold Oper.wp execOp
  simp only [ho,resolve,invoke,builtin,Sem.run_bind,Sem.run_pure,Result.andThen_ok,List.map_toArray,List.map_cons,List.map_nil,hd,hs,hr]
  exact hK _ _ h
theorem fa_ {P:Program} {ops:Array Oper} {o:Oper} {a:Act} {w:World} {K:Act→World→Prop} {Q:Exit→Act→World→Prop} {E:Prop}
  (hg:o.guard=none) (d x:Operand) (dT sT:TypeId) (hop:o.op=Op.call { callee:=Callee.builtin Builtin.copy,args:=#[d,x],argTypes:=#[dT,sT] })
  (v u:Value) (hd:a.eval d=v) (hx:a.eval x=u) {v':Value} {w':World} (hr:(Builtin.copy_ #[dT,sT] o.type #[v,u]).run P w = .ok v' w') (hK:K (a.put o.dst v') w') :
  if Region.wanted o (yielded ops a.tmps)=true then Oper.wp P o a w K Q else E:=by
 have hw:Region.wanted o (yielded ops a.tmps)=true:=by simp [Region.wanted,hg]
 rw [if_pos hw]
 unfold Oper.wp
 simp [execOp,hop,resolve,invoke,builtin,hd,hx,hr,Result.andThen]
 exact hK
theorem dN_ {P:Program} (w:World) (dT sT ty elem:TypeId) (k:Nat) (g o dLen dCap:Nat) (a:Addr) (sLen sCap:Nat) (cur:Array Value) (t:TypeId) (cs:List Value)
  (hu:P.underlying dT=some (.slice elem)) (hs:(P.info? elem).map (·.size)=some k)
  (hg:w.heap[g]?=some (.cells cur t (0,0))) (hn:cs.length=Nat.min sLen dLen*k)
  (hsrc:∀ j v,cs[j]?=some v→w.cell? (a.add j)=some v) (hfit:o+cs.length≤cur.size) (h1:∀ v ∈ cs,v.oneCell'=true) :
  (Builtin.copy_ #[dT,sT] ty #[.slice (some ⟨g,o,none⟩) dLen dCap,.slice (some a) sLen sCap]).run P w =
   .ok (goInt (Nat.min sLen dLen)) (w.setRow g (cur.toList.take o++cs++cur.toList.drop (o+cs.length)).toArray):=by
 have hl:=run_loadCells_list (P:=P) w a cs hsrc
 have hst:=run_storeCells_at P g o t cs 0 cur w hg (by simpa using hfit) h1
 cases hq:P.info? elem with
 |none=>simp [hq] at hs
 |some i=>
  have hi:i.size=k:=by simpa [hq] using hs
  simp [Builtin.copy_,run_underlying hu,Builtin.lenOf,Builtin.firstCells,sizeOf,typeInfo,hq,hi,←hn,hl,hst]
theorem zc_one (cs:Array Value) (h:cs.toList.all Value.oneCell'=true) (n:Nat):∀ v ∈ (Builtin.zeroCells cs n).toList,v.oneCell'=true:=by
 intro v hv
 simp only [Builtin.zeroCells,Array.toList_map,List.mem_map,Array.toList_range,List.mem_range] at hv
 obtain ⟨x,hx,rfl⟩:=hv
 have h0:0<cs.size:=Nat.pos_of_mul_pos_left (by omega:0<n*cs.size)
 have:x % cs.size<cs.size:=Nat.mod_lt _ h0
 rw [getElem!_pos cs _ this]
 exact List.all_eq_true.1 h _ (by simp)
theorem mQ_ {w:World} {e:TypeId} {K:Nat} {S:Value} {n:Nat} {vals:List Value} (h:w.ownsRow 0 e K S n vals):∀ b,ce_ S b≠0→b<w.heap.size:=by
 intro b hb
 rcases h.2 with ⟨rfl,_⟩|⟨g,cap,cur,rfl,_,hg,_⟩
 · simp [ce_] at hb
 · have:g=b:=by simp only [ce_] at hb;exact Classical.byContradiction fun h=>hb (if_neg h)
   subst this
   exact (Array.getElem?_eq_some_iff.1 hg).1
theorem iQ_ (w:World) (g:Nat) (A:Array Value):w.heap.size≤(w.drew.setRow g A).heap.size:=by
 have:(w.drew.setRow g A).heap.size=w.drew.heap.size:=by simp [World.setRow]
 rw [this];exact Nat.le_refl _
theorem dO_ {w:World} {e:TypeId} {v:Value} {n:Nat} {xs:List Value}:w.ownsRow 0 e 1 v n xs ↔
  (xs.length=n∧(v = .slice none 0 0∧n=0∨∃ g cap cur,v = .slice (some ⟨g,0,none⟩) n cap∧0≤g∧w.heap[g]?=some (.cells cur e (0,0))∧n≤cap∧cap≤maxLen∧cur.size=cap∧cur.toList.take n=xs)):=by
 unfold World.ownsRow
 simp only [Nat.mul_one]
end Go.Proofs
end
section
namespace Go.Proofs
open Go.Shelf
def Tryz.laysM171_ren:Go.Shelf.Ren:=⟨fun|171=>95|243=>137|246=>192|283=>243|284=>244|285=>245|286=>246|129=>269|317=>268|318=>270|319=>271|320=>272|337=>283|338=>284|n=>n,fun|3=>3|9=>9|2=>2|4=>4|171=>266|0=>0|53=>267|37=>22|5=>5|173=>270|212=>292|51=>242|20=>20|213=>293|46=>184|232=>309|233=>310|n=>n,fun|17=>3|18=>4|19=>5|n=>n⟩
theorem Tryz.laysM171:Go.Proofs.LaysM.n171 Tryz.prog Tryz.laysM171_ren:={
 mixed:=by kernel_rfl
 f129:=Tryz.func269.trans (congrArg some (by kernel_rfl))
 f171:=Tryz.func95.trans (congrArg some (by kernel_rfl))
 f243:=Tryz.func137.trans (congrArg some (by kernel_rfl))
 f246:=Tryz.func192.trans (congrArg some (by kernel_rfl))
 f283:=Tryz.func243.trans (congrArg some (by kernel_rfl))
 f284:=Tryz.func244.trans (congrArg some (by kernel_rfl))
 f285:=Tryz.func245.trans (congrArg some (by kernel_rfl))
 f286:=Tryz.func246.trans (congrArg some (by kernel_rfl))
 f317:=Tryz.func268.trans (congrArg some (by kernel_rfl))
 f318:=Tryz.func270.trans (congrArg some (by kernel_rfl))
 f319:=Tryz.func271.trans (congrArg some (by kernel_rfl))
 f320:=Tryz.func272.trans (congrArg some (by kernel_rfl))
 f337:=Tryz.func283.trans (congrArg some (by kernel_rfl))
 f338:=Tryz.func284.trans (congrArg some (by kernel_rfl))
 t0:=Tryz.underlying0
 a0:=Tryz.isAgg0
 z0:=Tryz.sizeOf0
 v0:=Tryz.zeroValue0
 t2:=Tryz.underlying2
 a2:=Tryz.isAgg2
 z2:=Tryz.sizeOf2
 v2:=Tryz.zeroValue2
 t3:=Tryz.underlying3
 a3:=Tryz.isAgg3
 z3:=Tryz.sizeOf3
 v3:=Tryz.zeroValue3
 t4:=Tryz.underlying4
 a4:=Tryz.isAgg4
 z4:=Tryz.sizeOf4
 v4:=Tryz.zeroValue4
 t5:=Tryz.underlying5
 a5:=Tryz.isAgg5
 z5:=Tryz.sizeOf5
 v5:=Tryz.zeroValue5
 t9:=Tryz.underlying9
 a9:=Tryz.isAgg9
 z9:=Tryz.sizeOf9
 v9:=Tryz.zeroValue9
 t20:=Tryz.underlying20
 a20:=Tryz.isAgg20
 z20:=Tryz.sizeOf20
 v20:=Tryz.zeroValue20
 t37:=Tryz.underlying22
 a37:=Tryz.isAgg22
 z37:=Tryz.sizeOf22
 v37:=Tryz.zeroValue22
 t46:=Tryz.underlying184
 a46:=Tryz.isAgg184
 z46:=Tryz.sizeOf184
 v46:=Tryz.zeroValue184
 t51:=Tryz.underlying242
 a51:=Tryz.isAgg242
 z51:=Tryz.sizeOf242
 v51:=Tryz.zeroValue242
 t53:=Tryz.underlying267
 a53:=Tryz.isAgg267
 z53:=Tryz.sizeOf267
 v53:=Tryz.zeroValue267
 t171:=Tryz.underlying266
 a171:=Tryz.isAgg266
 z171:=Tryz.sizeOf266
 v171:=Tryz.zeroValue266
 t173:=Tryz.underlying270
 a173:=Tryz.isAgg270
 z173:=Tryz.sizeOf270
 v173:=Tryz.zeroValue270
 t212:=Tryz.underlying292
 a212:=Tryz.isAgg292
 z212:=Tryz.sizeOf292
 v212:=Tryz.zeroValue292
 t213:=Tryz.underlying293
 a213:=Tryz.isAgg293
 z213:=Tryz.sizeOf293
 t232:=Tryz.underlying309
 a232:=Tryz.isAgg309
 z232:=Tryz.sizeOf309
 v232:=Tryz.zeroValue309
 t233:=Tryz.underlying310
 a233:=Tryz.isAgg310
 z233:=Tryz.sizeOf310
 v233:=Tryz.zeroValue310
 g17:=by kernel_rfl
 g18:=by kernel_rfl
 g19:=by kernel_rfl
 i0:=by kernel_rfl
 i2:=by kernel_rfl
 i3:=by kernel_rfl
 i4:=by kernel_rfl
 i5:=by kernel_rfl
 i9:=by kernel_rfl
 i20:=by kernel_rfl
 i37:=by kernel_rfl
 i46:=by kernel_rfl
 i51:=by kernel_rfl
 i53:=by kernel_rfl
 i171:=by kernel_rfl
 i173:=by kernel_rfl
 i212:=by kernel_rfl
 i232:=by kernel_rfl
 i233:=by kernel_rfl
 m17:=by kernel_rfl
 m18:=by kernel_rfl
 m19:=by kernel_rfl }
open Go.RowKit Go.Sort Go.Lib in
theorem Tryz.strconv_Itoa (n:Int) (h0 : -9223372036854775808≤n) (h1:n≤9223372036854775807) (w:World) (htab:Lib.TabIs Tryz.prog w "internal/strconv.uint64pow10" .u64 Lib.pow10Tab) :
  Calls Tryz.prog 95 #[.int .i64 n] w fun e w'=>e = .returned (.string ⟨(Lib.itoa n).toArray⟩)∧∃ k os,w'=grow (w.drewN k) os:=Any.strconv_Itoa Tryz.laysM171 n h0 h1 w htab
end Go.Proofs
namespace Go.Pi
open Go.Proofs
theorem k7_:E.P.globalNamed "internal/strconv.uint64pow10" = some 3:=by kernel_rfl
theorem strconv_Itoa.ok (n:Nat):strconv_Itoa.e.Oks E (cx n) n:=fun _ _ _ _ h=>nItoa_ok (fun n h0 h1 w ht=>Tryz.strconv_Itoa n h0 h1 w ht) (.head _) k7_ h
end Go.Pi
end
section
namespace Go.Proofs
open Go.Shelf
def Tryz.laysC172_ren:Go.Shelf.Ren:=⟨fun|172=>102|244=>147|245=>148|247=>199|279=>200|280=>201|281=>202|282=>203|287=>250|316=>251|171=>95|205=>252|321=>277|322=>278|243=>137|246=>192|283=>243|284=>244|285=>245|286=>246|129=>269|317=>268|318=>270|319=>271|320=>272|337=>283|338=>284|n=>n,fun|9=>9|3=>3|75=>140|76=>141|4=>4|5=>5|167=>233|37=>22|0=>0|85=>234|2=>2|168=>236|53=>267|175=>274|46=>184|210=>277|127=>272|145=>303|143=>301|21=>21|171=>266|173=>270|212=>292|51=>242|20=>20|213=>293|232=>309|233=>310|80=>230|n=>n,fun|15=>1|16=>2|17=>3|18=>4|19=>5|n=>n⟩
theorem Tryz.laysC172:Go.Proofs.LaysC.n172 Tryz.prog Tryz.laysC172_ren:={
 mixed:=by kernel_rfl
 f129:=Tryz.func269.trans (congrArg some (by kernel_rfl))
 f171:=Tryz.func95.trans (congrArg some (by kernel_rfl))
 f172:=Tryz.func102.trans (congrArg some (by kernel_rfl))
 f205:=Tryz.func252.trans (congrArg some (by kernel_rfl))
 f243:=Tryz.func137.trans (congrArg some (by kernel_rfl))
 f244:=Tryz.func147.trans (congrArg some (by kernel_rfl))
 f245:=Tryz.func148.trans (congrArg some (by kernel_rfl))
 f246:=Tryz.func192.trans (congrArg some (by kernel_rfl))
 f247:=Tryz.func199.trans (congrArg some (by kernel_rfl))
 f279:=Tryz.func200.trans (congrArg some (by kernel_rfl))
 f280:=Tryz.func201.trans (congrArg some (by kernel_rfl))
 f281:=Tryz.func202.trans (congrArg some (by kernel_rfl))
 f282:=Tryz.func203.trans (congrArg some (by kernel_rfl))
 f283:=Tryz.func243.trans (congrArg some (by kernel_rfl))
 f284:=Tryz.func244.trans (congrArg some (by kernel_rfl))
 f285:=Tryz.func245.trans (congrArg some (by kernel_rfl))
 f286:=Tryz.func246.trans (congrArg some (by kernel_rfl))
 f287:=Tryz.func250.trans (congrArg some (by kernel_rfl))
 f316:=Tryz.func251.trans (congrArg some (by kernel_rfl))
 f317:=Tryz.func268.trans (congrArg some (by kernel_rfl))
 f318:=Tryz.func270.trans (congrArg some (by kernel_rfl))
 f319:=Tryz.func271.trans (congrArg some (by kernel_rfl))
 f320:=Tryz.func272.trans (congrArg some (by kernel_rfl))
 f321:=Tryz.func277.trans (congrArg some (by kernel_rfl))
 f322:=Tryz.func278.trans (congrArg some (by kernel_rfl))
 f337:=Tryz.func283.trans (congrArg some (by kernel_rfl))
 f338:=Tryz.func284.trans (congrArg some (by kernel_rfl))
 t0:=Tryz.underlying0
 a0:=Tryz.isAgg0
 z0:=Tryz.sizeOf0
 v0:=Tryz.zeroValue0
 t2:=Tryz.underlying2
 a2:=Tryz.isAgg2
 z2:=Tryz.sizeOf2
 v2:=Tryz.zeroValue2
 t3:=Tryz.underlying3
 a3:=Tryz.isAgg3
 z3:=Tryz.sizeOf3
 v3:=Tryz.zeroValue3
 t4:=Tryz.underlying4
 a4:=Tryz.isAgg4
 z4:=Tryz.sizeOf4
 v4:=Tryz.zeroValue4
 t5:=Tryz.underlying5
 a5:=Tryz.isAgg5
 z5:=Tryz.sizeOf5
 v5:=Tryz.zeroValue5
 t9:=Tryz.underlying9
 a9:=Tryz.isAgg9
 z9:=Tryz.sizeOf9
 v9:=Tryz.zeroValue9
 t20:=Tryz.underlying20
 a20:=Tryz.isAgg20
 z20:=Tryz.sizeOf20
 v20:=Tryz.zeroValue20
 t21:=Tryz.underlying21
 a21:=Tryz.isAgg21
 z21:=Tryz.sizeOf21
 v21:=Tryz.zeroValue21
 t37:=Tryz.underlying22
 a37:=Tryz.isAgg22
 z37:=Tryz.sizeOf22
 v37:=Tryz.zeroValue22
 t46:=Tryz.underlying184
 a46:=Tryz.isAgg184
 z46:=Tryz.sizeOf184
 v46:=Tryz.zeroValue184
 t51:=Tryz.underlying242
 a51:=Tryz.isAgg242
 z51:=Tryz.sizeOf242
 v51:=Tryz.zeroValue242
 t53:=Tryz.underlying267
 a53:=Tryz.isAgg267
 z53:=Tryz.sizeOf267
 v53:=Tryz.zeroValue267
 t75:=Tryz.underlying140
 a75:=Tryz.isAgg140
 z75:=Tryz.sizeOf140
 v75:=Tryz.zeroValue140
 t76:=Tryz.underlying141
 a76:=Tryz.isAgg141
 z76:=Tryz.sizeOf141
 v76:=Tryz.zeroValue141
 t85:=Tryz.underlying234
 a85:=Tryz.isAgg234
 z85:=Tryz.sizeOf234
 v85:=Tryz.zeroValue234
 t127:=Tryz.underlying272
 a127:=Tryz.isAgg272
 z127:=Tryz.sizeOf272
 v127:=Tryz.zeroValue272
 t143:=Tryz.underlying301
 a143:=Tryz.isAgg301
 z143:=Tryz.sizeOf301
 v143:=Tryz.zeroValue301
 t145:=Tryz.underlying303
 a145:=Tryz.isAgg303
 z145:=Tryz.sizeOf303
 v145:=Tryz.zeroValue303
 t167:=Tryz.underlying233
 a167:=Tryz.isAgg233
 z167:=Tryz.sizeOf233
 v167:=Tryz.zeroValue233
 t168:=Tryz.underlying236
 a168:=Tryz.isAgg236
 z168:=Tryz.sizeOf236
 v168:=Tryz.zeroValue236
 t171:=Tryz.underlying266
 a171:=Tryz.isAgg266
 z171:=Tryz.sizeOf266
 v171:=Tryz.zeroValue266
 t173:=Tryz.underlying270
 a173:=Tryz.isAgg270
 z173:=Tryz.sizeOf270
 v173:=Tryz.zeroValue270
 t175:=Tryz.underlying274
 a175:=Tryz.isAgg274
 z175:=Tryz.sizeOf274
 v175:=Tryz.zeroValue274
 t210:=Tryz.underlying277
 a210:=Tryz.isAgg277
 z210:=Tryz.sizeOf277
 v210:=Tryz.zeroValue277
 t212:=Tryz.underlying292
 a212:=Tryz.isAgg292
 z212:=Tryz.sizeOf292
 v212:=Tryz.zeroValue292
 t213:=Tryz.underlying293
 a213:=Tryz.isAgg293
 z213:=Tryz.sizeOf293
 t232:=Tryz.underlying309
 a232:=Tryz.isAgg309
 z232:=Tryz.sizeOf309
 v232:=Tryz.zeroValue309
 t233:=Tryz.underlying310
 a233:=Tryz.isAgg310
 z233:=Tryz.sizeOf310
 v233:=Tryz.zeroValue310
 g15:=by kernel_rfl
 g16:=by kernel_rfl
 g17:=by kernel_rfl
 g18:=by kernel_rfl
 g19:=by kernel_rfl
 t80:=Tryz.underlying230
 a80:=Tryz.isAgg230
 z80:=Tryz.sizeOf230
 v80:=Tryz.zeroValue230
 i0:=by kernel_rfl
 i2:=by kernel_rfl
 i3:=by kernel_rfl
 i4:=by kernel_rfl
 i5:=by kernel_rfl
 i9:=by kernel_rfl
 i20:=by kernel_rfl
 i21:=by kernel_rfl
 i37:=by kernel_rfl
 i46:=by kernel_rfl
 i51:=by kernel_rfl
 i53:=by kernel_rfl
 i75:=by kernel_rfl
 i76:=by kernel_rfl
 i80:=by kernel_rfl
 i85:=by kernel_rfl
 i127:=by kernel_rfl
 i143:=by kernel_rfl
 i145:=by kernel_rfl
 i167:=by kernel_rfl
 i168:=by kernel_rfl
 i171:=by kernel_rfl
 i173:=by kernel_rfl
 i175:=by kernel_rfl
 i210:=by kernel_rfl
 i212:=by kernel_rfl
 i232:=by kernel_rfl
 i233:=by kernel_rfl
 m15:=by kernel_rfl
 m16:=by kernel_rfl
 m17:=by kernel_rfl
 m18:=by kernel_rfl
 m19:=by kernel_rfl
 c0:=by kernel_rfl
 c2:=by kernel_rfl
 c3:=by kernel_rfl
 c4:=by kernel_rfl
 c5:=by kernel_rfl
 c9:=by kernel_rfl
 c20:=by kernel_rfl
 c21:=by kernel_rfl
 c37:=by kernel_rfl
 c46:=by kernel_rfl
 c51:=by kernel_rfl
 c53:=by kernel_rfl
 c75:=by kernel_rfl
 c76:=by kernel_rfl
 c80:=by kernel_rfl
 c85:=by kernel_rfl
 c127:=by kernel_rfl
 c143:=by kernel_rfl
 c145:=by kernel_rfl
 c167:=by kernel_rfl
 c168:=by kernel_rfl
 c171:=by kernel_rfl
 c173:=by kernel_rfl
 c175:=by kernel_rfl
 c210:=by kernel_rfl
 c212:=by kernel_rfl
 c213:=by kernel_rfl
 c232:=by kernel_rfl
 c233:=by kernel_rfl }
end Go.Proofs
namespace Go.Pi
open Go.Proofs
theorem atoiM:AtoiM E.P 102 1 2 5:=⟨fun s v w h1 h2=>Any.strconv_Atoi_ok Tryz.laysC172 s h1 v h2 w,fun s ev w h1 h2 h3 h4=>by
 cases ha:Lib.atoiAll s.data.toList
 · rename_i v;exact absurd ha (h2.1 v)
 · exact (Any.strconv_Atoi_syntax Tryz.laysC172 s h1 ha ev w h3 h4).mono fun e w' ⟨N,he,_,_,hb⟩=>⟨⟨_,_,he⟩,hb⟩
 · exact absurd ha h2.2,fun s ev w h1 h2 h3 h4=>(Any.strconv_Atoi_range Tryz.laysC172 s h1 h2 ev w h3 h4).mono fun e w' ⟨N,he,_,_,hb⟩=>⟨⟨_,_,he⟩,hb⟩⟩
end Go.Pi
namespace Go.Pi
open Go.Proofs
theorem dG_.ok (n:Nat):dG_.e.Oks E (cx n) n:=fun _ _ _ _ h=>nAtoi_ok atoiM (.tail _ (.tail _ (.head _))) (.tail _ (.tail _ (.tail _ (.head _)))) h
end Go.Pi
end
section
namespace Go.Proofs
open Go.Shelf
def Tryz.lays156_ren:Go.Shelf.Ren:=⟨fun|156=>139|165=>193|166=>194|169=>195|240=>247|241=>248|276=>273|277=>274|n=>n,fun|31=>27|9=>9|3=>3|4=>4|0=>0|20=>20|72=>228|76=>141|70=>226|37=>22|75=>140|127=>272|164=>295|5=>5|80=>230|n=>n,fun|n=>n⟩
theorem Tryz.lays156:Go.Proofs.Lays.n156 Tryz.prog Tryz.lays156_ren:={
 mixed:=by kernel_rfl
 f156:=Tryz.func139.trans (congrArg some (by kernel_rfl))
 f165:=Tryz.func193.trans (congrArg some (by kernel_rfl))
 f166:=Tryz.func194.trans (congrArg some (by kernel_rfl))
 f169:=Tryz.func195.trans (congrArg some (by kernel_rfl))
 f240:=Tryz.func247.trans (congrArg some (by kernel_rfl))
 f241:=Tryz.func248.trans (congrArg some (by kernel_rfl))
 f276:=Tryz.func273.trans (congrArg some (by kernel_rfl))
 f277:=Tryz.func274.trans (congrArg some (by kernel_rfl))
 t0:=Tryz.underlying0
 a0:=Tryz.isAgg0
 z0:=Tryz.sizeOf0
 v0:=Tryz.zeroValue0
 t3:=Tryz.underlying3
 a3:=Tryz.isAgg3
 z3:=Tryz.sizeOf3
 v3:=Tryz.zeroValue3
 t4:=Tryz.underlying4
 a4:=Tryz.isAgg4
 z4:=Tryz.sizeOf4
 v4:=Tryz.zeroValue4
 t9:=Tryz.underlying9
 a9:=Tryz.isAgg9
 z9:=Tryz.sizeOf9
 v9:=Tryz.zeroValue9
 t20:=Tryz.underlying20
 a20:=Tryz.isAgg20
 z20:=Tryz.sizeOf20
 v20:=Tryz.zeroValue20
 t31:=Tryz.underlying27
 a31:=Tryz.isAgg27
 z31:=Tryz.sizeOf27
 v31:=Tryz.zeroValue27
 t37:=Tryz.underlying22
 a37:=Tryz.isAgg22
 z37:=Tryz.sizeOf22
 v37:=Tryz.zeroValue22
 t70:=Tryz.underlying226
 a70:=Tryz.isAgg226
 z70:=Tryz.sizeOf226
 v70:=Tryz.zeroValue226
 t72:=Tryz.underlying228
 a72:=Tryz.isAgg228
 z72:=Tryz.sizeOf228
 v72:=Tryz.zeroValue228
 t75:=Tryz.underlying140
 a75:=Tryz.isAgg140
 z75:=Tryz.sizeOf140
 v75:=Tryz.zeroValue140
 t76:=Tryz.underlying141
 a76:=Tryz.isAgg141
 z76:=Tryz.sizeOf141
 v76:=Tryz.zeroValue141
 t127:=Tryz.underlying272
 a127:=Tryz.isAgg272
 z127:=Tryz.sizeOf272
 v127:=Tryz.zeroValue272
 t164:=Tryz.underlying295
 a164:=Tryz.isAgg295
 z164:=Tryz.sizeOf295
 v164:=Tryz.zeroValue295 }
theorem Tryz.Builder_Extra_156:Builder.Extra Tryz.prog Tryz.lays156_ren:={
 sizeBuilder:=by kernel_rfl
 liesBuilder:=by kernel_rfl
 t5:=Tryz.underlying5
 a5:=Tryz.isAgg5
 z5:=Tryz.sizeOf5
 v5:=Tryz.zeroValue5
 infoByte:=by kernel_rfl
 cellsByte:=by kernel_rfl
 sizeByte:=by kernel_rfl
 neB5:=by decide }
open Go.RowKit Go.Sort Go.Lib in
theorem Tryz.strings_Join_none (a:Option Addr) (c:Nat) (sep:ByteArray) (w:World) :
  Calls Tryz.prog 139 #[.slice a 0 c,.string sep] w fun e w'=>e = .returned (.string ⟨#[]⟩)∧w'=w:=Any.strings_Join_none Tryz.lays156 Tryz.Builder_Extra_156 a c sep w
open Go.RowKit Go.Sort Go.Lib in
theorem Tryz.strings_Join (bk o c:Nat) (xs:List ByteArray) (sep:ByteArray) (w:World) (hcells:∀ (j:Nat) x,xs[j]?=some x→w.cell? ⟨bk,o+j,none⟩=some (.string x)) (hbk:bk<w.heap.size) (hN:xs.length≤140737488355328) (hcap:xs.length≤c) (hlen:(Lib.join (xs.map (·.data.toList)) sep.data.toList).length≤140737488355328) :
  Calls Tryz.prog 139 #[.slice (some ⟨bk,o,none⟩) xs.length c,.string sep] w fun e w'=>e = .returned (.string ⟨(Lib.join (xs.map (·.data.toList)) sep.data.toList).toArray⟩)∧Below w.heap.size w w':=Any.strings_Join Tryz.lays156 Tryz.Builder_Extra_156 bk o c xs sep w hcells hbk hN hcap hlen
end Go.Proofs
namespace Go.Pi
open Go.Proofs
theorem strings_Join.ok (n:Nat):strings_Join.e.Oks E (cx n) n:=fun _ _ _ _ h=>nJoin_ok ⟨fun a c sep w=>Tryz.strings_Join_none a c sep w,fun bk o c xs sep w h1 h2 h3 h4 h5=>Tryz.strings_Join bk o c xs sep w h1 h2 h3 h4 h5⟩ (fun _=>rfl) h
end Go.Pi
end
section
namespace Go.Proofs
open Go.Shelf
def Tryz.lays155_ren:Go.Shelf.Ren:=⟨fun|155=>196|154=>249|138=>275|165=>193|143=>72|166=>194|197=>276|169=>195|195=>285|218=>286|240=>247|241=>248|219=>113|260=>287|276=>273|277=>274|217=>156|225=>157|224=>158|267=>159|266=>213|314=>214|n=>n,fun|9=>9|3=>3|4=>4|72=>228|0=>0|76=>141|105=>298|21=>21|5=>5|70=>226|20=>20|37=>22|75=>140|127=>272|164=>295|46=>184|119=>311|139=>314|138=>313|146=>243|51=>242|80=>230|n=>n,fun|1=>0|3=>6|4=>7|n=>n⟩
theorem Tryz.lays155:Go.Proofs.Lays.n155 Tryz.prog Tryz.lays155_ren:={
 mixed:=by kernel_rfl
 f138:=Tryz.func275.trans (congrArg some (by kernel_rfl))
 f143:=Tryz.func72.trans (congrArg some (by kernel_rfl))
 f154:=Tryz.func249.trans (congrArg some (by kernel_rfl))
 f155:=Tryz.func196.trans (congrArg some (by kernel_rfl))
 f165:=Tryz.func193.trans (congrArg some (by kernel_rfl))
 f166:=Tryz.func194.trans (congrArg some (by kernel_rfl))
 f169:=Tryz.func195.trans (congrArg some (by kernel_rfl))
 f195:=Tryz.func285.trans (congrArg some (by kernel_rfl))
 f197:=Tryz.func276.trans (congrArg some (by kernel_rfl))
 f217:=Tryz.func156.trans (congrArg some (by kernel_rfl))
 f218:=Tryz.func286.trans (congrArg some (by kernel_rfl))
 f219:=Tryz.func113.trans (congrArg some (by kernel_rfl))
 f224:=Tryz.func158.trans (congrArg some (by kernel_rfl))
 f225:=Tryz.func157.trans (congrArg some (by kernel_rfl))
 f240:=Tryz.func247.trans (congrArg some (by kernel_rfl))
 f241:=Tryz.func248.trans (congrArg some (by kernel_rfl))
 f260:=Tryz.func287.trans (congrArg some (by kernel_rfl))
 f266:=Tryz.func213.trans (congrArg some (by kernel_rfl))
 f267:=Tryz.func159.trans (congrArg some (by kernel_rfl))
 f276:=Tryz.func273.trans (congrArg some (by kernel_rfl))
 f277:=Tryz.func274.trans (congrArg some (by kernel_rfl))
 f314:=Tryz.func214.trans (congrArg some (by kernel_rfl))
 t0:=Tryz.underlying0
 a0:=Tryz.isAgg0
 z0:=Tryz.sizeOf0
 v0:=Tryz.zeroValue0
 t3:=Tryz.underlying3
 a3:=Tryz.isAgg3
 z3:=Tryz.sizeOf3
 v3:=Tryz.zeroValue3
 t4:=Tryz.underlying4
 a4:=Tryz.isAgg4
 z4:=Tryz.sizeOf4
 v4:=Tryz.zeroValue4
 t5:=Tryz.underlying5
 a5:=Tryz.isAgg5
 z5:=Tryz.sizeOf5
 v5:=Tryz.zeroValue5
 t9:=Tryz.underlying9
 a9:=Tryz.isAgg9
 z9:=Tryz.sizeOf9
 v9:=Tryz.zeroValue9
 t20:=Tryz.underlying20
 a20:=Tryz.isAgg20
 z20:=Tryz.sizeOf20
 v20:=Tryz.zeroValue20
 t21:=Tryz.underlying21
 a21:=Tryz.isAgg21
 z21:=Tryz.sizeOf21
 v21:=Tryz.zeroValue21
 t37:=Tryz.underlying22
 a37:=Tryz.isAgg22
 z37:=Tryz.sizeOf22
 v37:=Tryz.zeroValue22
 t46:=Tryz.underlying184
 a46:=Tryz.isAgg184
 z46:=Tryz.sizeOf184
 v46:=Tryz.zeroValue184
 t51:=Tryz.underlying242
 a51:=Tryz.isAgg242
 z51:=Tryz.sizeOf242
 v51:=Tryz.zeroValue242
 t70:=Tryz.underlying226
 a70:=Tryz.isAgg226
 z70:=Tryz.sizeOf226
 v70:=Tryz.zeroValue226
 t72:=Tryz.underlying228
 a72:=Tryz.isAgg228
 z72:=Tryz.sizeOf228
 v72:=Tryz.zeroValue228
 t75:=Tryz.underlying140
 a75:=Tryz.isAgg140
 z75:=Tryz.sizeOf140
 v75:=Tryz.zeroValue140
 t76:=Tryz.underlying141
 a76:=Tryz.isAgg141
 z76:=Tryz.sizeOf141
 v76:=Tryz.zeroValue141
 t105:=Tryz.underlying298
 a105:=Tryz.isAgg298
 z105:=Tryz.sizeOf298
 v105:=Tryz.zeroValue298
 t119:=Tryz.underlying311
 a119:=Tryz.isAgg311
 z119:=Tryz.sizeOf311
 t127:=Tryz.underlying272
 a127:=Tryz.isAgg272
 z127:=Tryz.sizeOf272
 v127:=Tryz.zeroValue272
 t138:=Tryz.underlying313
 a138:=Tryz.isAgg313
 z138:=Tryz.sizeOf313
 v138:=Tryz.zeroValue313
 t139:=Tryz.underlying314
 a139:=Tryz.isAgg314
 z139:=Tryz.sizeOf314
 v139:=Tryz.zeroValue314
 t146:=Tryz.underlying243
 a146:=Tryz.isAgg243
 z146:=Tryz.sizeOf243
 v146:=Tryz.zeroValue243
 t164:=Tryz.underlying295
 a164:=Tryz.isAgg295
 z164:=Tryz.sizeOf295
 v164:=Tryz.zeroValue295
 g1:=by kernel_rfl
 g3:=by kernel_rfl
 g4:=by kernel_rfl }
theorem Tryz.Builder_Extra_155:Builder.Extra Tryz.prog Tryz.lays155_ren:={
 sizeBuilder:=by kernel_rfl
 liesBuilder:=by kernel_rfl
 t5:=Tryz.underlying5
 a5:=Tryz.isAgg5
 z5:=Tryz.sizeOf5
 v5:=Tryz.zeroValue5
 infoByte:=by kernel_rfl
 cellsByte:=by kernel_rfl
 sizeByte:=by kernel_rfl
 neB5:=by decide }
open Go.RowKit Go.Sort Go.Lib in
theorem Tryz.strings_ReplaceAll (s old new:ByteArray) (m:Int) (w:World) (hs:s.size<4294967281) (hm:w.cell? ⟨0,0,none⟩=some (.int .i64 m)) (h1:1≤old.size) (hlen:s.size+Lib.countB s old*new.size≤140737488355328) :
  Calls Tryz.prog 196 #[.string s,.string old,.string new] w fun e w'=>
   e = .returned (.string ⟨(Lib.replaceAll s.data.toList old.data.toList new.data.toList).toArray⟩)∧Below w.heap.size w w':=Any.strings_ReplaceAll Tryz.lays155 Tryz.Builder_Extra_155 s old new m w hs hm h1 hlen
end Go.Proofs
namespace Go.Pi
open Go.Proofs
theorem strings_ReplaceAll.ok (n:Nat):strings_ReplaceAll.e.Oks E (cx n) n:=fun _ _ _ _ h=>nRepl_ok (g:=0) (fun s old new m w h1 h2 h3 h4=>Tryz.strings_ReplaceAll s old new m w h1 h2 h3 h4) (.tail _ (.head _)) h
end Go.Pi
end
section
namespace Go.Proofs
open Go.Shelf Go.RowKit Go.Lib Go.Pi
section
variable {P:Program}
theorem q7_ (TS TE:TypeId) (TI:TypeId) (Z:Value) (i0:TypeInfo) (uS:P.underlying TS=some (.slice TE)) (uI:P.underlying TI=some (.int .i64)) (hi0:P.info? TE=some i0) (hz2:i0.zero=some Z) (hz0:i0.size=1) (hz1:i0.bytes=16) (hZK:Z.cells.size=1)
  (w:World) (g n c i:Nat) (cur:Array Value) (hg:w.heap[g]?=some (.cells cur TE (0,0))) (hs:cur.size=c) (hnc:n≤c) (hi:i<n)
  (gv m vc:Nat) (curv:Array Value) (Tv:TypeId) (hgv:w.heap[gv]?=some (.cells curv Tv (0,0))) (hmv:m≤curv.size) (us:List Value) (hul:us=curv.toList.take (m)) (h1u:∀ v ∈ us,v.oneCell'=true) (hm:0<m) (hroom:c<n+m)
  (hbig:(n+m)*16≤140737488355328) (h1:∀ v ∈ cur.toList.take (n),v.oneCell'=true) :
  ∃ G N W1 R1 W2 A,Hid (N=w.heap.size)∧n+m≤G∧G≤maxLen ∧
    (∀ ty,(Builtin.append_ #[TS,TI] ty #[.slice (some ⟨g,0,none⟩) i c,.int .i64 ((n:Int)+(m:Int) - (i:Int))]).run P w = .ok (.slice (some ⟨N,0,none⟩) (n+m) G) W1) ∧
    (∀ ty dc,(Builtin.copy_ #[TS,TS] ty #[.slice (some ⟨N,i,none⟩) (n+m - i) dc,.slice (some ⟨gv,0,none⟩) m vc]).run P W1 = .ok (goInt m) (W1.setRow N R1)) ∧
    (W1.setRow N R1).drew=W2 ∧
    (∀ ty dc sc,(Builtin.copy_ #[TS,TS] ty #[.slice (some ⟨N,(i+m),none⟩) (n+m - (i+m)) dc,.slice (some ⟨g,i,none⟩) (n - i) sc]).run P W2 = .ok (goInt (n - i)) (W2.setRow N A)) ∧
    Hid (n+m≤G∧G≤maxLen∧(W2.setRow N A).heap[w.heap.size]?=some (.cells A TE (0,0))∧A.size=G∧A.toList.take ((n+m))=(cur.toList.take (n)).take (i)++us++(cur.toList.take (n)).drop (i)∧w.grownBy (W2.setRow N A) none):=by
 have hul2:us.length=m:=by rw [hul,List.length_take,Array.length_toList];omega
 have hsz:(P.info? TE).map (·.size)=some 1:=by rw [hi0];simp [hz0]
 have hgd:w.drew.heap[g]?=some (.cells cur TE (0,0)):=hg
 have hgl:g<w.heap.size:=(Array.getElem?_eq_some_iff.1 hg).1
 have hgvl:gv<w.heap.size:=(Array.getElem?_eq_some_iff.1 hgv).1
 obtain ⟨olds,holds⟩:∃ olds,olds=(cur.toList.take (n)).take (i):=⟨_,rfl⟩
 have hol:olds.length=i:=by rw [holds];simp [hs];omega
 obtain ⟨G,hG⟩:∃ G,G=grownCap w (n+m) c TE:=⟨_,rfl⟩
 have hGn:n+m≤G:=by rw [hG];exact grownCap_ge w _ _ _
 have hGm:G≤maxLen:=by rw [hG];exact grownCap_le_maxLen w (n+m) c TE (by unfold maxLen;omega)
 obtain ⟨ROW,hROW⟩:∃ ROW:Array Value,ROW=olds.toArray++Builtin.zeroCells Z.cells (n+m - i)++Builtin.zeroCells Z.cells (G - (n+m)):=⟨_,rfl⟩
 have hRl:ROW.size=G:=by rw [hROW];simp [Builtin.zeroCells,hol,hZK];omega
 have hRt:ROW.toList.take (i)=olds:=by
  rw [hROW];simp only [Array.toList_append,List.append_assoc]
  rw [List.take_append_of_le_length (by simp [hol]),List.take_of_length_le (by simp [hol])]
 have hkk:(n:Int)+(m:Int) - (i:Int)=((n+m - i:Nat):Int):=by omega
 have hrz:∀ ty,(Builtin.append_ #[TS,TI] ty #[.slice (some ⟨g,0,none⟩) i c,.int .i64 ((n:Int)+(m:Int) - (i:Int))]).run P w =
   .ok (.slice (some ⟨w.heap.size,0,none⟩) (n+m) G) (w.drew.alloc (.cells ROW TE)):=fun ty=>by
  have h:=Lib.run_append_grow_zeros (P:=P) w TS TI ty TE i0 _ .i64 .i64 uS uI hi0 hz2 (some ⟨g,0,none⟩) i c olds (by
   rw [hz0]
   exact run_firstCells_some w.drew 1 i ⟨g,0,none⟩ i c olds (by rw [Nat.mul_one];exact hol) (fun j v hj=>by
    have hj2:=(List.getElem?_eq_some_iff.1 hj).1
    rw [holds,List.getElem?_take_of_lt (by omega),List.getElem?_take_of_lt (by omega),Array.getElem?_toList] at hj
    rw [Addr.add_lit,Nat.zero_add]
    simp only [World.cell?,hgd]
    exact hj)) (n+m - i) (by omega) (by omega) (by omega) (by omega) (by rw [hz1];omega) (by rw [hz1,show i+(n+m - i)=n+m by omega];exact growslice_fits hroom hbig)
  rw [show i+(n+m - i)=n+m by omega,←hG,←hROW] at h
  rw [hkk]
  exact h
 obtain ⟨N,hN⟩:∃ N,N=w.heap.size:=⟨_,rfl⟩
 rw [←hN] at hrz
 obtain ⟨W1,hW1⟩:∃ W1,W1=w.drew.alloc (.cells ROW TE):=⟨_,rfl⟩
 rw [←hW1] at hrz
 have hN1:W1.heap[N]?=some (.cells ROW TE (0,0)):=by rw [hW1,hN];exact heap_alloc_new w.drew _
 have hold:∀ b,b<w.heap.size→W1.heap[b]?=w.heap[b]?:=fun b hb=>by rw [hW1];exact heap_alloc_old w.drew _ hb
 have hgr1:w.grownBy W1 none:=by rw [hW1];exact ⟨rfl,rfl,rfl,by simp,fun k hk _=>heap_alloc_old w.drew _ hk⟩
 obtain ⟨R1,hR1⟩:∃ R1,R1=(ROW.toList.take (i)++us++ROW.toList.drop (i+us.length)).toArray:=⟨_,rfl⟩
 have hR1s:R1.size=G:=by rw [hR1];simp [hul2,hRl];omega
 have hcp1:∀ ty dc,(Builtin.copy_ #[TS,TS] ty #[.slice (some ⟨N,i,none⟩) (n+m - i) dc,.slice (some ⟨gv,0,none⟩) m vc]).run P W1 = .ok (goInt m) (W1.setRow N R1):=fun ty dc=>by
  have:=dN_ (P:=P) W1 TS TS ty TE 1 N (i) (n+m - i) dc ⟨gv,0,none⟩ m vc ROW TE us uS hsz hN1 (by rw [hul2];simp only [Nat.min_def];split<;>omega)
   (fun j v hj=>by
     have hj2:=(List.getElem?_eq_some_iff.1 hj).1
     rw [hul,List.getElem?_take_of_lt (by omega),Array.getElem?_toList] at hj
     rw [Addr.add_lit,Nat.zero_add]
     simp only [World.cell?,hold gv hgvl,hgv]
     exact hj) (by rw [hul2,hRl];omega) h1u
  rw [this,hR1]
  congr 2
  simp only [Nat.min_def];split<;>omega
 obtain ⟨W2,hW2⟩:∃ W2,W2=(W1.setRow N R1).drew:=⟨_,rfl⟩
 have hN2:W2.heap[N]?=some (.cells R1 TE (0,0)):=by rw [hW2];exact setRow_heap _ _ _ _ _ _ hN1
 have hg2:W2.heap[g]?=some (.cells cur TE (0,0)):=by
  rw [hW2];show (W1.setRow N R1).heap[g]?=_
  rw [setRow_other _ _ _ _ (by omega),hold g hgl];exact hg
 obtain ⟨mv,hmv2⟩:∃ mv,mv=(cur.toList.take (n)).drop (i):=⟨_,rfl⟩
 have hml:mv.length=(n - i):=by rw [hmv2];simp [hs];omega
 obtain ⟨A,hA⟩:∃ A,A=(R1.toList.take ((i+m))++mv++R1.toList.drop ((i+m)+mv.length)).toArray:=⟨_,rfl⟩
 have hcp2:∀ ty dc sc,(Builtin.copy_ #[TS,TS] ty #[.slice (some ⟨N,(i+m),none⟩) (n+m - (i+m)) dc,.slice (some ⟨g,i,none⟩) (n - i) sc]).run P W2 = .ok (goInt (n - i)) (W2.setRow N A):=fun ty dc sc=>by
  have:=dN_ (P:=P) W2 TS TS ty TE 1 N ((i+m)) (n+m - (i+m)) dc ⟨g,i,none⟩ (n - i) sc R1 TE mv uS hsz hN2 (by rw [hml];simp only [Nat.min_def];split<;>omega)
   (fun j v hj=>by
     have hj2:=(List.getElem?_eq_some_iff.1 hj).1
     rw [hmv2,List.getElem?_drop,List.getElem?_take_of_lt (by omega),Array.getElem?_toList] at hj
     rw [Addr.add_lit]
     simp only [World.cell?,hg2]
     exact hj) (by rw [hml,hR1s];omega) (fun v hv=>h1 v (by rw [hmv2] at hv;exact List.mem_of_mem_drop hv))
  rw [this,hA]
  congr 2
  simp only [Nat.min_def];split<;>omega
 have kA:Hid (n+m≤G∧G≤maxLen∧(W2.setRow N A).heap[w.heap.size]?=some (.cells A TE (0,0))∧A.size=G∧A.toList.take ((n+m))=(cur.toList.take (n)).take (i)++us++(cur.toList.take (n)).drop (i)∧w.grownBy (W2.setRow N A) none):=by
  refine ⟨hGn,hGm,by rw [←hN];exact setRow_heap _ _ _ _ _ _ hN2,by rw [hA];simp [hml,hR1s];omega,?_,?_⟩
  · have e1:R1.toList.take ((i+m))=olds++us:=by
     rw [hR1];simp only [List.toList_toArray]
     rw [List.take_append_of_le_length (by simp [hul2,hRl];omega),List.take_of_length_le (by simp [hul2,hRl];omega),hRt]
    rw [hA];simp only [List.toList_toArray]
    rw [e1,List.take_append_of_le_length (by simp [hol,hul2,hml];omega),List.take_of_length_le (by simp [hol,hul2,hml];omega),holds,hmv2]
  · refine ⟨by rw [hW2];exact hgr1.os,by rw [hW2];exact hgr1.tape,by rw [hW2];exact hgr1.output,?_,fun k hk hne => ?_⟩
    · have:(W2.setRow N A).heap.size=W1.heap.size:=by rw [hW2];simp [World.setRow,World.drew]
      rw [this];exact hgr1.size
    · rw [setRow_other _ _ _ _ (by omega),hW2]
      show (W1.setRow N R1).heap[k]?=_
      rw [setRow_other _ _ _ _ (by omega)];exact hold k hk
 exact ⟨G,N,W1,R1,W2,A,hN,hGn,hGm,hrz,hcp1,hW2.symm,hcp2,kA⟩
end
set_option maxRecDepth 1000000 in
theorem InsEnd237 (w:World) (S:Value) (n:Nat) (vals:List Value) (hS:w.ownsRow 0 9 1 S n vals) (gv m vc:Nat) (us:List Value) (hul:us.length=m) (hus:∀ j u,us[j]?=some u→w.cell? ⟨gv,j,none⟩=some u) (h1u:∀ v ∈ us,v.oneCell'=true) (hm:0<m) (hb:(n+m)*16≤140737488355328) :
  Calls Tryz.prog 237 #[S,.int .i64 n,.slice (some ⟨gv,0,none⟩) m vc] w fun e w'=>∃ R,e = .returned R∧w'.ownsRow 0 9 1 R (n+m) (vals++us)∧jz_ w w' (fun b=>ce_ S b≠0) ∧
   ∀ b,ce_ R b≠0→(w.heap.size≤b∨ce_ S b≠0)∧b<w'.heap.size:=by
 obtain ⟨i0,hi0⟩:=Option.isSome_iff_exists.1 (show (Tryz.prog.info? 9).isSome=true by kernel_rfl)
 have hz0:i0.size=1:=by
  have:(Tryz.prog.info? 9).map (·.size)=some 1:=by kernel_rfl
  rw [hi0] at this;simpa using this
 have hz1:i0.bytes=16:=by
  have:(Tryz.prog.info? 9).map (·.bytes)=some 16:=by kernel_rfl
  rw [hi0] at this;simpa using this
 have hz2:i0.zero=some (.string ByteArray.empty):=by
  have:(Tryz.prog.info? 9).bind (·.zero)=some (.string ByteArray.empty):=by kernel_rfl
  rw [hi0] at this;simpa using this
 have hz3:¬ ((m:Int)=0):=by omega
 have mixed:Tryz.prog.follows .mixedOrders=true:=by kernel_rfl
 have key:∀ ty,∃ v' w',(Builtin.append_ #[27,27] ty #[S,.slice (some ⟨gv,0,none⟩) m vc]).run Tryz.prog w = .ok v' w'∧w'.ownsRow 0 9 1 v' (n+m) (vals++us)∧jz_ w w' (fun b=>ce_ S b≠0) ∧
   ∀ b,ce_ v' b≠0→(w.heap.size≤b∨ce_ S b≠0)∧b<w'.heap.size:=fun ty=>by
  have:=fw_ (P:=Tryz.prog) w 27 ty 9 i0 _ Tryz.underlying27 hi0 hz2 (by rw [hz0];rfl) (by rw [hz0];decide) S n vals (by rw [hz0];exact hS) (.slice (some ⟨gv,0,none⟩) m vc) m us (by rw [hz0,Nat.mul_one];exact hul) (.inl ⟨_,_,rfl,fun j u h=>by rw [Addr.add_lit,Nat.zero_add];exact hus j u h⟩) h1u (by unfold maxLen;omega) (by rw [hz1];exact hb)
  rw [hz0] at this
  exact this
 obtain ⟨v',w',k1,k2,k3⟩:=key 27
 rcases (dO_.1 hS).2 with ⟨rfl,rfl⟩|⟨g,c,cur,rfl,-,hg,hnc,hcm,hcs,htake⟩
 · clear key hS hus hz2 hi0 hz0 hz1
   go_enter Tryz.func237,Tryz.ntmps237
   go_wp2_with (at_builtin;refine Lib.wpList_append_run _ rfl _ _ 27 27 rfl _ _ rfl rfl _ _ k1 ?_)
   go_ret
   exact ⟨_,rfl,k2,k3⟩
 · clear key hS hus hz2 hg htake hcs hi0 hz0 hz1
   unfold maxLen at hcm
   go_enter Tryz.func237,Tryz.ntmps237
   go_wp2_with (at_builtin;refine Lib.wpList_append_run _ rfl _ _ 27 27 rfl _ _ rfl rfl _ _ k1 ?_)
   all_goals (go_ret;exact ⟨_,rfl,k2,k3⟩)
set_option maxRecDepth 1000000 in
theorem rv_ (w:World) (S:Value) (n i:Nat) (vals:List Value) (hS:w.ownsRow 0 9 1 S n vals) (U:Value) (us:List Value) (hU:w.ownsRow 0 9 1 U 0 us) (hi:i≤n) :
  Calls Tryz.prog 237 #[S,.int .i64 i,U] w fun e w'=>e = .returned S∧w'=w:=by
 rcases (dO_.1 hS).2 with ⟨rfl,rfl⟩|⟨g,c,cur,rfl,-,hg,hnc,hcm,hcs,htake⟩
 · have hi0:i=0:=by omega
   subst hi0
   rcases (dO_.1 hU).2 with ⟨rfl,-⟩|⟨gv,vc,curv,rfl,-,hgv,hmc,hcm,hcs,htake⟩
   · clear hS hU
     go_enter Tryz.func237,Tryz.ntmps237
     go_wp2_with fail
     go_ret
     exact ⟨rfl,rfl⟩
   · clear hS hU hgv hcs htake
     go_enter Tryz.func237,Tryz.ntmps237
     go_wp2_with fail
     go_ret
     exact ⟨rfl,rfl⟩
 · unfold maxLen at hcm
   have hic:i≤c:=by omega
   rcases (dO_.1 hU).2 with ⟨rfl,-⟩|⟨gv,vc,curv,rfl,-,hgv,hmc,hcm2,hcs2,htake2⟩
   · clear hS hU hg hcs htake
     go_enter Tryz.func237,Tryz.ntmps237
     go_wp2_with fail
     all_goals (go_ret;exact ⟨rfl,rfl⟩)
   · clear hS hU hg hcs htake hgv hcs2 htake2
     go_enter Tryz.func237,Tryz.ntmps237
     go_wp2_with fail
     all_goals (go_ret;exact ⟨rfl,rfl⟩)
set_option maxRecDepth 1000000 in
theorem pJ_ (w:World) (g n c i:Nat) (cur:Array Value) (hg:w.heap[g]?=some (.cells cur 9 (0,0))) (hs:cur.size=c) (hc:c≤9223372036854775807) (hi:i<n)
  (gv m vc:Nat) (curv:Array Value) (Tv:TypeId) (hgv:w.heap[gv]?=some (.cells curv Tv (0,0))) (hmv:m≤curv.size) (hne:gv≠g) (us:List Value) (hul:us=curv.toList.take (m)) (h1u:∀ v ∈ us,v.oneCell'=true) (hm:0<m) (hroom:n+m≤c)
  (h1:∀ v ∈ cur.toList.take (n),v.oneCell'=true) :
  Calls Tryz.prog 237 #[.slice (some ⟨g,0,none⟩) n c,.int .i64 i,.slice (some ⟨gv,0,none⟩) m vc] w fun e w'=>e = .returned (.slice (some ⟨g,0,none⟩) (n+m) c) ∧
   ∃ A,w'=w.drew.setRow g A∧A.size=cur.size∧A.toList.take ((n+m))=(cur.toList.take (n)).take (i)++us++(cur.toList.take (n)).drop (i):=by
 have hsz:(Tryz.prog.info? 9).map (·.size)=some 1:=by kernel_rfl
 have hul2:us.length=m:=by rw [hul,List.length_take,Array.length_toList];omega
 have hov:∀ lb cb,(callFunc 264 #[.slice (some ⟨gv,0,none⟩) m vc,.slice (some ⟨g,(i+m),none⟩) lb cb]).run Tryz.prog w = .ok (.value (.bool false)) w:=fun lb cb=>by
  rw [run_callFunc_extern Tryz.func264 (by kernel_rfl) (by kernel_rfl) (by kernel_rfl) (e:=Extern.SlicesOverlaps.overlaps #[27,27] #[4]) (by kernel_rfl),
   Lib.run_overlaps_apart w 27 4 9 Tryz.underlying27 1 Tryz.sizeOf9 ⟨gv,0,none⟩ ⟨g,(i+m),none⟩ m vc lb cb hne Tv 9 curv.size cur.size (by simp [World.shape?,hgv]) (by simp [World.shape?,hg]) (by omega) (by simp [World.frozen?,hgv]) (by simp [World.frozen?,hgv])]
  rfl
 obtain ⟨mv,hmv2⟩:∃ mv,mv=(cur.toList.take (n)).drop (i):=⟨_,rfl⟩
 have hml:mv.length=(n - i):=by rw [hmv2];simp [hs];omega
 have hgd:w.drew.heap[g]?=some (.cells cur 9 (0,0)):=hg
 obtain ⟨B,hB⟩:∃ B,B=(cur.toList.take ((i+m))++mv++cur.toList.drop ((i+m)+mv.length)).toArray:=⟨_,rfl⟩
 have hcp1:∀ ty dc sc,(Builtin.copy_ #[27,27] ty #[.slice (some ⟨g,(i+m),none⟩) (n+m - (i+m)) dc,.slice (some ⟨g,i,none⟩) (n+m - i) sc]).run Tryz.prog w.drew = .ok (goInt (n - i)) (w.drew.setRow g B):=fun ty dc sc=>by
  have:=dN_ (P:=Tryz.prog) w.drew 27 27 ty 9 1 g ((i+m)) (n+m - (i+m)) dc ⟨g,i,none⟩ (n+m - i) sc cur 9 mv Tryz.underlying27 hsz hgd (by rw [hml];simp only [Nat.min_def];split<;>omega)
   (fun j v hj=>by
     have hj2:=(List.getElem?_eq_some_iff.1 hj).1
     rw [hmv2,List.getElem?_drop,List.getElem?_take_of_lt (by omega),Array.getElem?_toList] at hj
     rw [Addr.add_lit]
     simp only [World.cell?,hgd]
     exact hj) (by rw [hml,hs];omega) (fun v hv=>h1 v (by rw [hmv2] at hv;exact List.mem_of_mem_drop hv))
  rw [this,hB]
  congr 2
  simp only [Nat.min_def];split<;>omega
 have hBs:B.size=cur.size:=by rw [hB];simp [hml,hs];omega
 have hgB:(w.drew.setRow g B).heap[g]?=some (.cells B 9 (0,0)):=setRow_heap _ _ _ _ _ _ hgd
 obtain ⟨A,hA⟩:∃ A,A=(B.toList.take (i)++us++B.toList.drop (i+us.length)).toArray:=⟨_,rfl⟩
 have hcp2:∀ ty dc,(Builtin.copy_ #[27,27] ty #[.slice (some ⟨g,i,none⟩) (n+m - i) dc,.slice (some ⟨gv,0,none⟩) m vc]).run Tryz.prog (w.drew.setRow g B) = .ok (goInt m) (w.drew.setRow g A):=fun ty dc=>by
  have:=dN_ (P:=Tryz.prog) (w.drew.setRow g B) 27 27 ty 9 1 g (i) (n+m - i) dc ⟨gv,0,none⟩ m vc B 9 us Tryz.underlying27 hsz hgB (by rw [hul2];simp only [Nat.min_def];split<;>omega)
   (fun j v hj=>by
     have hj2:=(List.getElem?_eq_some_iff.1 hj).1
     rw [hul,List.getElem?_take_of_lt (by omega),Array.getElem?_toList] at hj
     rw [Addr.add_lit,Nat.zero_add]
     have e:(w.drew.setRow g B).heap[gv]?=some (.cells curv Tv (0,0)):=by rw [setRow_other _ _ _ _ hne];exact hgv
     simp only [World.cell?,e]
     exact hj) (by rw [hul2,hBs,hs];omega) h1u
  rw [this,hA,setRow_setRow]
  congr 2
  simp only [Nat.min_def];split<;>omega
 have kA:Hid (A.size=cur.size∧A.toList.take ((n+m))=(cur.toList.take (n)).take (i)++us++mv):=by
  have e1:B.toList.take (i)=(cur.toList.take (n)).take (i):=by
   rw [hB];simp only [List.toList_toArray,List.append_assoc]
   rw [List.take_append_of_le_length (by simp [hs];omega),List.take_take,List.take_take]
   congr 1;omega
  have e2:(B.toList.drop (i+us.length)).take mv.length=mv:=by
   rw [hB];simp only [List.toList_toArray,List.append_assoc]
   rw [List.drop_append,List.drop_eq_nil_of_le (by simp [hul2,hs];omega),List.nil_append,List.length_take,show i+us.length - min ((i+m)) cur.toList.length=0 by simp [hul2,hs];omega,List.drop_zero,List.take_append_of_le_length (Nat.le_refl _),List.take_of_length_le (Nat.le_refl _)]
  refine ⟨by rw [hA];simp [hul2,hBs,hs];omega,?_⟩
  rw [hA];simp only [List.toList_toArray]
  rw [List.take_append,List.take_of_length_le (by simp [hul2,hBs,hs];omega),e1]
  congr 1
  rw [show (n+m) - (List.take (i) (List.take (n) cur.toList)++us).length=mv.length by simp [hul2,hml,hs];omega]
  exact e2
 rw [hmv2] at kA
 have hnc:n≤c:=by omega
 have hic:i≤c:=by omega
 have hz1:¬ ((m:Int)=0):=by omega
 have hz2:¬ ((i:Int)=(n:Int)):=by omega
 have mixed:Tryz.prog.follows .mixedOrders=true:=by kernel_rfl
 have hw1:IntKind.i64.wrap ((i:Int)+(m:Int))=(i:Int)+(m:Int):=by rw [IntKind.wrap_i64];omega
 have hb1:(0:Int)≤(i:Int)+(m:Int):=by omega
 have hin:i≤n:=by omega
 have htn:((i:Int)+(m:Int)).toNat=i+m:=by omega
 have hb2:¬ (c=i+m):=by omega
 have hb3:(i:Int)≤(n:Int)+(m:Int):=by omega
 have hb4:¬ (c=i):=by omega
 clear hB hBs hgB hA hmv2 hml hgd hg hgv hul hul2 h1 h1u hsz hs hmv
 go_enter Tryz.func237,Tryz.ntmps237
 go_wp2_with (simp only [hov])
 go_region_law_o (refine fa_ rfl _ _ 27 27 rfl _ _ (by simp [Act.eval,Act.put]) (by simp [Act.eval,Act.put]) (hcp1 _ _ _) ?_)
 go_wp2_with (at_builtin;refine gT_ _ rfl _ _ 27 27 rfl _ _ rfl rfl (hcp2 _ _) ?_)
 go_ret
 exact ⟨rfl,A,rfl,kA.out.1,kA.out.2⟩
set_option maxRecDepth 1000000 in
theorem rx_ (w:World) (g n c i:Nat) (cur:Array Value) (hg:w.heap[g]?=some (.cells cur 9 (0,0))) (hs:cur.size=c) (hnc:n≤c) (hi:i<n)
  (gv m vc:Nat) (curv:Array Value) (Tv:TypeId) (hgv:w.heap[gv]?=some (.cells curv Tv (0,0))) (hmv:m≤curv.size) (us:List Value) (hul:us=curv.toList.take (m)) (h1u:∀ v ∈ us,v.oneCell'=true) (hm:0<m) (hroom:c<n+m)
  (hbig:(n+m)*16≤140737488355328) (h1:∀ v ∈ cur.toList.take (n),v.oneCell'=true) :
  Calls Tryz.prog 237 #[.slice (some ⟨g,0,none⟩) n c,.int .i64 i,.slice (some ⟨gv,0,none⟩) m vc] w fun e w'=>∃ C A,e = .returned (.slice (some ⟨w.heap.size,0,none⟩) (n+m) C)∧n+m≤C∧C≤maxLen ∧
   w'.heap[w.heap.size]?=some (.cells A 9 (0,0))∧A.size=C∧A.toList.take ((n+m))=(cur.toList.take (n)).take (i)++us++(cur.toList.take (n)).drop (i)∧w.grownBy w' none:=by
 obtain ⟨i0,hi0⟩:=Option.isSome_iff_exists.1 (show (Tryz.prog.info? 9).isSome=true by kernel_rfl)
 have hz0:i0.size=1:=by
  have:(Tryz.prog.info? 9).map (·.size)=some 1:=by kernel_rfl
  rw [hi0] at this;simpa using this
 have hz1:i0.bytes=16:=by
  have:(Tryz.prog.info? 9).map (·.bytes)=some 16:=by kernel_rfl
  rw [hi0] at this;simpa using this
 have hz2:i0.zero=some (.string ByteArray.empty):=by
  have:(Tryz.prog.info? 9).bind (·.zero)=some (.string ByteArray.empty):=by kernel_rfl
  rw [hi0] at this;simpa using this
 obtain ⟨G,N,W1,R1,W2,A,hNN,hGn,hGm,hrz,hcp1,hW2',hcp2,kA⟩:=q7_ 27 9 3 _ i0 Tryz.underlying27 Tryz.underlying3 hi0 hz2 hz0 hz1 rfl w g n c i cur hg hs hnc hi gv m vc curv Tv hgv hmv us hul h1u hm hroom hbig h1
 have hic:i≤c:=by omega
 have hz3:¬ ((m:Int)=0):=by omega
 have hz4:¬ ((i:Int)=(n:Int)):=by omega
 have hz5:(c:Int)<(n:Int)+(m:Int):=by omega
 have mixed:Tryz.prog.follows .mixedOrders=true:=by kernel_rfl
 have hG63:G≤9223372036854775807:=by unfold maxLen at hGm;omega
 have hw1:IntKind.i64.wrap ((n:Int)+(m:Int))=(n:Int)+(m:Int):=by rw [IntKind.wrap_i64];omega
 have hw2:IntKind.i64.wrap ((n:Int)+(m:Int) - (i:Int))=(n:Int)+(m:Int) - (i:Int):=by rw [IntKind.wrap_i64];omega
 have hw3:IntKind.i64.wrap ((i:Int)+(m:Int))=(i:Int)+(m:Int):=by rw [IntKind.wrap_i64];omega
 have hb1:(0:Int)≤(i:Int)+(m:Int):=by omega
 have htn:((i:Int)+(m:Int)).toNat=i+m:=by omega
 have hGi:¬ (G=i):=by omega
 have hGim:¬ (G=i+m):=by omega
 have hb3:(i:Int)≤(n:Int)+(m:Int):=by omega
 have hb4:¬ (c=i):=by omega
 have hinm:i≤n+m:=by omega
 have himn:i+m≤n+m:=by omega
 have hin:i≤n:=by omega
 clear hul h1 h1u hg hgv hs hmv hz0 hz1 hz2 hi0 hbig
 go_enter Tryz.func237,Tryz.ntmps237
 go_wp2_with (at_builtin;refine Lib.wpList_append_run _ rfl _ _ 27 3 rfl _ _ rfl rfl _ _ (hrz _) ?_)
 go_region_law_o (simp only [hW2'];refine fa_ rfl _ _ 27 27 rfl _ _ (by simp [Act.eval,Act.put]) (by simp [Act.eval,Act.put]) (hcp2 _ _ _) ?_)
 go_wp2_with fail
 go_ret
 exact ⟨G,A,by rw [hNN.out];rfl,kA.out⟩
theorem insM237:InsM Tryz.prog 237 9 1 16:=by
 intro w S n vals U m us i hS hU hdis hi h1 h1u hb
 simp only [Nat.mul_one]
 have hvl:=(dO_.1 hS).1
 by_cases hm:m=0
 · subst hm
   have hus:us=[]:=by have:=(dO_.1 hU).1;(try rw [Nat.zero_mul] at this);exact List.eq_nil_of_length_eq_zero this
   subst hus
   refine (rv_ w S n i vals hS U [] hU hi).mono ?_
   rintro e w' ⟨rfl,rfl⟩
   refine ⟨S,rfl,by rw [List.append_nil,List.take_append_drop];exact hS,⟨rfl,rfl,rfl,Nat.le_refl _,fun _ _ _=>rfl⟩,fun b hb=>⟨.inr hb,mQ_ hS b hb⟩⟩
 · rcases (dO_.1 hU).2 with ⟨rfl,h0⟩|⟨gv,vc,curv,rfl,-,hgv,hmc,hcm,hcs,htake⟩
   · exact absurd h0 hm
   · by_cases hin:i=n
     · subst hin
       rw [List.take_of_length_le (by omega),List.drop_eq_nil_of_le (by omega),List.append_nil]
       exact InsEnd237 w S i vals hS gv m vc us (dO_.1 hU).1 (fun j u h=>by have:=hU.cells (g:=gv) rfl j u h;rwa [Addr.add_lit,Nat.zero_add] at this) h1u (by omega) hb
     · rcases (dO_.1 hS).2 with ⟨rfl,h0⟩|⟨g,c,cur,rfl,-,hg,hnc,hcm',hcs',htake'⟩
       · omega
       · have hne:gv≠g:=fun e=>by subst e;have:=hdis gv (by simp [ce_]);simp [ce_] at this
         have hmv:m≤curv.size:=by rw [hcs];exact hmc
         by_cases hroom:n+m≤c
         · refine (pJ_ w g n c i cur hg hcs' (by unfold maxLen at hcm';omega) (by omega) gv m vc curv 9 hgv hmv hne us htake.symm h1u (by omega) hroom (by rw [htake'];exact h1)).mono ?_
           rintro e w' ⟨rfl,A,rfl,hA,ht⟩
           rw [htake'] at ht
           have hgd:w.drew.heap[g]?=some (.cells cur 9 (0,0)):=hg
           have hA2:=setRow_heap w.drew g cur A _ _ hgd
           refine ⟨_,rfl,dO_.2 ⟨by rw [←ht];simp [hA,hcs'];omega,.inr ⟨g,c,A,rfl,Nat.zero_le _,hA2,hroom,hcm',by rw [hA,hcs'],ht⟩⟩,⟨rfl,rfl,rfl,iQ_ w g A,fun b _ hn => ?_⟩,fun b hb=>⟨.inr hb,?_⟩⟩
           · rw [setRow_other _ _ _ _ (fun e=>hn (by subst e;simp [ce_]))];rfl
           · have:g=b:=by simp only [ce_] at hb;exact Classical.byContradiction fun h=>hb (if_neg h)
             subst this
             exact (Array.getElem?_eq_some_iff.1 hA2).1
         · refine (rx_ w g n c i cur hg hcs' hnc (by omega) gv m vc curv 9 hgv hmv us htake.symm h1u (by omega) (by omega) hb (by rw [htake'];exact h1)).mono ?_
           rintro e w' ⟨C,A,rfl,hC,hCm,hN,hA,ht,hgr⟩
           rw [htake'] at ht
           refine ⟨_,rfl,dO_.2 ⟨by rw [←ht];simp [hA];omega,.inr ⟨_,C,A,rfl,Nat.zero_le _,hN,hC,hCm,hA,ht⟩⟩,⟨hgr.os,hgr.tape,hgr.output,hgr.size,fun b hb _=>hgr.block b hb (by simp)⟩,fun b hb => ?_⟩
           have:w.heap.size=b:=by simp only [ce_] at hb;exact Classical.byContradiction fun h=>hb (if_neg h)
           subst this
           exact ⟨.inl (Nat.le_refl _),(Array.getElem?_eq_some_iff.1 hN).1⟩
end Go.Proofs
namespace Go.Pi
open Go.Proofs
theorem cn_.ok (n:Nat):cn_.e.Oks E (cx n) n:=fun _ _ _ _ h=>nIns_ok (t:=.str) (m1:=.d) (m2:=.d) (by decide) (by decide) insM237 h
end Go.Pi
end
section
namespace Go.Proofs
open Go.Shelf Go.RowKit Go.Lib Go.Pi
section
variable {P:Program}
theorem q6_ (TS TE:TypeId) (TI:TypeId) (Z:Value) (i0:TypeInfo) (uS:P.underlying TS=some (.slice TE)) (uI:P.underlying TI=some (.int .i64)) (hi0:P.info? TE=some i0) (hz2:i0.zero=some Z) (hz0:i0.size=5) (hz1:i0.bytes=80) (hZK:Z.cells.size=5)
  (w:World) (g n c i:Nat) (cur:Array Value) (hg:w.heap[g]?=some (.cells cur TE (0,0))) (hs:cur.size=c*5) (hnc:n≤c) (hi:i<n)
  (gv m vc:Nat) (curv:Array Value) (Tv:TypeId) (hgv:w.heap[gv]?=some (.cells curv Tv (0,0))) (hmv:m*5≤curv.size) (us:List Value) (hul:us=curv.toList.take (m*5)) (h1u:∀ v ∈ us,v.oneCell'=true) (hm:0<m) (hroom:c<n+m)
  (hbig:(n+m)*80≤140737488355328) (h1:∀ v ∈ cur.toList.take (n*5),v.oneCell'=true) :
  ∃ G N W1 R1 W2 A,Hid (N=w.heap.size)∧n+m≤G∧G≤maxLen ∧
    (∀ ty,(Builtin.append_ #[TS,TI] ty #[.slice (some ⟨g,0,none⟩) i c,.int .i64 ((n:Int)+(m:Int) - (i:Int))]).run P w = .ok (.slice (some ⟨N,0,none⟩) (n+m) G) W1) ∧
    (∀ ty dc,(Builtin.copy_ #[TS,TS] ty #[.slice (some ⟨N,i*5,none⟩) (n+m - i) dc,.slice (some ⟨gv,0,none⟩) m vc]).run P W1 = .ok (goInt m) (W1.setRow N R1)) ∧
    (W1.setRow N R1).drew=W2 ∧
    (∀ ty dc sc,(Builtin.copy_ #[TS,TS] ty #[.slice (some ⟨N,(i+m)*5,none⟩) (n+m - (i+m)) dc,.slice (some ⟨g,i*5,none⟩) (n - i) sc]).run P W2 = .ok (goInt (n - i)) (W2.setRow N A)) ∧
    Hid (n+m≤G∧G≤maxLen∧(W2.setRow N A).heap[w.heap.size]?=some (.cells A TE (0,0))∧A.size=G*5∧A.toList.take ((n+m)*5)=(cur.toList.take (n*5)).take (i*5)++us++(cur.toList.take (n*5)).drop (i*5)∧w.grownBy (W2.setRow N A) none):=by
 have hul2:us.length=m*5:=by rw [hul,List.length_take,Array.length_toList];omega
 have hsz:(P.info? TE).map (·.size)=some 5:=by rw [hi0];simp [hz0]
 have hgd:w.drew.heap[g]?=some (.cells cur TE (0,0)):=hg
 have hgl:g<w.heap.size:=(Array.getElem?_eq_some_iff.1 hg).1
 have hgvl:gv<w.heap.size:=(Array.getElem?_eq_some_iff.1 hgv).1
 obtain ⟨olds,holds⟩:∃ olds,olds=(cur.toList.take (n*5)).take (i*5):=⟨_,rfl⟩
 have hol:olds.length=i*5:=by rw [holds];simp [hs];omega
 obtain ⟨G,hG⟩:∃ G,G=grownCap w (n+m) c TE:=⟨_,rfl⟩
 have hGn:n+m≤G:=by rw [hG];exact grownCap_ge w _ _ _
 have hGm:G≤maxLen:=by rw [hG];exact grownCap_le_maxLen w (n+m) c TE (by unfold maxLen;omega)
 obtain ⟨ROW,hROW⟩:∃ ROW:Array Value,ROW=olds.toArray++Builtin.zeroCells Z.cells (n+m - i)++Builtin.zeroCells Z.cells (G - (n+m)):=⟨_,rfl⟩
 have hRl:ROW.size=G*5:=by rw [hROW];simp [Builtin.zeroCells,hol,hZK];omega
 have hRt:ROW.toList.take (i*5)=olds:=by
  rw [hROW];simp only [Array.toList_append,List.append_assoc]
  rw [List.take_append_of_le_length (by simp [hol]),List.take_of_length_le (by simp [hol])]
 have hkk:(n:Int)+(m:Int) - (i:Int)=((n+m - i:Nat):Int):=by omega
 have hrz:∀ ty,(Builtin.append_ #[TS,TI] ty #[.slice (some ⟨g,0,none⟩) i c,.int .i64 ((n:Int)+(m:Int) - (i:Int))]).run P w =
   .ok (.slice (some ⟨w.heap.size,0,none⟩) (n+m) G) (w.drew.alloc (.cells ROW TE)):=fun ty=>by
  have h:=Lib.run_append_grow_zeros (P:=P) w TS TI ty TE i0 _ .i64 .i64 uS uI hi0 hz2 (some ⟨g,0,none⟩) i c olds (by
   rw [hz0]
   exact run_firstCells_some w.drew 5 i ⟨g,0,none⟩ i c olds hol (fun j v hj=>by
    have hj2:=(List.getElem?_eq_some_iff.1 hj).1
    rw [holds,List.getElem?_take_of_lt (by omega),List.getElem?_take_of_lt (by omega),Array.getElem?_toList] at hj
    rw [Addr.add_lit,Nat.zero_add]
    simp only [World.cell?,hgd]
    exact hj)) (n+m - i) (by omega) (by omega) (by omega) (by omega) (by rw [hz1];omega) (by rw [hz1,show i+(n+m - i)=n+m by omega];exact growslice_fits hroom hbig)
  rw [show i+(n+m - i)=n+m by omega,←hG,←hROW] at h
  rw [hkk]
  exact h
 obtain ⟨N,hN⟩:∃ N,N=w.heap.size:=⟨_,rfl⟩
 rw [←hN] at hrz
 obtain ⟨W1,hW1⟩:∃ W1,W1=w.drew.alloc (.cells ROW TE):=⟨_,rfl⟩
 rw [←hW1] at hrz
 have hN1:W1.heap[N]?=some (.cells ROW TE (0,0)):=by rw [hW1,hN];exact heap_alloc_new w.drew _
 have hold:∀ b,b<w.heap.size→W1.heap[b]?=w.heap[b]?:=fun b hb=>by rw [hW1];exact heap_alloc_old w.drew _ hb
 have hgr1:w.grownBy W1 none:=by rw [hW1];exact ⟨rfl,rfl,rfl,by simp,fun k hk _=>heap_alloc_old w.drew _ hk⟩
 obtain ⟨R1,hR1⟩:∃ R1,R1=(ROW.toList.take (i*5)++us++ROW.toList.drop (i*5+us.length)).toArray:=⟨_,rfl⟩
 have hR1s:R1.size=G*5:=by rw [hR1];simp [hul2,hRl];omega
 have hcp1:∀ ty dc,(Builtin.copy_ #[TS,TS] ty #[.slice (some ⟨N,i*5,none⟩) (n+m - i) dc,.slice (some ⟨gv,0,none⟩) m vc]).run P W1 = .ok (goInt m) (W1.setRow N R1):=fun ty dc=>by
  have:=dN_ (P:=P) W1 TS TS ty TE 5 N (i*5) (n+m - i) dc ⟨gv,0,none⟩ m vc ROW TE us uS hsz hN1 (by rw [hul2];simp only [Nat.min_def];split<;>omega)
   (fun j v hj=>by
     have hj2:=(List.getElem?_eq_some_iff.1 hj).1
     rw [hul,List.getElem?_take_of_lt (by omega),Array.getElem?_toList] at hj
     rw [Addr.add_lit,Nat.zero_add]
     simp only [World.cell?,hold gv hgvl,hgv]
     exact hj) (by rw [hul2,hRl];omega) h1u
  rw [this,hR1]
  congr 2
  simp only [Nat.min_def];split<;>omega
 obtain ⟨W2,hW2⟩:∃ W2,W2=(W1.setRow N R1).drew:=⟨_,rfl⟩
 have hN2:W2.heap[N]?=some (.cells R1 TE (0,0)):=by rw [hW2];exact setRow_heap _ _ _ _ _ _ hN1
 have hg2:W2.heap[g]?=some (.cells cur TE (0,0)):=by
  rw [hW2];show (W1.setRow N R1).heap[g]?=_
  rw [setRow_other _ _ _ _ (by omega),hold g hgl];exact hg
 obtain ⟨mv,hmv2⟩:∃ mv,mv=(cur.toList.take (n*5)).drop (i*5):=⟨_,rfl⟩
 have hml:mv.length=(n - i)*5:=by rw [hmv2];simp [hs];omega
 obtain ⟨A,hA⟩:∃ A,A=(R1.toList.take ((i+m)*5)++mv++R1.toList.drop ((i+m)*5+mv.length)).toArray:=⟨_,rfl⟩
 have hcp2:∀ ty dc sc,(Builtin.copy_ #[TS,TS] ty #[.slice (some ⟨N,(i+m)*5,none⟩) (n+m - (i+m)) dc,.slice (some ⟨g,i*5,none⟩) (n - i) sc]).run P W2 = .ok (goInt (n - i)) (W2.setRow N A):=fun ty dc sc=>by
  have:=dN_ (P:=P) W2 TS TS ty TE 5 N ((i+m)*5) (n+m - (i+m)) dc ⟨g,i*5,none⟩ (n - i) sc R1 TE mv uS hsz hN2 (by rw [hml];simp only [Nat.min_def];split<;>omega)
   (fun j v hj=>by
     have hj2:=(List.getElem?_eq_some_iff.1 hj).1
     rw [hmv2,List.getElem?_drop,List.getElem?_take_of_lt (by omega),Array.getElem?_toList] at hj
     rw [Addr.add_lit]
     simp only [World.cell?,hg2]
     exact hj) (by rw [hml,hR1s];omega) (fun v hv=>h1 v (by rw [hmv2] at hv;exact List.mem_of_mem_drop hv))
  rw [this,hA]
  congr 2
  simp only [Nat.min_def];split<;>omega
 have kA:Hid (n+m≤G∧G≤maxLen∧(W2.setRow N A).heap[w.heap.size]?=some (.cells A TE (0,0))∧A.size=G*5∧A.toList.take ((n+m)*5)=(cur.toList.take (n*5)).take (i*5)++us++(cur.toList.take (n*5)).drop (i*5)∧w.grownBy (W2.setRow N A) none):=by
  refine ⟨hGn,hGm,by rw [←hN];exact setRow_heap _ _ _ _ _ _ hN2,by rw [hA];simp [hml,hR1s];omega,?_,?_⟩
  · have e1:R1.toList.take ((i+m)*5)=olds++us:=by
     rw [hR1];simp only [List.toList_toArray]
     rw [List.take_append_of_le_length (by simp [hul2,hRl];omega),List.take_of_length_le (by simp [hul2,hRl];omega),hRt]
    rw [hA];simp only [List.toList_toArray]
    rw [e1,List.take_append_of_le_length (by simp [hol,hul2,hml];omega),List.take_of_length_le (by simp [hol,hul2,hml];omega),holds,hmv2]
  · refine ⟨by rw [hW2];exact hgr1.os,by rw [hW2];exact hgr1.tape,by rw [hW2];exact hgr1.output,?_,fun k hk hne => ?_⟩
    · have:(W2.setRow N A).heap.size=W1.heap.size:=by rw [hW2];simp [World.setRow,World.drew]
      rw [this];exact hgr1.size
    · rw [setRow_other _ _ _ _ (by omega),hW2]
      show (W1.setRow N R1).heap[k]?=_
      rw [setRow_other _ _ _ _ (by omega)];exact hold k hk
 exact ⟨G,N,W1,R1,W2,A,hN,hGn,hGm,hrz,hcp1,hW2.symm,hcp2,kA⟩
end
set_option maxRecDepth 1000000 in
theorem InsEnd238 (w:World) (S:Value) (n:Nat) (vals:List Value) (hS:w.ownsRow 0 29 5 S n vals) (gv m vc:Nat) (us:List Value) (hul:us.length=m*5) (hus:∀ j u,us[j]?=some u→w.cell? ⟨gv,j,none⟩=some u) (h1u:∀ v ∈ us,v.oneCell'=true) (hm:0<m) (hb:(n+m)*80≤140737488355328) :
  Calls Tryz.prog 238 #[S,.int .i64 n,.slice (some ⟨gv,0,none⟩) m vc] w fun e w'=>∃ R,e = .returned R∧w'.ownsRow 0 29 5 R (n+m) (vals++us)∧jz_ w w' (fun b=>ce_ S b≠0) ∧
   ∀ b,ce_ R b≠0→(w.heap.size≤b∨ce_ S b≠0)∧b<w'.heap.size:=by
 obtain ⟨i0,hi0⟩:=Option.isSome_iff_exists.1 (show (Tryz.prog.info? 29).isSome=true by kernel_rfl)
 have hz0:i0.size=5:=by
  have:(Tryz.prog.info? 29).map (·.size)=some 5:=by kernel_rfl
  rw [hi0] at this;simpa using this
 have hz1:i0.bytes=80:=by
  have:(Tryz.prog.info? 29).map (·.bytes)=some 80:=by kernel_rfl
  rw [hi0] at this;simpa using this
 have hz2:i0.zero=some (.agg #[.int .i64 0,.int .i64 0,.string ByteArray.empty,.slice none 0 0,.slice none 0 0]):=by
  have:(Tryz.prog.info? 29).bind (·.zero)=some (.agg #[.int .i64 0,.int .i64 0,.string ByteArray.empty,.slice none 0 0,.slice none 0 0]):=by kernel_rfl
  rw [hi0] at this;simpa using this
 have hz3:¬ ((m:Int)=0):=by omega
 have mixed:Tryz.prog.follows .mixedOrders=true:=by kernel_rfl
 have key:∀ ty,∃ v' w',(Builtin.append_ #[26,26] ty #[S,.slice (some ⟨gv,0,none⟩) m vc]).run Tryz.prog w = .ok v' w'∧w'.ownsRow 0 29 5 v' (n+m) (vals++us)∧jz_ w w' (fun b=>ce_ S b≠0) ∧
   ∀ b,ce_ v' b≠0→(w.heap.size≤b∨ce_ S b≠0)∧b<w'.heap.size:=fun ty=>by
  have:=fw_ (P:=Tryz.prog) w 26 ty 29 i0 _ Tryz.underlying26 hi0 hz2 (by rw [hz0];rfl) (by rw [hz0];decide) S n vals (by rw [hz0];exact hS) (.slice (some ⟨gv,0,none⟩) m vc) m us (by rw [hz0];exact hul) (.inl ⟨_,_,rfl,fun j u h=>by rw [Addr.add_lit,Nat.zero_add];exact hus j u h⟩) h1u (by unfold maxLen;omega) (by rw [hz1];exact hb)
  rw [hz0] at this
  exact this
 obtain ⟨v',w',k1,k2,k3⟩:=key 26
 rcases hS.2 with ⟨rfl,rfl⟩|⟨g,c,cur,rfl,-,hg,hnc,hcm,hcs,htake⟩
 · clear key hS hus hz2 hi0 hz0 hz1
   go_enter Tryz.func238,Tryz.ntmps238
   go_wp2_with (at_builtin;refine Lib.wpList_append_run _ rfl _ _ 26 26 rfl _ _ rfl rfl _ _ k1 ?_)
   go_ret
   exact ⟨_,rfl,k2,k3⟩
 · clear key hS hus hz2 hg htake hcs hi0 hz0 hz1
   unfold maxLen at hcm
   go_enter Tryz.func238,Tryz.ntmps238
   go_wp2_with (at_builtin;refine Lib.wpList_append_run _ rfl _ _ 26 26 rfl _ _ rfl rfl _ _ k1 ?_)
   all_goals (go_ret;exact ⟨_,rfl,k2,k3⟩)
set_option maxRecDepth 1000000 in
theorem ru_ (w:World) (S:Value) (n i:Nat) (vals:List Value) (hS:w.ownsRow 0 29 5 S n vals) (U:Value) (us:List Value) (hU:w.ownsRow 0 29 5 U 0 us) (hi:i≤n) :
  Calls Tryz.prog 238 #[S,.int .i64 i,U] w fun e w'=>e = .returned S∧w'=w:=by
 rcases hS.2 with ⟨rfl,rfl⟩|⟨g,c,cur,rfl,-,hg,hnc,hcm,hcs,htake⟩
 · have hi0:i=0:=by omega
   subst hi0
   rcases hU.2 with ⟨rfl,-⟩|⟨gv,vc,curv,rfl,-,hgv,hmc,hcm,hcs,htake⟩
   · clear hS hU
     go_enter Tryz.func238,Tryz.ntmps238
     go_wp2_with fail
     go_ret
     exact ⟨rfl,rfl⟩
   · clear hS hU hgv hcs htake
     go_enter Tryz.func238,Tryz.ntmps238
     go_wp2_with fail
     go_ret
     exact ⟨rfl,rfl⟩
 · unfold maxLen at hcm
   have hic:i≤c:=by omega
   rcases hU.2 with ⟨rfl,-⟩|⟨gv,vc,curv,rfl,-,hgv,hmc,hcm2,hcs2,htake2⟩
   · clear hS hU hg hcs htake
     go_enter Tryz.func238,Tryz.ntmps238
     go_wp2_with fail
     all_goals (go_ret;exact ⟨rfl,rfl⟩)
   · clear hS hU hg hcs htake hgv hcs2 htake2
     go_enter Tryz.func238,Tryz.ntmps238
     go_wp2_with fail
     all_goals (go_ret;exact ⟨rfl,rfl⟩)
set_option maxRecDepth 1000000 in
theorem pI_ (w:World) (g n c i:Nat) (cur:Array Value) (hg:w.heap[g]?=some (.cells cur 29 (0,0))) (hs:cur.size=c*5) (hc:c≤9223372036854775807) (hi:i<n)
  (gv m vc:Nat) (curv:Array Value) (Tv:TypeId) (hgv:w.heap[gv]?=some (.cells curv Tv (0,0))) (hmv:m*5≤curv.size) (hne:gv≠g) (us:List Value) (hul:us=curv.toList.take (m*5)) (h1u:∀ v ∈ us,v.oneCell'=true) (hm:0<m) (hroom:n+m≤c)
  (h1:∀ v ∈ cur.toList.take (n*5),v.oneCell'=true) :
  Calls Tryz.prog 238 #[.slice (some ⟨g,0,none⟩) n c,.int .i64 i,.slice (some ⟨gv,0,none⟩) m vc] w fun e w'=>e = .returned (.slice (some ⟨g,0,none⟩) (n+m) c) ∧
   ∃ A,w'=w.drew.setRow g A∧A.size=cur.size∧A.toList.take ((n+m)*5)=(cur.toList.take (n*5)).take (i*5)++us++(cur.toList.take (n*5)).drop (i*5):=by
 have hsz:(Tryz.prog.info? 29).map (·.size)=some 5:=by kernel_rfl
 have hul2:us.length=m*5:=by rw [hul,List.length_take,Array.length_toList];omega
 have hov:∀ lb cb,(callFunc 266 #[.slice (some ⟨gv,0,none⟩) m vc,.slice (some ⟨g,(i+m)*5,none⟩) lb cb]).run Tryz.prog w = .ok (.value (.bool false)) w:=fun lb cb=>by
  rw [run_callFunc_extern Tryz.func266 (by kernel_rfl) (by kernel_rfl) (by kernel_rfl) (e:=Extern.SlicesOverlaps.overlaps #[26,26] #[4]) (by kernel_rfl),
   Lib.run_overlaps_apart w 26 4 29 Tryz.underlying26 5 Tryz.sizeOf29 ⟨gv,0,none⟩ ⟨g,(i+m)*5,none⟩ m vc lb cb hne Tv 29 curv.size cur.size (by simp [World.shape?,hgv]) (by simp [World.shape?,hg]) (by omega) (by simp [World.frozen?,hgv]) (by simp [World.frozen?,hgv])]
  rfl
 obtain ⟨mv,hmv2⟩:∃ mv,mv=(cur.toList.take (n*5)).drop (i*5):=⟨_,rfl⟩
 have hml:mv.length=(n - i)*5:=by rw [hmv2];simp [hs];omega
 have hgd:w.drew.heap[g]?=some (.cells cur 29 (0,0)):=hg
 obtain ⟨B,hB⟩:∃ B,B=(cur.toList.take ((i+m)*5)++mv++cur.toList.drop ((i+m)*5+mv.length)).toArray:=⟨_,rfl⟩
 have hcp1:∀ ty dc sc,(Builtin.copy_ #[26,26] ty #[.slice (some ⟨g,(i+m)*5,none⟩) (n+m - (i+m)) dc,.slice (some ⟨g,i*5,none⟩) (n+m - i) sc]).run Tryz.prog w.drew = .ok (goInt (n - i)) (w.drew.setRow g B):=fun ty dc sc=>by
  have:=dN_ (P:=Tryz.prog) w.drew 26 26 ty 29 5 g ((i+m)*5) (n+m - (i+m)) dc ⟨g,i*5,none⟩ (n+m - i) sc cur 29 mv Tryz.underlying26 hsz hgd (by rw [hml];simp only [Nat.min_def];split<;>omega)
   (fun j v hj=>by
     have hj2:=(List.getElem?_eq_some_iff.1 hj).1
     rw [hmv2,List.getElem?_drop,List.getElem?_take_of_lt (by omega),Array.getElem?_toList] at hj
     rw [Addr.add_lit]
     simp only [World.cell?,hgd]
     exact hj) (by rw [hml,hs];omega) (fun v hv=>h1 v (by rw [hmv2] at hv;exact List.mem_of_mem_drop hv))
  rw [this,hB]
  congr 2
  simp only [Nat.min_def];split<;>omega
 have hBs:B.size=cur.size:=by rw [hB];simp [hml,hs];omega
 have hgB:(w.drew.setRow g B).heap[g]?=some (.cells B 29 (0,0)):=setRow_heap _ _ _ _ _ _ hgd
 obtain ⟨A,hA⟩:∃ A,A=(B.toList.take (i*5)++us++B.toList.drop (i*5+us.length)).toArray:=⟨_,rfl⟩
 have hcp2:∀ ty dc,(Builtin.copy_ #[26,26] ty #[.slice (some ⟨g,i*5,none⟩) (n+m - i) dc,.slice (some ⟨gv,0,none⟩) m vc]).run Tryz.prog (w.drew.setRow g B) = .ok (goInt m) (w.drew.setRow g A):=fun ty dc=>by
  have:=dN_ (P:=Tryz.prog) (w.drew.setRow g B) 26 26 ty 29 5 g (i*5) (n+m - i) dc ⟨gv,0,none⟩ m vc B 29 us Tryz.underlying26 hsz hgB (by rw [hul2];simp only [Nat.min_def];split<;>omega)
   (fun j v hj=>by
     have hj2:=(List.getElem?_eq_some_iff.1 hj).1
     rw [hul,List.getElem?_take_of_lt (by omega),Array.getElem?_toList] at hj
     rw [Addr.add_lit,Nat.zero_add]
     have e:(w.drew.setRow g B).heap[gv]?=some (.cells curv Tv (0,0)):=by rw [setRow_other _ _ _ _ hne];exact hgv
     simp only [World.cell?,e]
     exact hj) (by rw [hul2,hBs,hs];omega) h1u
  rw [this,hA,setRow_setRow]
  congr 2
  simp only [Nat.min_def];split<;>omega
 have kA:Hid (A.size=cur.size∧A.toList.take ((n+m)*5)=(cur.toList.take (n*5)).take (i*5)++us++mv):=by
  have e1:B.toList.take (i*5)=(cur.toList.take (n*5)).take (i*5):=by
   rw [hB];simp only [List.toList_toArray,List.append_assoc]
   rw [List.take_append_of_le_length (by simp [hs];omega),List.take_take,List.take_take]
   congr 1;omega
  have e2:(B.toList.drop (i*5+us.length)).take mv.length=mv:=by
   rw [hB];simp only [List.toList_toArray,List.append_assoc]
   rw [List.drop_append,List.drop_eq_nil_of_le (by simp [hul2,hs];omega),List.nil_append,List.length_take,show i*5+us.length - min ((i+m)*5) cur.toList.length=0 by simp [hul2,hs];omega,List.drop_zero,List.take_append_of_le_length (Nat.le_refl _),List.take_of_length_le (Nat.le_refl _)]
  refine ⟨by rw [hA];simp [hul2,hBs,hs];omega,?_⟩
  rw [hA];simp only [List.toList_toArray]
  rw [List.take_append,List.take_of_length_le (by simp [hul2,hBs,hs];omega),e1]
  congr 1
  rw [show (n+m)*5 - (List.take (i*5) (List.take (n*5) cur.toList)++us).length=mv.length by simp [hul2,hml,hs];omega]
  exact e2
 rw [hmv2] at kA
 have hnc:n≤c:=by omega
 have hic:i≤c:=by omega
 have hz1:¬ ((m:Int)=0):=by omega
 have hz2:¬ ((i:Int)=(n:Int)):=by omega
 have mixed:Tryz.prog.follows .mixedOrders=true:=by kernel_rfl
 have hw1:IntKind.i64.wrap ((i:Int)+(m:Int))=(i:Int)+(m:Int):=by rw [IntKind.wrap_i64];omega
 have hb1:(0:Int)≤(i:Int)+(m:Int):=by omega
 have hin:i≤n:=by omega
 have htn:((i:Int)+(m:Int)).toNat=i+m:=by omega
 have hb2:¬ (c=i+m):=by omega
 have hb3:(i:Int)≤(n:Int)+(m:Int):=by omega
 have hb4:¬ (c=i):=by omega
 clear hB hBs hgB hA hmv2 hml hgd hg hgv hul hul2 h1 h1u hsz hs hmv
 go_enter Tryz.func238,Tryz.ntmps238
 go_wp2_with (simp only [hov])
 go_region_law_o (refine fa_ rfl _ _ 26 26 rfl _ _ (by simp [Act.eval,Act.put]) (by simp [Act.eval,Act.put]) (hcp1 _ _ _) ?_)
 go_wp2_with (at_builtin;refine gT_ _ rfl _ _ 26 26 rfl _ _ rfl rfl (hcp2 _ _) ?_)
 go_ret
 exact ⟨rfl,A,rfl,kA.out.1,kA.out.2⟩
set_option maxRecDepth 1000000 in
theorem rw_ (w:World) (g n c i:Nat) (cur:Array Value) (hg:w.heap[g]?=some (.cells cur 29 (0,0))) (hs:cur.size=c*5) (hnc:n≤c) (hi:i<n)
  (gv m vc:Nat) (curv:Array Value) (Tv:TypeId) (hgv:w.heap[gv]?=some (.cells curv Tv (0,0))) (hmv:m*5≤curv.size) (us:List Value) (hul:us=curv.toList.take (m*5)) (h1u:∀ v ∈ us,v.oneCell'=true) (hm:0<m) (hroom:c<n+m)
  (hbig:(n+m)*80≤140737488355328) (h1:∀ v ∈ cur.toList.take (n*5),v.oneCell'=true) :
  Calls Tryz.prog 238 #[.slice (some ⟨g,0,none⟩) n c,.int .i64 i,.slice (some ⟨gv,0,none⟩) m vc] w fun e w'=>∃ C A,e = .returned (.slice (some ⟨w.heap.size,0,none⟩) (n+m) C)∧n+m≤C∧C≤maxLen ∧
   w'.heap[w.heap.size]?=some (.cells A 29 (0,0))∧A.size=C*5∧A.toList.take ((n+m)*5)=(cur.toList.take (n*5)).take (i*5)++us++(cur.toList.take (n*5)).drop (i*5)∧w.grownBy w' none:=by
 obtain ⟨i0,hi0⟩:=Option.isSome_iff_exists.1 (show (Tryz.prog.info? 29).isSome=true by kernel_rfl)
 have hz0:i0.size=5:=by
  have:(Tryz.prog.info? 29).map (·.size)=some 5:=by kernel_rfl
  rw [hi0] at this;simpa using this
 have hz1:i0.bytes=80:=by
  have:(Tryz.prog.info? 29).map (·.bytes)=some 80:=by kernel_rfl
  rw [hi0] at this;simpa using this
 have hz2:i0.zero=some (.agg #[.int .i64 0,.int .i64 0,.string ByteArray.empty,.slice none 0 0,.slice none 0 0]):=by
  have:(Tryz.prog.info? 29).bind (·.zero)=some (.agg #[.int .i64 0,.int .i64 0,.string ByteArray.empty,.slice none 0 0,.slice none 0 0]):=by kernel_rfl
  rw [hi0] at this;simpa using this
 obtain ⟨G,N,W1,R1,W2,A,hNN,hGn,hGm,hrz,hcp1,hW2',hcp2,kA⟩:=q6_ 26 29 3 _ i0 Tryz.underlying26 Tryz.underlying3 hi0 hz2 hz0 hz1 rfl w g n c i cur hg hs hnc hi gv m vc curv Tv hgv hmv us hul h1u hm hroom hbig h1
 have hic:i≤c:=by omega
 have hz3:¬ ((m:Int)=0):=by omega
 have hz4:¬ ((i:Int)=(n:Int)):=by omega
 have hz5:(c:Int)<(n:Int)+(m:Int):=by omega
 have mixed:Tryz.prog.follows .mixedOrders=true:=by kernel_rfl
 have hG63:G≤9223372036854775807:=by unfold maxLen at hGm;omega
 have hw1:IntKind.i64.wrap ((n:Int)+(m:Int))=(n:Int)+(m:Int):=by rw [IntKind.wrap_i64];omega
 have hw2:IntKind.i64.wrap ((n:Int)+(m:Int) - (i:Int))=(n:Int)+(m:Int) - (i:Int):=by rw [IntKind.wrap_i64];omega
 have hw3:IntKind.i64.wrap ((i:Int)+(m:Int))=(i:Int)+(m:Int):=by rw [IntKind.wrap_i64];omega
 have hb1:(0:Int)≤(i:Int)+(m:Int):=by omega
 have htn:((i:Int)+(m:Int)).toNat=i+m:=by omega
 have hGi:¬ (G=i):=by omega
 have hGim:¬ (G=i+m):=by omega
 have hb3:(i:Int)≤(n:Int)+(m:Int):=by omega
 have hb4:¬ (c=i):=by omega
 have hinm:i≤n+m:=by omega
 have himn:i+m≤n+m:=by omega
 have hin:i≤n:=by omega
 clear hul h1 h1u hg hgv hs hmv hz0 hz1 hz2 hi0 hbig
 go_enter Tryz.func238,Tryz.ntmps238
 go_wp2_with (at_builtin;refine Lib.wpList_append_run _ rfl _ _ 26 3 rfl _ _ rfl rfl _ _ (hrz _) ?_)
 go_region_law_o (simp only [hW2'];refine fa_ rfl _ _ 26 26 rfl _ _ (by simp [Act.eval,Act.put]) (by simp [Act.eval,Act.put]) (hcp2 _ _ _) ?_)
 go_wp2_with fail
 go_ret
 exact ⟨G,A,by rw [hNN.out];rfl,kA.out⟩
theorem insM238:InsM Tryz.prog 238 29 5 80:=by
 intro w S n vals U m us i hS hU hdis hi h1 h1u hb
 have hvl:=hS.1
 by_cases hm:m=0
 · subst hm
   have hus:us=[]:=by have:=hU.1;rw [Nat.zero_mul] at this;exact List.eq_nil_of_length_eq_zero this
   subst hus
   refine (ru_ w S n i vals hS U [] hU hi).mono ?_
   rintro e w' ⟨rfl,rfl⟩
   refine ⟨S,rfl,by rw [List.append_nil,List.take_append_drop];exact hS,⟨rfl,rfl,rfl,Nat.le_refl _,fun _ _ _=>rfl⟩,fun b hb=>⟨.inr hb,mQ_ hS b hb⟩⟩
 · rcases hU.2 with ⟨rfl,h0⟩|⟨gv,vc,curv,rfl,-,hgv,hmc,hcm,hcs,htake⟩
   · exact absurd h0 hm
   · by_cases hin:i=n
     · subst hin
       rw [List.take_of_length_le (by omega),List.drop_eq_nil_of_le (by omega),List.append_nil]
       exact InsEnd238 w S i vals hS gv m vc us hU.1 (fun j u h=>by have:=hU.cells (g:=gv) rfl j u h;rwa [Addr.add_lit,Nat.zero_add] at this) h1u (by omega) hb
     · rcases hS.2 with ⟨rfl,h0⟩|⟨g,c,cur,rfl,-,hg,hnc,hcm',hcs',htake'⟩
       · omega
       · have hne:gv≠g:=fun e=>by subst e;have:=hdis gv (by simp [ce_]);simp [ce_] at this
         have hmv:m*5≤curv.size:=by rw [hcs];exact Nat.mul_le_mul_right _ hmc
         by_cases hroom:n+m≤c
         · refine (pI_ w g n c i cur hg hcs' (by unfold maxLen at hcm';omega) (by omega) gv m vc curv 29 hgv hmv hne us htake.symm h1u (by omega) hroom (by rw [htake'];exact h1)).mono ?_
           rintro e w' ⟨rfl,A,rfl,hA,ht⟩
           rw [htake'] at ht
           have hgd:w.drew.heap[g]?=some (.cells cur 29 (0,0)):=hg
           have hA2:=setRow_heap w.drew g cur A _ _ hgd
           refine ⟨_,rfl,⟨by rw [←ht];simp [hA,hcs'];omega,.inr ⟨g,c,A,rfl,Nat.zero_le _,hA2,hroom,hcm',by rw [hA,hcs'],ht⟩⟩,⟨rfl,rfl,rfl,iQ_ w g A,fun b _ hn => ?_⟩,fun b hb=>⟨.inr hb,?_⟩⟩
           · rw [setRow_other _ _ _ _ (fun e=>hn (by subst e;simp [ce_]))];rfl
           · have:g=b:=by simp only [ce_] at hb;exact Classical.byContradiction fun h=>hb (if_neg h)
             subst this
             exact (Array.getElem?_eq_some_iff.1 hA2).1
         · refine (rw_ w g n c i cur hg hcs' hnc (by omega) gv m vc curv 29 hgv hmv us htake.symm h1u (by omega) (by omega) hb (by rw [htake'];exact h1)).mono ?_
           rintro e w' ⟨C,A,rfl,hC,hCm,hN,hA,ht,hgr⟩
           rw [htake'] at ht
           refine ⟨_,rfl,⟨by rw [←ht];simp [hA];omega,.inr ⟨_,C,A,rfl,Nat.zero_le _,hN,hC,hCm,hA,ht⟩⟩,⟨hgr.os,hgr.tape,hgr.output,hgr.size,fun b hb _=>hgr.block b hb (by simp)⟩,fun b hb => ?_⟩
           have:w.heap.size=b:=by simp only [ce_] at hb;exact Classical.byContradiction fun h=>hb (if_neg h)
           subst this
           exact ⟨.inl (Nat.le_refl _),(Array.getElem?_eq_some_iff.1 hN).1⟩
end Go.Proofs
namespace Go.Pi
open Go.Proofs
theorem cd_.ok (n:Nat):cd_.e.Oks E (cx n) n:=fun _ _ _ _ h=>nIns_ok (t:=.iJson) (m1:=.d) (m2:=.d) (by decide) (by decide) insM238 h
end Go.Pi
end
section
namespace Go.Proofs
open Go.Shelf Go.RowKit Go.Lib Go.Pi
set_option maxRecDepth 1000000 in
theorem Delete240 (w:World) (g n c i j:Nat) (cur:Array Value) (hg:w.heap[g]?=some (.cells cur 29 (0,0))) (hs:cur.size=c*5) (hn:n≤c) (hc:c≤9223372036854775807) (hij:i<j) (hj:j≤n)
  (h1:∀ v ∈ cur.toList.take (n*5),v.oneCell'=true) :
  Calls Tryz.prog 240 #[.slice (some ⟨g,0,none⟩) n c,.int .i64 i,.int .i64 j] w fun e w'=>e = .returned (.slice (some ⟨g,0,none⟩) (n - (j - i)) c) ∧
   ∃ A,w'=w.drew.setRow g A∧A.size=cur.size∧A.toList.take ((n - (j - i))*5)=(cur.toList.take (n*5)).take (i*5)++(cur.toList.take (n*5)).drop (j*5):=by
 have hic:i≤c:=by omega
 have hjc:j≤c:=by omega
 obtain ⟨news,hnews⟩:∃ news,news=(cur.toList.take (n*5)).drop (j*5):=⟨_,rfl⟩
 have hlen:news.length=(n - j)*5:=by rw [hnews,List.length_drop,List.length_take,Array.length_toList,hs];omega
 have hgd:w.drew.heap[g]?=some (.cells cur 29 (0,0)):=hg
 obtain ⟨A,hA,hsrc⟩:∃ A:Addr,(if c=j then some (⟨g,0,none⟩:Addr) else some ⟨g,j*5,none⟩)=some A∧Hid (∀ t u,news[t]?=some u→w.drew.cell? (A.add t)=some u):=by
  by_cases h:c=j
  · refine ⟨⟨g,0,none⟩,by simp [h],fun t u hu => ?_⟩
    have h0:news.length=0:=by rw [hlen];omega
    rw [List.length_eq_zero_iff.1 h0] at hu
    simp at hu
  · refine ⟨⟨g,j*5,none⟩,by simp [h],fun t u hu => ?_⟩
    have ht:=(List.getElem?_eq_some_iff.1 hu).1
    rw [hlen] at ht
    rw [hnews,List.getElem?_drop,List.getElem?_take_of_lt (by omega),Array.getElem?_toList] at hu
    rw [Addr.add_lit]
    simp only [World.cell?,hgd]
    exact hu
 obtain ⟨i0,hi0⟩:=Option.isSome_iff_exists.1 (show (Tryz.prog.info? 29).isSome=true by kernel_rfl)
 have hz0:i0.size=5:=by
  have:(Tryz.prog.info? 29).map (·.size)=some 5:=by kernel_rfl
  rw [hi0] at this
  simpa using this
 have hr1:∀ ty,(Builtin.append_ #[26,26] ty #[.slice (some ⟨g,0,none⟩) i c,.slice (some A) (n - j) (c - j)]).run Tryz.prog w.drew = .ok (.slice (some ⟨g,0,none⟩) (i+(n - j)) c) (w.drew.setRow g (cur.toList.take (i*5)++news++cur.toList.drop (i*5+news.length)).toArray):=fun ty=>by
  have:=run_append_room (P:=Tryz.prog) w.drew 26 ty 29 i0 Tryz.underlying26 hi0 g i c cur hgd A (n - j) (c - j) news (by rw [hlen,hz0];try rw [Nat.mul_one]) hsrc.out (fun u hu=>h1 u (by rw [hnews] at hu;exact List.mem_of_mem_drop hu)) (by omega) (by rw [hz0,hlen,hs];omega)
  rw [hz0] at this
  first|exact this|(rw [Nat.mul_one] at this;exact this)
 obtain ⟨B,hB⟩:∃ B,B=(cur.toList.take (i*5)++news++cur.toList.drop (i*5+news.length)).toArray:=⟨_,rfl⟩
 have hBs:B.size=cur.size:=by rw [hB];simp [hlen,hs];omega
 have hBt:B.toList.take ((i+(n - j))*5)=(cur.toList.take (n*5)).take (i*5)++news:=by
  rw [hB]
  simp only [List.toList_toArray]
  rw [List.take_append_of_le_length (by simp [hlen,hs];omega),List.take_of_length_le (by simp [hlen,hs];omega),List.take_take,Nat.min_eq_left (by omega)]
 have hgB:(w.drew.setRow g B).heap[g]?=some (.cells B 29 (0,0)):=setRow_heap _ _ _ _ _ _ hgd
 obtain ⟨Z,hZ⟩:∃ Z,Z=(Builtin.zeroCells (Value.agg #[.int .i64 0,.int .i64 0,.string ByteArray.empty,.slice none 0 0,.slice none 0 0]).cells (n - (i+(n - j)))).toList:=⟨_,rfl⟩
 have hZl:Z.length=(n - (i+(n - j)))*5:=by rw [hZ];simp [Builtin.zeroCells,Value.cells]
 have hcl:∀ ty,(Builtin.clear_ #[26] ty #[.slice (some ⟨g,(i+(n - j))*5,none⟩) (n - (i+(n - j))) (c - (i+(n - j)))]).run Tryz.prog (w.drew.setRow g B) = .ok (.tuple #[]) ((w.drew.setRow g B).setRow g (B.toList.take ((i+(n - j))*5)++Z++B.toList.drop ((i+(n - j))*5+Z.length)).toArray):=fun ty=>by
  rw [hZ]
  refine kI_ _ 26 29 ty _ Tryz.underlying26 Tryz.zeroValue29 g _ _ _ (by omega) B 29 hgB (by
   have e:=hZl
   rw [hZ] at e
   exact Nat.le_trans (Nat.le_of_eq (congrArg (fun q=>(i+(n - j))*5+q) e)) (by first|(rw [hBs,hs,←Nat.add_mul];exact Nat.mul_le_mul_right _ (by omega))|(rw [hBs,hs];omega))) (fun v hv => ?_)
  exact zc_one _ (by kernel_rfl) _ v hv
 rw [←hB] at hr1
 obtain ⟨Z',hZ'⟩:∃ Z',Z'=(B.toList.take ((i+(n - j))*5)++Z++B.toList.drop ((i+(n - j))*5+Z.length)).toArray:=⟨_,rfl⟩
 have kZ:Hid (Z'.size=cur.size∧Z'.toList.take ((i+(n - j))*5)=(cur.toList.take (n*5)).take (i*5)++(cur.toList.take (n*5)).drop (j*5)):=by
  refine ⟨by rw [hZ'];simp [hZl,hBs,hs];omega,?_⟩
  rw [hZ',←hnews,←hBt]
  simp only [List.toList_toArray,List.append_assoc]
  rw [List.take_append_of_le_length (by simp [hBs,hs];omega),List.take_take,Nat.min_self]
 rw [←hZ'] at hcl
 clear hsrc h1 hB hBs hBt hgB hZ hZl hZ' hnews hlen hgd hg
 have hw1:¬ ((i:Int)=(j:Int)):=by omega
 have mixed:Tryz.prog.follows .mixedOrders=true:=by kernel_rfl
 go_enter Tryz.func240,Tryz.ntmps240
 go_wp2_with fail
 go_region_law_o (refine gV_ rfl (.tmp 22) (.tmp 25) 26 26 rfl _ _ (by simp [Act.eval,Act.put]) (by simp [Act.eval,Act.put,hA]) (hr1 _) ?_)
 go_wp2_with fail
 go_ret
 exact ⟨by rw [show n - (j - i)=i+(n - j) by omega];rfl,Z',by rw [setRow_setRow],kZ.out.1,by rw [show n - (j - i)=i+(n - j) by omega];exact kZ.out.2⟩
set_option maxRecDepth 1000000 in
theorem rA_ (w:World) (S:Value) (n i:Nat) (vals:List Value) (hS:w.ownsRow 0 29 5 S n vals) (hi:i≤n) :
  Calls Tryz.prog 240 #[S,.int .i64 i,.int .i64 i] w fun e w'=>e = .returned S∧w'=w:=by
 rcases hS.2 with ⟨rfl,rfl⟩|⟨g,c,cur,rfl,-,hg,hnc,hcm,hcs,htake⟩
 · have hi0:i=0:=by omega
   subst hi0
   clear hS
   go_enter Tryz.func240,Tryz.ntmps240
   go_wp2_with fail
   all_goals (go_ret;exact ⟨rfl,rfl⟩)
 · unfold maxLen at hcm
   have hic:i≤c:=by omega
   clear hS hg hcs htake
   go_enter Tryz.func240,Tryz.ntmps240
   go_wp2_with fail
   all_goals (go_ret;exact ⟨rfl,rfl⟩)
theorem delM240:DelM Tryz.prog 240 29 5:=by
 intro w S n vals i j hS hij hj h1
 by_cases e:i=j
 · subst e
   refine (rA_ w S n i vals hS hj).mono ?_
   rintro e w' ⟨rfl,rfl⟩
   refine ⟨S,rfl,by rw [Nat.sub_self,Nat.sub_zero,List.take_append_drop];exact hS,⟨rfl,rfl,rfl,Nat.le_refl _,fun _ _ _=>rfl⟩,fun b hb=>⟨.inr hb,mQ_ hS b hb⟩⟩
 · rcases hS.2 with ⟨rfl,rfl⟩|⟨g,c,cur,rfl,-,hg,hnc,hcm,hcs,htake⟩
   · omega
   · refine (Delete240 w g n c i j cur hg hcs hnc (by unfold maxLen at hcm;omega) (by omega) hj (by rw [htake];exact h1)).mono ?_
     rintro e w' ⟨rfl,A,rfl,hA,ht⟩
     rw [htake] at ht
     have hgd:w.drew.heap[g]?=some (.cells cur 29 (0,0)):=hg
     have hA2:=setRow_heap w.drew g cur A _ _ hgd
     refine ⟨_,rfl,⟨by rw [←ht];simp [hA,hcs];omega,.inr ⟨g,c,A,rfl,Nat.zero_le _,hA2,by omega,hcm,by rw [hA,hcs],ht⟩⟩,⟨rfl,rfl,rfl,iQ_ w g A,fun b _ hn => ?_⟩,fun b hb=>⟨.inr hb,?_⟩⟩
     · rw [setRow_other _ _ _ _ (fun e=>hn (by subst e;simp [ce_]))];rfl
     · have:g=b:=by simp only [ce_] at hb;exact Classical.byContradiction fun h=>hb (if_neg h)
       subst this
       exact (Array.getElem?_eq_some_iff.1 hA2).1
end Go.Proofs
namespace Go.Pi
open Go.Proofs
theorem cx_.ok (n:Nat):cx_.e.Oks E (cx n) n:=fun _ _ _ _ h=>nDel_ok (t:=.iJson) (m:=.d) (by decide) delM240 h
end Go.Pi
end
section
namespace Go.Proofs
open Go.Shelf Go.RowKit Go.Lib Go.Pi
set_option maxRecDepth 1000000 in
theorem Delete241 (w:World) (g n c i j:Nat) (cur:Array Value) (hg:w.heap[g]?=some (.cells cur 9 (0,0))) (hs:cur.size=c) (hn:n≤c) (hc:c≤9223372036854775807) (hij:i<j) (hj:j≤n)
  (h1:∀ v ∈ cur.toList.take (n),v.oneCell'=true) :
  Calls Tryz.prog 241 #[.slice (some ⟨g,0,none⟩) n c,.int .i64 i,.int .i64 j] w fun e w'=>e = .returned (.slice (some ⟨g,0,none⟩) (n - (j - i)) c) ∧
   ∃ A,w'=w.drew.setRow g A∧A.size=cur.size∧A.toList.take ((n - (j - i)))=(cur.toList.take (n)).take (i)++(cur.toList.take (n)).drop (j):=by
 have hic:i≤c:=by omega
 have hjc:j≤c:=by omega
 obtain ⟨news,hnews⟩:∃ news,news=(cur.toList.take (n)).drop (j):=⟨_,rfl⟩
 have hlen:news.length=(n - j):=by rw [hnews,List.length_drop,List.length_take,Array.length_toList,hs];omega
 have hgd:w.drew.heap[g]?=some (.cells cur 9 (0,0)):=hg
 obtain ⟨A,hA,hsrc⟩:∃ A:Addr,(if c=j then some (⟨g,0,none⟩:Addr) else some ⟨g,j,none⟩)=some A∧Hid (∀ t u,news[t]?=some u→w.drew.cell? (A.add t)=some u):=by
  by_cases h:c=j
  · refine ⟨⟨g,0,none⟩,by simp [h],fun t u hu => ?_⟩
    have h0:news.length=0:=by rw [hlen];omega
    rw [List.length_eq_zero_iff.1 h0] at hu
    simp at hu
  · refine ⟨⟨g,j,none⟩,by simp [h],fun t u hu => ?_⟩
    have ht:=(List.getElem?_eq_some_iff.1 hu).1
    rw [hlen] at ht
    rw [hnews,List.getElem?_drop,List.getElem?_take_of_lt (by omega),Array.getElem?_toList] at hu
    rw [Addr.add_lit]
    simp only [World.cell?,hgd]
    exact hu
 obtain ⟨i0,hi0⟩:=Option.isSome_iff_exists.1 (show (Tryz.prog.info? 9).isSome=true by kernel_rfl)
 have hz0:i0.size=1:=by
  have:(Tryz.prog.info? 9).map (·.size)=some 1:=by kernel_rfl
  rw [hi0] at this
  simpa using this
 have hr1:∀ ty,(Builtin.append_ #[27,27] ty #[.slice (some ⟨g,0,none⟩) i c,.slice (some A) (n - j) (c - j)]).run Tryz.prog w.drew = .ok (.slice (some ⟨g,0,none⟩) (i+(n - j)) c) (w.drew.setRow g (cur.toList.take (i)++news++cur.toList.drop (i+news.length)).toArray):=fun ty=>by
  have:=run_append_room (P:=Tryz.prog) w.drew 27 ty 9 i0 Tryz.underlying27 hi0 g i c cur hgd A (n - j) (c - j) news (by rw [hlen,hz0];try rw [Nat.mul_one]) hsrc.out (fun u hu=>h1 u (by rw [hnews] at hu;exact List.mem_of_mem_drop hu)) (by omega) (by rw [hz0,hlen,hs];omega)
  rw [hz0] at this
  first|exact this|(rw [Nat.mul_one] at this;exact this)
 obtain ⟨B,hB⟩:∃ B,B=(cur.toList.take (i)++news++cur.toList.drop (i+news.length)).toArray:=⟨_,rfl⟩
 have hBs:B.size=cur.size:=by rw [hB];simp [hlen,hs];omega
 have hBt:B.toList.take ((i+(n - j)))=(cur.toList.take (n)).take (i)++news:=by
  rw [hB]
  simp only [List.toList_toArray]
  rw [List.take_append_of_le_length (by simp [hlen,hs];omega),List.take_of_length_le (by simp [hlen,hs];omega),List.take_take,Nat.min_eq_left (by omega)]
 have hgB:(w.drew.setRow g B).heap[g]?=some (.cells B 9 (0,0)):=setRow_heap _ _ _ _ _ _ hgd
 obtain ⟨Z,hZ⟩:∃ Z,Z=(Builtin.zeroCells (Value.string ByteArray.empty).cells (n - (i+(n - j)))).toList:=⟨_,rfl⟩
 have hZl:Z.length=(n - (i+(n - j))):=by rw [hZ];simp [Builtin.zeroCells,Value.cells]
 have hcl:∀ ty,(Builtin.clear_ #[27] ty #[.slice (some ⟨g,(i+(n - j)),none⟩) (n - (i+(n - j))) (c - (i+(n - j)))]).run Tryz.prog (w.drew.setRow g B) = .ok (.tuple #[]) ((w.drew.setRow g B).setRow g (B.toList.take ((i+(n - j)))++Z++B.toList.drop ((i+(n - j))+Z.length)).toArray):=fun ty=>by
  rw [hZ]
  refine kI_ _ 27 9 ty _ Tryz.underlying27 Tryz.zeroValue9 g _ _ _ (by omega) B 9 hgB (by
   have e:=hZl
   rw [hZ] at e
   exact Nat.le_trans (Nat.le_of_eq (congrArg (fun q=>(i+(n - j))+q) e)) (by first|(rw [hBs,hs,←Nat.add_mul];exact Nat.mul_le_mul_right _ (by omega))|(rw [hBs,hs];omega))) (fun v hv => ?_)
  exact zc_one _ (by kernel_rfl) _ v hv
 rw [←hB] at hr1
 obtain ⟨Z',hZ'⟩:∃ Z',Z'=(B.toList.take ((i+(n - j)))++Z++B.toList.drop ((i+(n - j))+Z.length)).toArray:=⟨_,rfl⟩
 have kZ:Hid (Z'.size=cur.size∧Z'.toList.take ((i+(n - j)))=(cur.toList.take (n)).take (i)++(cur.toList.take (n)).drop (j)):=by
  refine ⟨by rw [hZ'];simp [hZl,hBs,hs];omega,?_⟩
  rw [hZ',←hnews,←hBt]
  simp only [List.toList_toArray,List.append_assoc]
  rw [List.take_append_of_le_length (by simp [hBs,hs];omega),List.take_take,Nat.min_self]
 rw [←hZ'] at hcl
 clear hsrc h1 hB hBs hBt hgB hZ hZl hZ' hnews hlen hgd hg
 have hw1:¬ ((i:Int)=(j:Int)):=by omega
 have mixed:Tryz.prog.follows .mixedOrders=true:=by kernel_rfl
 go_enter Tryz.func241,Tryz.ntmps241
 go_wp2_with fail
 go_region_law_o (refine gV_ rfl (.tmp 22) (.tmp 25) 27 27 rfl _ _ (by simp [Act.eval,Act.put]) (by simp [Act.eval,Act.put,hA]) (hr1 _) ?_)
 go_wp2_with fail
 go_ret
 exact ⟨by rw [show n - (j - i)=i+(n - j) by omega];rfl,Z',by rw [setRow_setRow],kZ.out.1,by rw [show n - (j - i)=i+(n - j) by omega];exact kZ.out.2⟩
set_option maxRecDepth 1000000 in
theorem rz_ (w:World) (S:Value) (n i:Nat) (vals:List Value) (hS:w.ownsRow 0 9 1 S n vals) (hi:i≤n) :
  Calls Tryz.prog 241 #[S,.int .i64 i,.int .i64 i] w fun e w'=>e = .returned S∧w'=w:=by
 rcases (dO_.1 hS).2 with ⟨rfl,rfl⟩|⟨g,c,cur,rfl,-,hg,hnc,hcm,hcs,htake⟩
 · have hi0:i=0:=by omega
   subst hi0
   clear hS
   go_enter Tryz.func241,Tryz.ntmps241
   go_wp2_with fail
   all_goals (go_ret;exact ⟨rfl,rfl⟩)
 · unfold maxLen at hcm
   have hic:i≤c:=by omega
   clear hS hg hcs htake
   go_enter Tryz.func241,Tryz.ntmps241
   go_wp2_with fail
   all_goals (go_ret;exact ⟨rfl,rfl⟩)
theorem delM241:DelM Tryz.prog 241 9 1:=by
 intro w S n vals i j hS hij hj h1
 simp only [Nat.mul_one]
 by_cases e:i=j
 · subst e
   refine (rz_ w S n i vals hS hj).mono ?_
   rintro e w' ⟨rfl,rfl⟩
   refine ⟨S,rfl,by rw [Nat.sub_self,Nat.sub_zero,List.take_append_drop];exact hS,⟨rfl,rfl,rfl,Nat.le_refl _,fun _ _ _=>rfl⟩,fun b hb=>⟨.inr hb,mQ_ hS b hb⟩⟩
 · rcases (dO_.1 hS).2 with ⟨rfl,rfl⟩|⟨g,c,cur,rfl,-,hg,hnc,hcm,hcs,htake⟩
   · omega
   · refine (Delete241 w g n c i j cur hg hcs hnc (by unfold maxLen at hcm;omega) (by omega) hj (by rw [htake];exact h1)).mono ?_
     rintro e w' ⟨rfl,A,rfl,hA,ht⟩
     rw [htake] at ht
     have hgd:w.drew.heap[g]?=some (.cells cur 9 (0,0)):=hg
     have hA2:=setRow_heap w.drew g cur A _ _ hgd
     refine ⟨_,rfl,dO_.2 ⟨by rw [←ht];simp [hA,hcs];omega,.inr ⟨g,c,A,rfl,Nat.zero_le _,hA2,by omega,hcm,by rw [hA,hcs],ht⟩⟩,⟨rfl,rfl,rfl,iQ_ w g A,fun b _ hn => ?_⟩,fun b hb=>⟨.inr hb,?_⟩⟩
     · rw [setRow_other _ _ _ _ (fun e=>hn (by subst e;simp [ce_]))];rfl
     · have:g=b:=by simp only [ce_] at hb;exact Classical.byContradiction fun h=>hb (if_neg h)
       subst this
       exact (Array.getElem?_eq_some_iff.1 hA2).1
end Go.Proofs
namespace Go.Pi
open Go.Proofs
theorem co_.ok (n:Nat):co_.e.Oks E (cx n) n:=fun _ _ _ _ h=>nDel_ok (t:=.str) (m:=.d) (by decide) delM241 h
end Go.Pi
end
section
namespace Go.Pi
open Go.Proofs
theorem zer:zl ents=zr ents:=by kernel_rfl
theorem fcts:factL E.P ents ents=factR ents:=by kernel_rfl
theorem cxok (n nt:Nat) (a:AllE E n ents):CxOk E (cx n nt):=⟨ttOk,tcOk,u8Ok,KE_ok fcts a⟩
theorem allOk:∀ n,AllE E n ents
 |0=>all0 zer
 |n+1=>allS_ok (fun nt=>cxok n nt (allOk n)) (fun _=>KE_par) (show AllS E (cx n) n ents from ⟨laws_FnClient.ok n,fz_.ok n,cw_.ok n,a3_.ok n,a0_.ok n,bU_.ok n,cI_.ok n,cG_.ok n,dR_.ok n,ao_.ok n,bS_.ok n,dr_.ok n,ag_.ok n,ab_.ok n,cZ_.ok n,aA_.ok n,a9_.ok n,dJ_.ok n,dM_.ok n,aB_.ok n,be_.ok n,dW_.ok n,bl_.ok n,aQ_.ok n,cY_.ok n,bD_.ok n,cT_.ok n,aJ_.ok n,dz_.ok n,dc_.ok n,cE_.ok n,cU_.ok n,eu_.ok n,cp_.ok n,b1_.ok n,aL_.ok n,dt_.ok n,aj_.ok n,cJ_.ok n,a7_.ok n,aw_.ok n,cM_.ok n,bj_.ok n,bo_.ok n,dk_.ok n,c4_.ok n,cV_.ok n,ck_.ok n,br_.ok n,cH_.ok n,cN_.ok n,eC_.ok n,bN_.ok n,an_.ok n,ch_.ok n,ev_.ok n,strconv_Itoa.ok n,a1_.ok n,d9_.ok n,aM_.ok n,dU_.ok n,dG_.ok n,aq_.ok n,dI_.ok n,dm_.ok n,dl_.ok n,aK_.ok n,aU_.ok n,bL_.ok n,ds_.ok n,dL_.ok n,c2_.ok n,dK_.ok n,cS_.ok n,cB_.ok n,bp_.ok n,bm_.ok n,ec_.ok n,c7_.ok n,aR_.ok n,ba_.ok n,cr_.ok n,bt_.ok n,b9_.ok n,cC_.ok n,aO_.ok n,b6_.ok n,c1_.ok n,bH_.ok n,strings_Join.ok n,dP_.ok n,bI_.ok n,dV_.ok n,bi_.ok n,aC_.ok n,aV_.ok n,c6_.ok n,bs_.ok n,aZ_.ok n,az_.ok n,dT_.ok n,bv_.ok n,aN_.ok n,bX_.ok n,a2_.ok n,aY_.ok n,da_.ok n,ew_.ok n,bg_.ok n,bT_.ok n,eF_.ok n,bG_.ok n,bM_.ok n,ex_.ok n,eS_.ok n,cX_.ok n,ek_.ok n,eB_.ok n,ay_.ok n,eA_.ok n,dQ_.ok n,dv_.ok n,db_.ok n,bP_.ok n,ae_.ok n,dH_.ok n,c3_.ok n,strings_ReplaceAll.ok n,aG_.ok n,a6_.ok n,bW_.ok n,cc_.ok n,bA_.ok n,bE_.ok n,c9_.ok n,bz_.ok n,cW_.ok n,cL_.ok n,bQ_.ok n,bu_.ok n,bK_.ok n,d8_.ok n,aI_.ok n,aF_.ok n,bZ_.ok n,bC_.ok n,bk_.ok n,bb_.ok n,as_.ok n,dy_.ok n,al_.ok n,cn_.ok n,cd_.ok n,dw_.ok n,cx_.ok n,co_.ok n,et_.ok n,dq_.ok n,ed_.ok n,cb_.ok n,cQ_.ok n,c8_.ok n,aH_.ok n,ai_.ok n,cK_.ok n,b2_.ok n,ct_.ok n,trivial⟩)
end Go.Pi
end
section
namespace Go.Pi
inductive Kd where
 |i (k:IntKind)
 |b
 |s
 |sl (t:TC)
def kdsL (P:Program) (rec_:TypeId→Option (List Kd)):List Field→Nat→Option (List Kd)
 |[],_=>some []
 |f::fs,off=>cond (Nat.beq f.offset off) (match rec_ f.type with
  |some ks=>cond (Nat.beq (P.cellsOf f.type) ks.length) (match kdsL P rec_ fs (off+ks.length) with
   |some r=>some (ks++r)
   |none=>none) none
  |none=>none) none
def kds (P:Program) (eJ_:TypeId→Option TC):Nat→TypeId→Option (List Kd)
 |0,_=>none
 |d+1,T=>match P.underlying T with
  |some (.int k)=>some [.i k]
  |some .bool=>some [.b]
  |some .string=>some [.s]
  |some (.slice e)=>match eJ_ e with
   |some t=>some [.sl t]
   |none=>none
  |some (.struct fs)=>match kdsL P (kds P eJ_ d) fs.toList 0 with
   |some ks=>cond (Nat.beq (P.cellsOf T) ks.length) (some ks) none
   |none=>none
  |_=>none
inductive Good [ah_]:AV→Prop
 |i (k n):(Lit.int k n).wf=true→Good (.i k n)
 |b (q):Good (.b q)
 |s (l):l.length≤maxLen→Good (.s l)
 |sl (t xs):xs.length≤maxLen→(∀ x ∈ xs,∀ c ∈ ah_.enc .v t x,Good c)→Good (.sl .v t xs)
def KindOk:Kd→AV→Prop
 |.i k,a=>∃ n,a = .i k n
 |.b,a=>∃ q,a = .b q
 |.s,a=>∃ l,a = .s l
 |.sl t,a=>∃ xs,a = .sl .v t xs
def jU_:List Kd→List AV→Prop
 |[],[]=>True
 |k::ks,a::l=>KindOk k a∧jU_ ks l
 |_,_=>False
section
variable {H:Type} {enc:TypeId × Value→H} {P:Program} {w:World} {spare:Nat→Bool}
def oT_ (enc:TypeId × Value→H) (P:Program) (w:World) (spare:Nat→Bool) (eid:TC→TypeId) (F:Nat):Kd→Value→Prop
 |.i k,v=>∃ n,v = .int k n∧(Lit.int k n).wf=true
 |.b,v=>∃ q,v = .bool q
 |.s,v=>∃ s:ByteArray,v = .string s∧s.size≤maxLen
 |.sl t,v=>v = .slice none 0 0∨∃ (a:Addr) (len cap N:Nat),v = .slice (some a) len cap∧len≤cap∧cap≤maxLen∧N<F ∧
   ∀ i,i<len→∃ cs x,w.cells? 0 (a.add (i*P.cellsOf (eid t))) (P.cellsOf (eid t))=some cs∧DataW.trod enc P w 0 spare true N (eid t) cs=some x
def eY_ (enc:TypeId × Value→H) (P:Program) (w:World) (spare:Nat→Bool) (eid:TC→TypeId) (F:Nat):List Kd→List Value→Prop
 |[],[]=>True
 |k::ks,v::vs=>oT_ enc P w spare eid F k v∧eY_ enc P w spare eid F ks vs
 |_,_=>False
theorem oT_.mono {eid:TC→TypeId} {F F':Nat} (hF:F≤F') {k:Kd} {v:Value} (h:oT_ enc P w spare eid F k v):oT_ enc P w spare eid F' k v:=by
 cases k with
 |sl t=>
  rcases h with h|⟨a,len,cap,N,h1,h2,h3,h4,h5⟩
  · exact .inl h
  · exact .inr ⟨a,len,cap,N,h1,h2,h3,Nat.lt_of_lt_of_le h4 hF,h5⟩
 |_=>exact h
theorem eY_.mono {eid:TC→TypeId} {F F':Nat} (hF:F≤F'):∀ {ks:List Kd} {vs:List Value},eY_ enc P w spare eid F ks vs→eY_ enc P w spare eid F' ks vs
 |[],[],_=>trivial
 |k::ks,v::vs,h=>⟨h.1.mono hF,eY_.mono hF h.2⟩
 |[],_::_,h=>h.elim
 |_::_,[],h=>h.elim
theorem eY_.append {eid:TC→TypeId} {F:Nat}:∀ {ks:List Kd} {vs:List Value} {ks':List Kd} {vs':List Value},eY_ enc P w spare eid F ks vs→eY_ enc P w spare eid F ks' vs'→eY_ enc P w spare eid F (ks++ks') (vs++vs')
 |[],[],_,_,_,h=>h
 |k::ks,v::vs,_,_,h,h'=>⟨h.1,eY_.append h.2 h'⟩
 |[],_::_,_,_,h,_=>h.elim
 |_::_,[],_,_,h,_=>h.elim
theorem mk_ {eJ_:TypeId→Option TC} {eid:TC→TypeId} {n:Nat} {rec_:TypeId→Option (List Kd)} {cs:List Value} (hrec:∀ T ks cs x,rec_ T=some ks→DataW.trod enc P w 0 spare true n T cs=some x→eY_ enc P w spare eid n ks cs) :
  ∀ (fs:List Field) (off:Nat) (ks:List Kd),kdsL P rec_ fs off=some ks→(∀ f ∈ fs,∃ x,DataW.trod enc P w 0 spare true n f.type ((cs.drop f.offset).take (P.cellsOf f.type))=some x)→off+ks.length=cs.length→eY_ enc P w spare eid n ks (cs.drop off)
 |[],off,ks,h,_,hl=>by
  simp only [kdsL,Option.some.injEq] at h
  subst h
  rw [List.drop_eq_nil_of_le (by simp at hl;omega)]
  trivial
 |f::fs,off,ks,h,hx,hl=>by
  simp only [kdsL] at h
  obtain ⟨h1,h2⟩:=b0_ h
  have h1:=cF_.1 h1
  cases hr:rec_ f.type with
  |none=>rw [hr] at h2;cases h2
  |some k1=>
   rw [hr] at h2
   obtain ⟨h3,h4⟩:=b0_ h2
   have h3:=cF_.1 h3
   cases hk:kdsL P rec_ fs (off+k1.length) with
   |none=>rw [hk] at h4;cases h4
   |some r=>
    rw [hk] at h4
    simp only [Option.some.injEq] at h4
    subst h4
    obtain ⟨x,hx1⟩:=hx f (List.mem_cons_self ..)
    have h5:=hrec _ _ _ _ hr hx1
    have h6:=mk_ (eJ_:=eJ_) hrec fs (off+k1.length) r hk (fun g hg=>hx g (List.mem_cons_of_mem _ hg)) (by simp at hl;omega)
    rw [h1,h3] at h5
    have:cs.drop off=(cs.drop off).take k1.length++cs.drop (off+k1.length):=by rw [←List.drop_drop,List.take_append_drop]
    rw [this]
    exact h5.append h6
theorem my_ {eJ_:TypeId→Option TC} {eid:TC→TypeId} (hcode:∀ e t,eJ_ e=some t→eid t=e):∀ (d F:Nat) (T:TypeId) (ks:List Kd) (cs:List Value) (x:DataW H × List MemPlace),kds P eJ_ d T=some ks→DataW.trod enc P w 0 spare true F T cs=some x→eY_ enc P w spare eid F ks cs
 |0,F,T,ks,cs,x,hk,h=>by cases hk
 |d+1,F,T,ks,cs,x,hk,h=>by
  simp only [kds] at hk
  cases hu:P.underlying T with
  |none=>rw [hu] at hk;cases hk
  |some u=>
   rw [hu] at hk
   cases u<;>simp only at hk<;>(try (cases hk;done))
   case bool=>
    cases hk
    obtain ⟨q,rfl,_⟩:=DataW.trod_bool hu h
    exact ⟨⟨q,rfl⟩,trivial⟩
   case int k=>
    cases hk
    obtain ⟨n,rfl,_,hw⟩:=DataW.trod_int hu h
    exact ⟨⟨n,rfl,hw⟩,trivial⟩
   case string=>
    cases hk
    obtain ⟨s,rfl,_,hs⟩:=DataW.trod_string hu h
    exact ⟨⟨s,rfl,hs⟩,trivial⟩
   case slice e=>
    cases hc:eJ_ e with
    |none=>rw [hc] at hk;cases hk
    |some t=>
     rw [hc] at hk
     cases hk
     have he:=hcode e t hc
     rcases DataW.trod_slice hu h with ⟨rfl,_⟩|⟨a,len,cap,elems,hX_,n,hF,rfl,_,_,hl,hm,hlen,hel,_,_⟩
     · exact ⟨.inl rfl,trivial⟩
     · refine ⟨.inr ⟨a,len,cap,n,rfl,hl,hm,by omega,fun i hi => ?_⟩,trivial⟩
       have h1:=hel i hi
       rw [List.getElem?_eq_getElem (by omega)] at h1
       rw [Option.bind_eq_some_iff] at h1
       obtain ⟨cs,k1,k2⟩:=h1
       exact ⟨cs,_,by rw [he];exact k1,by rw [he];exact k2⟩
   case struct fs=>
    obtain ⟨xs,n,hF,_,hcl,hxl,hx⟩:=DataW.trod_struct hu h
    cases hks:kdsL P (kds P eJ_ d) fs.toList 0 with
    |none=>rw [hks] at hk;cases hk
    |some ks'=>
     rw [hks] at hk
     obtain ⟨h1,h2⟩:=b0_ hk
     have h1:=cF_.1 h1
     cases h2
     subst hF
     have:=mk_ (eJ_:=eJ_) (eid:=eid) (n:=n) (cs:=cs) (fun T ks cs x k1 k2=>my_ hcode d n T ks cs x k1 k2) fs.toList 0 ks hks (fun f hf=>by
      obtain ⟨i,hi⟩:=List.getElem?_of_mem hf
      have hi':fs[i]?=some f:=by simpa using hi
      have h3:=hx i f hi'
      have hlt:i<xs.length:=by rw [hxl];exact (Array.getElem?_eq_some_iff.1 hi').1
      rw [List.getElem?_eq_getElem hlt] at h3
      exact ⟨_,h3⟩) (by omega)
     exact (this.mono (Nat.le_succ n))
end
end Go.Pi
end
section
namespace Go.Pi
variable [ah_]
open ah_
variable {H:Type} {enc':TypeId × Value→H} {E:Env} {w:World} {spare:Nat→Bool}
abbrev NoF:Nat→Prop:=fun _=>False
omit [ah_] in
theorem kD_:∀ {ks:List Kd} {l c:List AV},jU_ ks l→sims .v l c→c=l
 |[],[],[],_,_=>rfl
 |k::ks,a::l,b::c,h,hs=>by
  have e:=kD_ h.2 hs.2
  subst e
  have h1:=h.1
  have h2:=hs.1
  cases k<;>obtain ⟨x,rfl⟩:=h1<;>simp only [AV.sim] at h2<;>rw [h2]
 |[],[],_::_,_,h=>h.elim
 |[],_::_,_,h,_=>h.elim
 |_::_,[],_,h,_=>h.elim
 |_::_,_::_,[],_,h=>h.elim
structure lm_ (E:Env) (eJ_:TypeId→Option TC) (kinds:TC→List Kd) (d:Nat):Prop where
 codeOk:∀ e t,eJ_ e=some t→E.eid t=e
 kdsOk:∀ t,kds E.P eJ_ d (E.eid t)=some (kinds t)
 dec:∀ t l,jU_ (kinds t) l→∃ y,dec t l=some y
 cells:∀ t,E.P.cellsOf (E.eid t)=t.width
theorem nR_ [ak_] {t:TC} {N:Nat} (hel:∀ cs x,DataW.trod enc' E.P w 0 spare true N (E.eid t) cs=some x→∃ y:El t,RL E w NoF (enc .v t y) cs (fun _=>0)∧∀ c ∈ enc .v t y,Good c) {b o:Nat} (hW:E.P.cellsOf (E.eid t)=t.width) :
  ∀ len,(∀ i,i<len→∃ cs x,w.cells? 0 ((⟨b,o,none⟩:Addr).add (i*E.P.cellsOf (E.eid t))) (E.P.cellsOf (E.eid t))=some cs∧DataW.trod enc' E.P w 0 spare true N (E.eid t) cs=some x) →
  ∃ (xs:List (El t)) (vals:List Value),xs.length=len∧vals.length=len*t.width∧RL E w NoF (aS_ .v t xs) vals (fun _=>0)∧w.rangeAt b o vals∧∀ x ∈ xs,∀ c ∈ enc .v t x,Good c
 |0,_=>⟨[],[],rfl,by simp,RL.nil (fun _=>0) fun _=>rfl,fun j v h=>by simp at h,fun x hx=>by cases hx⟩
 |len+1,h=>by
  obtain ⟨xs,vals,h1,h2,h3,h4,h5⟩:=nR_ hel hW len fun i hi=>h i (by omega)
  obtain ⟨cs,x,k1,k2⟩:=h len (Nat.lt_succ_self _)
  obtain ⟨y,j1,j2⟩:=hel cs x k2
  obtain ⟨_,hl,hc⟩:=World.cells?_some k1
  rw [hW] at hl hc
  refine ⟨xs++[y],vals++cs,by simp [h1],by rw [List.length_append,h2,hl];exact (Nat.succ_mul _ _).symm,?_,fun j v hj => ?_,fun x hx => ?_⟩
  · rw [ci_]
    refine RL.append h3 (φ':=fun _=>0) ?_ (fun b=>rfl)
    simpa [aS_] using j1
  · by_cases hlt:j<vals.length
    · rw [List.getElem?_append_left hlt] at hj
      exact h4 j v hj
    · rw [List.getElem?_append_right (by omega)] at hj
      have hjl:j - vals.length<t.width:=by rw [←hl];exact (List.getElem?_eq_some_iff.1 hj).1
      have:=hc (j - vals.length) hjl
      rw [Addr.add_mid,Addr.add_mid,hj] at this
      rw [←this]
      congr 2
      omega
  · rcases List.mem_append.1 hx with hx|hx
    · exact h5 x hx
    · rw [List.mem_singleton] at hx;subst hx;exact j2
theorem cell_open [ak_] {eJ_:TypeId→Option TC} {kinds:TC→List Kd} {d:Nat} (hk:lm_ E eJ_ kinds d) {F:Nat} (ih:∀ N,N<F→∀ t cs x,DataW.trod enc' E.P w 0 spare true N (E.eid t) cs=some x→∃ y:El t,RL E w NoF (enc .v t y) cs (fun _=>0)∧∀ c ∈ enc .v t y,Good c) {k:Kd} {v:Value} (h:oT_ enc' E.P w spare E.eid F k v) :
  ∃ a,KindOk k a∧RL E w NoF [a] [v] (fun _=>0)∧Good a:=by
 cases k with
 |i k=>obtain ⟨n,rfl,hw⟩:=h;exact ⟨.i k n,⟨n,rfl⟩,.scal _ _ _ _ _ rfl (.nil _ fun _=>rfl),.i _ _ hw⟩
 |b=>obtain ⟨q,rfl⟩:=h;exact ⟨.b q,⟨q,rfl⟩,.scal _ _ _ _ _ rfl (.nil _ fun _=>rfl),.b _⟩
 |s=>
  obtain ⟨s,rfl,hs⟩:=h
  refine ⟨.s s.data.toList,⟨_,rfl⟩,.scal _ _ _ _ _ ?_ (.nil _ fun _=>rfl),.s _ ?_⟩
  · show Value.string s = .string ⟨s.data.toList.toArray⟩
    simp
  · rw [Array.length_toList];exact hs
 |sl t=>
  rcases h with rfl|⟨a,len,cap,N,rfl,hl,hm,hN,hel⟩
  · exact ⟨.sl .v t [],⟨_,rfl⟩,.view t [] none 0 0 [] (fun _=>0) _ _ _ ⟨rfl,Nat.le_refl _⟩ (.nil _ fun _=>rfl) (fun _=>rfl) (fun hp=>by omega) (.nil _ fun _=>rfl),.sl _ _ (Nat.zero_le _) (fun x hx=>by cases hx)⟩
  · cases len with
    |zero=>exact ⟨.sl .v t [],⟨_,rfl⟩,.view t [] (some a) 0 cap [] (fun _=>0) _ _ _ ⟨rfl,hl⟩ (.nil _ fun _=>rfl) (fun _=>rfl) (fun hp=>by omega) (.nil _ fun _=>rfl),.sl _ _ (Nat.zero_le _) (fun x hx=>by cases hx)⟩
    |succ len=>
     have hW:=hk.cells t
     have hpos:0<t.width:=ak_.pos t
     obtain ⟨cs0,x0,k1,_⟩:=hel 0 (Nat.succ_pos _)
     obtain ⟨_,hl0,hc0⟩:=World.cells?_some k1
     have hcell:=hc0 0 (by rw [hW];exact hpos)
     rw [List.getElem?_eq_getElem (by rw [hl0,hW];exact hpos)] at hcell
     have ha:a.spot=none:=by
      have h0:(a.add (0*E.P.cellsOf (E.eid t))).add 0=a:=by simp [Addr.add]
      rw [h0] at hcell
      unfold World.cell? at hcell
      split at hcell
      · cases hs:a.spot with
        |none=>rfl
        |some q=>simp [hs] at hcell
      · cases hcell
     obtain ⟨b,o,sp⟩:=a
     simp only at ha
     subst ha
     have hb:b<w.heap.size:=World.cells?_block k1 (by rw [hW];exact hpos) |> fun h=>by simpa [Addr.add] using h
     obtain ⟨xs,vals,e1,e2,e3,e4,e5⟩:=nR_ (ih N hN t) hW (len+1) hel
     refine ⟨.sl .v t xs,⟨_,rfl⟩,?_,.sl _ _ (by omega) e5⟩
     exact .view t xs (some ⟨b,o,none⟩) (len+1) cap vals (fun _=>0) _ _ _ ⟨e1.symm,hl⟩ e3 (fun _=>rfl) (fun _=>⟨b,o,rfl,e4,hb,fun h=>h⟩) (.nil _ fun _=>rfl)
theorem jx_ [ak_] {eJ_:TypeId→Option TC} {kinds:TC→List Kd} {d:Nat} (hk:lm_ E eJ_ kinds d) {F:Nat} (ih:∀ N,N<F→∀ t cs x,DataW.trod enc' E.P w 0 spare true N (E.eid t) cs=some x→∃ y:El t,RL E w NoF (enc .v t y) cs (fun _=>0)∧∀ c ∈ enc .v t y,Good c) :
  ∀ {ks:List Kd} {vs:List Value},eY_ enc' E.P w spare E.eid F ks vs→∃ l,jU_ ks l∧RL E w NoF l vs (fun _=>0)∧∀ c ∈ l,Good c
 |[],[],_=>⟨[],trivial,.nil _ fun _=>rfl,fun c hc=>by cases hc⟩
 |k::ks,v::vs,h=>by
  obtain ⟨a,h1,h2,h3⟩:=cell_open hk ih h.1
  obtain ⟨l,k1,k2,k3⟩:=jx_ hk ih h.2
  refine ⟨a::l,⟨h1,k1⟩,RL.cons h2 k2 (fun b=>rfl),fun c hc => ?_⟩
  rcases List.mem_cons.1 hc with rfl|hc
  · exact h3
  · exact k3 c hc
 |[],_::_,h=>h.elim
 |_::_,[],h=>h.elim
theorem el_open [ak_] {eJ_:TypeId→Option TC} {kinds:TC→List Kd} {d:Nat} (hk:lm_ E eJ_ kinds d):∀ (F:Nat) (t:TC) (cs:List Value) (x:DataW H × List MemPlace),DataW.trod enc' E.P w 0 spare true F (E.eid t) cs=some x →
  ∃ y:El t,RL E w NoF (enc .v t y) cs (fun _=>0)∧∀ c ∈ enc .v t y,Good c:=by
 intro F
 induction F using Nat.strongRecOn with
 |_ F ih=>
  intro t cs x h
  have h1:=my_ hk.codeOk d F _ _ _ _ (hk.kdsOk t) h
  obtain ⟨l,h2,h3,h4⟩:=jx_ hk ih h1
  obtain ⟨y,hy⟩:=hk.dec t l h2
  have h5:=ak_.dec .v t l y hy
  have h6:=kD_ h2 h5
  exact ⟨y,by rw [h6];exact h3,by rw [h6];exact h4⟩
theorem arg_open [ak_] {eJ_:TypeId→Option TC} {kinds:TC→List Kd} {d:Nat} (hk:lm_ E eJ_ kinds d) {T:TypeId} {ks:List Kd} (hT:kds E.P eJ_ d T=some ks) {v:Value} {dd:DataW H} {ps:List MemPlace} (h:DataW.Trod enc' E.P w 0 spare true T v dd ps) :
  ∃ l,jU_ ks l∧RL E w NoF l v.cells.toList (fun _=>0)∧∀ c ∈ l,Good c:=by
 obtain ⟨F,hF⟩:=h
 exact jx_ hk (fun N _=>el_open hk N) (my_ hk.codeOk d F T ks _ _ hT hF)
end Go.Pi
end
section
namespace Go.Pi
open Go.RowKit
variable [ah_]
open ah_
omit [ah_] in
theorem c5_ {k:Kd} {ks:List Kd} {l:List AV} (h:jU_ (k::ks) l):∃ a l',l=a::l'∧KindOk k a∧jU_ ks l':=by
 cases l with
 |nil=>exact h.elim
 |cons a l=>exact ⟨a,l,rfl,h.1,h.2⟩
omit [ah_] in
theorem dx_ {l:List AV} (h:jU_ [] l):l=[]:=by
 cases l with
 |nil=>rfl
 |cons a l=>exact h.elim
def codeL (eid:TC→TypeId):List TC→TypeId→Option TC
 |[],_=>none
 |t::ts,e=>cond (Nat.beq (eid t) e) (some t) (codeL eid ts e)
omit [ah_] in
theorem qB_ {eid:TC→TypeId} {e:TypeId} {t:TC}:∀ ts,codeL eid ts e=some t→eid t=e
 |[],h=>by cases h
 |u::ts,h=>by
  simp only [codeL] at h
  cases hb:Nat.beq (eid u) e with
  |true=>rw [hb] at h;cases h;exact cF_.1 hb
  |false=>rw [hb] at h;exact qB_ ts h
theorem law_true [ak_] {E:Env} {f:FuncId} {avs:List AV} {outs:List AV} {ps:List PS} (h:ea_ E f avs (.b true) outs ps) {w:World} (hgl:Glob E w NoF) {Vs:List Value} (hr:RL E w NoF avs Vs (fun _=>0)) :
  Calls E.P f Vs.toArray w fun e W'=>e = .returned (.bool true)∧Below w.heap.size w W':=by
 refine (h w NoF Vs _ hr (fun _=>Nat.zero_le _) (fun b hb=>hb.elim) hgl).mono fun e W' ⟨V,φ',he,h1,_,_,e1,e2,e3,e4,e5⟩=>⟨?_,e1,e2,e3,e4,fun k hk=>e5 k hk rfl⟩
 cases h1 with
 |scal a v l vs φ hs _=>rw [he,show V = .bool true from hs]
theorem ag_open {E:Env} {w:World} {l:List AV} {cs:Array Value} (h:RL E w NoF l (Value.agg cs).cells.toList (fun _=>0)) {l':List AV} {vs:List Value} (h':RL E w NoF l' vs (fun _=>0)) :
  RL E w NoF (.ag l::l') (.agg cs::vs) (fun _=>0):=by
 have:=RL.ag (E:=E) (w:=w) (F:=NoF) l cs.toList (fun _=>0) l' vs (fun _=>0) (fun _=>0) h h' (fun b=>rfl)
 simpa using this
end Go.Pi
end
section
namespace Go.Pi
open Go.Proofs Go.Proofs.YtmgcfhlcdhlafaaGreatDoor
open Go.ChangeShapes Go.WideShapes Go.ChangeAt Go.RowKit
def eJ_:TypeId→Option TC:=codeL eid [.u8,.str,.int,.iRow,.s_iRow,.iCond,.iKid,.iEvent,.iJson,.iOp,.iMut,.iChange]
def kinds:TC→List Kd
 |.u8=>[.i .u8]
 |.str=>[.s]
 |.int=>[.i .i64]
 |.iRow=>[.i .i64,.sl .int]
 |.s_iRow=>[.sl .iRow]
 |.iCond=>[.i .i64,.i .i64,.i .i64]
 |.iKid=>[.i .i64,.i .i64]
 |.iEvent=>[.i .i64,.i .i64,.i .i64,.i .i64,.i .i64,.s,.sl .iJson,.sl .str,.sl .iOp]
 |.iJson=>[.i .i64,.i .i64,.s,.sl .iJson,.sl .str]
 |.iOp=>[.i .i64,.sl .str,.i .i64,.i .i64,.s,.sl .iJson,.sl .str]
 |.iMut=>[.i .i64,.i .i64,.i .i64,.sl .int]
 |.iChange=>[.i .i64,.b,.b,.i .i64,.sl .int,.i .i64,.sl .int]
theorem kindsOk:lm_ E eJ_ kinds 12 where
 codeOk:=fun e t h=>qB_ _ h
 kdsOk:=by intro t;cases t<;>kernel_rfl
 cells:=by intro t;cases t<;>kernel_rfl
 dec:=by
  intro t l h
  cases t with
  |u8=>
   iterate 1 (replace h:=c5_ h;obtain ⟨_,_,rfl,⟨_,rfl⟩,h⟩:=h)
   replace h:=dx_ h;subst h;exact ⟨_,rfl⟩
  |str=>
   iterate 1 (replace h:=c5_ h;obtain ⟨_,_,rfl,⟨_,rfl⟩,h⟩:=h)
   replace h:=dx_ h;subst h;exact ⟨_,rfl⟩
  |int=>
   iterate 1 (replace h:=c5_ h;obtain ⟨_,_,rfl,⟨_,rfl⟩,h⟩:=h)
   replace h:=dx_ h;subst h;exact ⟨_,rfl⟩
  |iRow=>
   iterate 2 (replace h:=c5_ h;obtain ⟨_,_,rfl,⟨_,rfl⟩,h⟩:=h)
   replace h:=dx_ h;subst h;exact ⟨_,rfl⟩
  |s_iRow=>
   iterate 1 (replace h:=c5_ h;obtain ⟨_,_,rfl,⟨_,rfl⟩,h⟩:=h)
   replace h:=dx_ h;subst h;exact ⟨_,rfl⟩
  |iCond=>
   iterate 3 (replace h:=c5_ h;obtain ⟨_,_,rfl,⟨_,rfl⟩,h⟩:=h)
   replace h:=dx_ h;subst h;exact ⟨_,rfl⟩
  |iKid=>
   iterate 2 (replace h:=c5_ h;obtain ⟨_,_,rfl,⟨_,rfl⟩,h⟩:=h)
   replace h:=dx_ h;subst h;exact ⟨_,rfl⟩
  |iEvent=>
   iterate 9 (replace h:=c5_ h;obtain ⟨_,_,rfl,⟨_,rfl⟩,h⟩:=h)
   replace h:=dx_ h;subst h;exact ⟨_,rfl⟩
  |iJson=>
   iterate 5 (replace h:=c5_ h;obtain ⟨_,_,rfl,⟨_,rfl⟩,h⟩:=h)
   replace h:=dx_ h;subst h;exact ⟨_,rfl⟩
  |iOp=>
   iterate 7 (replace h:=c5_ h;obtain ⟨_,_,rfl,⟨_,rfl⟩,h⟩:=h)
   replace h:=dx_ h;subst h;exact ⟨_,rfl⟩
  |iMut=>
   iterate 4 (replace h:=c5_ h;obtain ⟨_,_,rfl,⟨_,rfl⟩,h⟩:=h)
   replace h:=dx_ h;subst h;exact ⟨_,rfl⟩
  |iChange=>
   iterate 7 (replace h:=c5_ h;obtain ⟨_,_,rfl,⟨_,rfl⟩,h⟩:=h)
   replace h:=dx_ h;subst h;exact ⟨_,rfl⟩
namespace laws_FnClient
theorem own:ownKnob Tryz.prog.godebug=none:=by kernel_rfl
theorem laidOut:laidOutB Tryz.prog=true:=by kernel_rfl
def qT_:DataW Unit→ByteArray
 |.iface _ (.ptr (.agg [.lit (.string l)]))=>⟨l.toArray⟩
 |_=>ByteArray.empty
def tab1:DataW Unit→List Value
 |.lit (.int k n)=>[Value.int k n]
 |_=>[]
def tab2:DataW Unit→List Value
 |.agg l=>l.flatMap tab1
 |d=>tab1 d
def fh_:DataW Unit→Array Value
 |.agg l=>(l.flatMap tab2).toArray
 |_ => #[]
def Pure:Prop:=∀ (o:List Int),(∀ c ∈ ([.sl .v .u8 o]:List AV),Good c)→∃ n,Go.Pi.laws_FnClient n o=some true
noncomputable def low:Nat:=(World.holding Tryz.prog default ⟨#[],#[],[]⟩).heap.size
noncomputable def n8_ (os:Os):World :=
 let w0:=World.holding Tryz.prog os ⟨#[.cells #[.string (qT_ Rows.laid_strconv_ErrRange)] 303,.cells #[.string (qT_ Rows.laid_strconv_ErrSyntax)] 303],#[],[]⟩
 let put:=fun (h:Array Obj) (g:Nat) (cs:Array Value)=>h.modify g fun
  |.cells _ t frozen=>.cells cs t frozen
  |o=>o
 { w0 with heap:=put (put (put (put (put (put (put (w0.heap) 4 (fh_ Rows.laid_math_bits_deBruijn32tab)) 5 (fh_ Rows.laid_math_bits_deBruijn64tab)) 3 (fh_ Rows.laid_internal_strconv_uint64pow10)) 7 (fh_ Rows.laid_unicode_utf8_acceptRanges)) 2 (#[.iface 301 (.pointer (some ⟨low+0,0,none⟩))])) 1 (#[.iface 301 (.pointer (some ⟨low+1,0,none⟩))])) 6 (fh_ Rows.laid_unicode_utf8_first) }
theorem m4_ (os:Os) (args:Array Value):laidMet Tryz.prog Rows.fnClientRow.laid ((n8_ os).forCall (fun _ _=>0) ⟨#[],args,[]⟩).memory :=
 laidMet_of_run' 8 (by kernel_rfl) (by kernel_rfl)
theorem lifted (hp:Pure) (os:Os) (started:os.Started) (H:Type) (enc:TypeId × Value→H) :
  ReturnsInHanded {} Tryz.checked os 3 .any (fun w args=>(Rows.fnClientSpec.pre enc Tryz.prog Tryz.f3 Rows.fnClientRow.domain false w args∧laidMet Tryz.prog Rows.fnClientRow.laid w)∧sizedMet enc Tryz.prog Tryz.f3 (OpenSpec.ofChange Rows.fnClientSpec) false w args) (Rows.fnClientSpec.post enc Tryz.prog Tryz.f3 false true false false):=by
 refine returnsInHanded_of_calls own started (by kernel_rfl) (ChangeSpec.witness_at (enc:=enc) (C:=Tryz.checked) (os:=os) (X:=fun w _=>laidMet Tryz.prog Rows.fnClientRow.laid w) false (n8_ os) #[.slice none 0 0] 8 rfl (by kernel_rfl) (by kernel_rfl) (by kernel_rfl) (by kernel_rfl) (by kernel_rfl) (m4_ os _)) ?_
 intro w0 tape inp _ hsh _ hok hpre _
 obtain ⟨_,_,_,fn',hfn',_,_,_,_,hval0⟩:=hok
 obtain rfl:fn'=Tryz.f3:=Option.some.inj (hfn'.symm.trans Tryz.func3)
 obtain ⟨⟨⟨ds,gs,before,hw0,hcnd⟩,hL0⟩,hz⟩:=hpre
 have hW:=DataW.Whole.of_heap (w':=w0.forCall tape inp) (by rfl) hw0
 have hL:laidMet Tryz.prog Rows.fnClientRow.laid (w0.forCall tape inp):=hL0.of_heap (by rfl)
 clear hw0 hL0 hz hfn' hcnd
 generalize w0.forCall tape inp=W at hsh hval0 hW hL ⊢
 generalize inp.args=args at hval0 hW ⊢
 generalize w0.heap.size=base at hval0
 suffices hgo:Calls Tryz.prog 3 args W fun e W'=>∃ v,e = .returned v∧Rows.fnClientSpec.post enc Tryz.prog Tryz.f3 false true false false W args v W' from hgo.mono fun e W' ⟨v,he,hp⟩=>by subst he;exact ChangeSpec.post_blind hp
 have hval:∀ (j:Nat) t v,Tryz.f3.params[j]?=some t→args[j]?=some v→Value.okWide Tryz.prog W .any base t v:=hval0
 have hW':=hW
 obtain ⟨p,q,hA0,hV,rfl,hfz,hnd⟩:=hW
 have hA:DataW.TrodAll enc Tryz.prog W 0 (fun _=>true) true Tryz.f3.params.toList args.toList ds p:=hA0
 rw [Tryz.params3] at hA hval
 obtain ⟨v0,vs0,d0,ds0,p0,q0,hargs,rfl,rfl,h0,r0⟩:=trodAll_cons hA
 obtain ⟨rfl,rfl,rfl⟩:=trodAll_nil r0
 obtain rfl:args = #[v0]:=by cases args;simp_all
 obtain ⟨rfl,rfl⟩:=trodVars_none hV
 obtain ⟨c0,len0,cap0,rfl⟩:=okWide_slice Tryz.underlying22 (hval 0 22 v0 rfl rfl)
 have lt0:∀ x ∈ p0,x.block<W.heap.size:=by obtain ⟨m,hm⟩:=h0;exact DataW.trod_lt m _ _ _ hm
 obtain ⟨l0,k0,e0,g0⟩:=arg_open kindsOk (T:=22) (ks:=[.sl .u8]) (by kernel_rfl) h0
 replace k0:=c5_ k0;obtain ⟨_,_,rfl,⟨z0,rfl⟩,k0⟩:=k0
 replace k0:=dx_ k0;subst k0
 have hT:Lib.TabIs Tryz.prog W "internal/strconv.uint64pow10" .u64 Lib.pow10Tab:=Lib.tabIs_of_head (t:=292) (e:=267) (n:=20) k7_ (by kernel_rfl) (by kernel_rfl) (by kernel_rfl) (by kernel_rfl) (by kernel_rfl) (show laidMet Tryz.prog ((_,Lib.tabData .u64 Lib.pow10Tab)::_) W from hL.tail.tail)
 obtain ⟨mx,hmx⟩:=cell_of_shapedOpen_int (g:=0) (t:=3) (k:=.i64) (zero:=#[.int .i64 0]) hsh (by decide +kernel) (by kernel_rfl) rfl (by kernel_rfl) (by kernel_rfl) (by kernel_rfl)
 have hgl:Glob E W NoF:=fun p hp=>by
  rcases List.mem_cons.1 hp with rfl|hp
  · obtain ⟨T,fr,h⟩:=tab_glob hT k7_;exact ⟨⟨_,T,fr,h,rfl⟩,fun h=>h.elim⟩
  rcases List.mem_cons.1 hp with rfl|hp
  · exact ⟨int_glob hmx,fun h=>h.elim⟩
  rcases List.mem_cons.1 hp with rfl|hp
  · exact ⟨qv_ (d:=.ptr (.agg [.lit (.string (qT_ Rows.laid_strconv_ErrSyntax).data.toList)])) (show laidMet Tryz.prog (("strconv.ErrSyntax", .iface "*errors.errorString" (.ptr (.agg [.lit (.string (qT_ Rows.laid_strconv_ErrSyntax).data.toList)])))::_) W from hL.tail.tail.tail.tail.tail) (by kernel_rfl) (by kernel_rfl),fun h=>h.elim⟩
  rcases List.mem_singleton.1 hp with rfl
  exact ⟨qv_ (d:=.ptr (.agg [.lit (.string (qT_ Rows.laid_strconv_ErrRange).data.toList)])) (show laidMet Tryz.prog (("strconv.ErrRange", .iface "*errors.errorString" (.ptr (.agg [.lit (.string (qT_ Rows.laid_strconv_ErrRange).data.toList)])))::_) W from hL.tail.tail.tail.tail) (by kernel_rfl) (by kernel_rfl),fun h=>h.elim⟩
 obtain ⟨n,hn⟩:=hp z0 g0
 refine (law_true ((AllE.get (e:=laws_FnClient.e) 0 (allOk n) (by kernel_rfl)) (z0,()) _ hn) hgl (RL.cons e0 (.nil _ fun _=>rfl) (fun b=>rfl))).mono fun e W' ⟨he,bel⟩ => ?_
 subst he
 exact ⟨_,rfl,_,_,_,[],_,[],hW',trodAll_mk1 (shut_bool Tryz.underlying4 _),(trodAll_cons_mk (Below.trod laidOut (by kernel_rfl) (of_decide_eq_true (by kernel_rfl)) h0 bel lt0) trodAll_mk0),rfl,bel.frame _,fun h=>by cases h⟩
theorem jf0:(Rows.fnClientRow.wf (OpenSpec.ofChange Rows.fnClientSpec))=true:=by kernel_rfl
theorem jf1:(laidOutB Tryz.prog)=true:=by kernel_rfl
theorem jf2:(mapsRowed Tryz.prog)=true:=by kernel_rfl
theorem jf3:(Tryz.f3.params.all (Tryz.prog.readableRec ·))=true:=by kernel_rfl
theorem jf4:(namedTie Tryz.prog Rows.fnClientRow.named Rows.fnClientSpec.vars)=true:=by kernel_rfl
theorem jf5:((Rows.fnClientRow.stops == []))=true:=by kernel_rfl
theorem jf6:((Tryz.prog.stops == []))=true:=by kernel_rfl
theorem jf7:((Rows.fnClientRow.knobs == []))=true:=by kernel_rfl
theorem jf8:((Tryz.prog.stopKnobs == []))=true:=by kernel_rfl
theorem jf9:((Rows.fnClientRow.inPlace == Tryz.prog.inPlace 3))=true:=by kernel_rfl
theorem jf10:((Rows.fnClientRow.unfollowed == Tryz.prog.unfollowed 3))=true:=by kernel_rfl
theorem jf11:((Rows.fnClientRow.recurses == Tryz.prog.recurses 3))=true:=by kernel_rfl
theorem jf12:((Rows.fnClientRow.named == Tryz.prog.varsNamed 3))=true:=by kernel_rfl
theorem jf13:((Rows.fnClientRow.maps == (Tryz.f3.params.toList++Rows.fnClientSpec.plain.varTypes Tryz.prog).any (Tryz.prog.mapsRec ·)))=true:=by kernel_rfl
theorem jf14:((Rows.fnClientRow.ifaces == (Tryz.f3.params.toList++Rows.fnClientSpec.plain.varTypes Tryz.prog).any (Tryz.prog.ifacesRec ·)))=true:=by kernel_rfl
theorem jf15:((Rows.fnClientRow.mapsOut == Tryz.prog.mapsAmong Tryz.f3.resultTypes.toList))=true:=by kernel_rfl
theorem jf16:((Rows.fnClientRow.loops == (Tryz.f3.params.toList++Rows.fnClientSpec.plain.varTypes Tryz.prog).any (Tryz.prog.loopsFrom ·)))=true:=by kernel_rfl
theorem jf17:((Rows.fnClientRow.wideKeys == (Tryz.f3.params.toList++Rows.fnClientSpec.plain.varTypes Tryz.prog++Tryz.f3.resultTypes.toList).any (Tryz.prog.wideKeysFrom ·)))=true:=by kernel_rfl
theorem jf18:(Rows.fnClientSpec.vars.all (Tryz.prog.varReadable ·))=true:=by kernel_rfl
theorem jf19:(Tryz.f3.resultTypes.all (fun t=>Tryz.prog.readableRec t&&decide (t<Tryz.prog.types.size)))=true:=by kernel_rfl
theorem jf20:((Rows.fnClientRow.ifacesOut == Tryz.f3.resultTypes.toList.any (Tryz.prog.ifacesRec ·)))=true:=by kernel_rfl
theorem jf21:((Rows.fnClientRow.loopsOut == Tryz.f3.resultTypes.toList.any (Tryz.prog.loopsFrom ·)))=true:=by kernel_rfl
theorem jf22:((Rows.fnClientRow.plainKeys == Tryz.prog.plainKeys))=true:=by kernel_rfl
theorem jf23:(Rows.fnClientRow.shortTexts.isNone)=true:=by kernel_rfl
theorem jf24:(Tryz.prog.stopsHeard)=true:=by kernel_rfl
theorem jf25:(Tryz.prog.mayEnter)=true:=by kernel_rfl
theorem jf26:((Rows.fnClientRow.lifted == Tryz.prog.liftsFinal))=true:=by kernel_rfl
theorem jf27:((Tryz.prog.make == some Rows.fnClientRow.make))=true:=by kernel_rfl
theorem jf28:((Rows.fnClientRow.kinds == (if Rows.fnClientRow.domain.isEmpty then [] else Tryz.f3.params.toList.map fun t=>match Tryz.prog.underlying t with|some (.int k)=>some k|_=>none)))=true:=by kernel_rfl
theorem jf29:((Rows.fnClientRow.pinned == Rows.fnClientRow.pinnedBy))=true:=by kernel_rfl
theorem jf30:((Rows.fnClientRow.veiled == (Tryz.f3.params.toList++Rows.fnClientSpec.plain.varTypes Tryz.prog++Tryz.f3.resultTypes.toList).any (Tryz.prog.veiledRec ·)))=true:=by kernel_rfl
theorem jf31:(Rows.fnClientRow.veiledFits Tryz.prog Tryz.f3.params.toList (Tryz.f3.params.toList++Rows.fnClientSpec.plain.varTypes Tryz.prog++Tryz.f3.resultTypes.toList))=true:=by kernel_rfl
theorem in_ {a b:Bool} (h:a=true) (k:b=true):(a&&b)=true:=by rw [h,k];rfl
theorem facts:joinedFacts Tryz.pinned.checked.prog 3 Tryz.f3 Rows.fnClientSpec Rows.fnClientRow=true:=(in_ (in_ (in_ (in_ (in_ (in_ (in_ (in_ (in_ (in_ (in_ (in_ (in_ (in_ (in_ (in_ (in_ (in_ (in_ (in_ (in_ (in_ (in_ (in_ (in_ (in_ (in_ (in_ (in_ (in_ (in_ jf0 jf1) jf2) jf3) jf4) jf5) jf6) jf7) jf8) jf9) jf10) jf11) jf12) jf13) jf14) jf15) jf16) jf17) jf18) jf19) jf20) jf21) jf22) jf23) jf24) jf25) jf26) jf27) jf28) jf29) jf30) jf31)
theorem over (hp:Pure):Rows.fnClientRow.holds Tryz.pinned (OpenSpec.ofChange Rows.fnClientSpec) :=
 OpenClaim.holds_of_wide 3 Tryz.f3 rfl rfl rfl rfl rfl rfl rfl ⟨rfl,rfl,rfl,rfl,rfl⟩ rfl rfl rfl rfl rfl (by kernel_rfl) Tryz.func3 facts
  (of_decide_eq_true (by kernel_rfl)) (by unfold Func.isWrapper;first|(rw [if_pos (by decide +kernel)];kernel_rfl)|(rw [if_neg (by decide +kernel)];exact ⟨rfl,rfl⟩))
  (fun os started H enc _=>lifted hp os started H enc)
end laws_FnClient
theorem laws_FnClient.card (hp:laws_FnClient.Pure):Rows.FnClientCardSaid :=
 Claim7.holds_tied_plain_at .later [] [.data,.data,.data,.data,.sentinel,.sentinel,.pinned] true (true, "731b7772da27f61403887da7ecfe18ed66ccaf2196a907d38826c3c3cd6f3b07") true
  (laws_FnClient.over hp) (fun _ h=>by cases h) (by kernel_rfl) (fun _ h=>by cases h) fnClient_row_tie rfl ⟨rfl,rfl⟩ (by kernel_rfl) rfl
  (fun f fn hf hfn=>by
    obtain rfl:f=3:=Option.some.inj ((show Tryz.prog.funcNamed "loop.example/g00198/laws.FnClient" = some 3 by kernel_rfl).symm.trans hf) |>.symm
    obtain rfl:fn=Tryz.f3:=(Option.some.inj (Tryz.func3.symm.trans hfn)).symm
    exact ⟨by kernel_rfl,fun j t ht=>by
     rw [Tryz.params3] at ht
     have hm:t ∈ ([22]:List TypeId):=List.mem_of_getElem? (show ([22]:List TypeId)[j]?=some t by simpa using ht)
     have:=List.all_eq_true.1 (show ([22]:List TypeId).all (fun t => !Tryz.prog.wantsStandIn t)=true by kernel_rfl) t hm
     exact (by simpa using this:Tryz.prog.wantsStandIn t=false)⟩)
  (by kernel_rfl)
end Go.Pi
end
section
namespace Go.Pi
section
variable {α β:Type}
def Ev (f:Nat→Nat→Option α) (v:α):Prop:=∃ M,∀ n N,M≤n→M≤N→f n N=some v
theorem af_ {v w:α}:Ev (fun _ _=>some v) w↔v=w :=
 ⟨fun ⟨M,h⟩=>Option.some.inj (h M M (Nat.le_refl _) (Nat.le_refl _)),fun h=>⟨0,fun _ _ _ _=>by rw [h]⟩⟩
theorem dj_ {f:Nat→Nat→Option α} {v w:α} (h:Ev f v):Ev f w↔v=w:=by
 constructor
 · rintro ⟨M',h'⟩
   obtain ⟨M,h⟩:=h
   have a:=h (max M M') (max M M') (by omega) (by omega)
   have b:=h' (max M M') (max M M') (by omega) (by omega)
   rw [a] at b
   exact Option.some.inj b
 · rintro rfl;exact h
theorem ad_ {f:Nat→Nat→Option α} {a:α} (h:Ev f a) {g:Nat→Nat→α→Option β} {v:β}:Ev (fun n N=>(f n N).bind (g n N)) v↔Ev (fun n N=>g n N a) v:=by
 obtain ⟨M,h⟩:=h
 constructor
 · rintro ⟨M',h'⟩
   refine ⟨max M M',fun n N h1 h2 => ?_⟩
   have:=h' n N (by omega) (by omega)
   simp only [h n N (by omega) (by omega),Option.bind_some] at this
   exact this
 · rintro ⟨M',h'⟩
   refine ⟨max M M',fun n N h1 h2 => ?_⟩
   simp only [h n N (by omega) (by omega),Option.bind_some]
   exact h' n N (by omega) (by omega)
theorem dh_ {v:α}:Ev (fun _ _=>none) v↔False:=by
 simp only [iff_false]
 rintro ⟨M,h⟩
 cases h M M (Nat.le_refl _) (Nat.le_refl _)
theorem am_ {c:Bool} {f g:Nat→Nat→Option α} {v:α}:Ev (fun n N=>cond c (f n N) (g n N)) v↔(c=true→Ev f v)∧(c=false→Ev g v):=by
 cases c<;>simp
theorem bB_ {i:Int} {len:Nat} {f:Nat→Nat→Option α} {v:α}:Ev (fun n N=>inB i len (f n N)) v↔(0≤i∧i<(len:Int))∧Ev f v:=by
 unfold inB
 rw [am_,am_]
 by_cases h1:0≤i<;>by_cases h2:i<(len:Int)<;>simp [h1,h2,dh_]
theorem au_ {f:Nat→Nat→Option α} {v:α} (h:Ev (fun n N=>f (n+1) N) v):Ev f v:=by
 obtain ⟨M,h⟩:=h
 refine ⟨M+1,fun n N h1 h2 => ?_⟩
 obtain ⟨m,rfl⟩:∃ m,n=m+1:=⟨n - 1,by omega⟩
 exact h m N (by omega) (by omega)
theorem d3_ {f:Nat→Nat→Option α} {v:α} (h:Ev f v):Ev (fun n _=>f n n) v:=by
 obtain ⟨M,h⟩:=h
 exact ⟨M,fun n N h1 h2=>h n n h1 h1⟩
theorem b4_ {f:Nat→Nat→Option α} {v:α} (h:Ev (fun n N=>f n (N+1)) v):Ev f v:=by
 obtain ⟨M,h⟩:=h
 refine ⟨M+1,fun n N h1 h2 => ?_⟩
 obtain ⟨m,rfl⟩:∃ m,N=m+1:=⟨N - 1,by omega⟩
 exact h n m (by omega) (by omega)
theorem ev_ex {f:Nat→Option α} {v:α} (h:Ev (fun n _=>f n) v):∃ n,f n=some v:=by
 obtain ⟨M,h⟩:=h
 exact ⟨M,h M M (Nat.le_refl _) (Nat.le_refl _)⟩
end
abbrev bV_:Nat:=9223372036854775807
theorem W_id {n:Int} (h : -9223372036854775808≤n) (h':n<9223372036854775808):W n=n:=by
 show IntKind.i64.wrap n=n
 rw [IntKind.wrap_i64];omega
theorem W_up {i:Nat} {len:Nat} (h:i<len) (hl:len≤bV_):W ((i:Int)+1)=((i+1:Nat):Int):=by
 rw [W_id (by omega) (by simp only [bV_] at hl;omega)];omega
theorem ep_ {α:Type} (d:α) {a:List α} {i:Nat} (h:i<a.length):a.drop i=a.getD i d::a.drop (i+1):=by
 rw [List.drop_eq_getElem_cons h,List.getD_eq_getElem?_getD,List.getElem?_eq_getElem h];rfl
theorem bw_ {α:Type} (d:α) {a:List α} {i:Nat} (h:i<a.length):a.getD i d ∈ a:=by
 rw [List.getD_eq_getElem?_getD,List.getElem?_eq_getElem h];exact List.getElem_mem h
end Go.Pi
end
section
namespace Go.Pi
theorem bS_.turn4 {n N k}:bS_.loop4 n k (N+1)=bS_.step4 n k (bS_.loop4 n k N):=rfl
theorem aK_.turn4 {n N k}:aK_.loop4 n k (N+1)=aK_.step4 n k (aK_.loop4 n k N):=rfl
theorem aV_.turn3 {n N k}:aV_.loop3 n k (N+1)=aV_.step3 n k (aV_.loop3 n k N):=rfl
theorem aZ_.turn4 {n N k}:aZ_.loop4 n k (N+1)=aZ_.step4 n k (aZ_.loop4 n k N):=rfl
theorem bW_.turn3 {n N k}:bW_.loop3 n k (N+1)=bW_.step3 n k (bW_.loop3 n k N):=rfl
theorem a6_.turn5 {n N k}:a6_.loop5 n k (N+1)=a6_.step5 n k (a6_.loop5 n k N):=rfl
theorem bs_.turn6 {n N k}:bs_.loop6 n k (N+1)=bs_.step6 n k (bs_.loop6 n k N):=rfl
theorem aU_.turn4 {n N k}:aU_.loop4 n k (N+1)=aU_.step4 n k (aU_.loop4 n k N):=rfl
theorem aL_.turn4 {n N k}:aL_.loop4 n k (N+1)=aL_.step4 n k (aL_.loop4 n k N):=rfl
theorem aj_.turn7 {n N k}:aj_.loop7 n k (N+1)=aj_.step7 n k (aj_.loop7 n k N):=rfl
theorem aj_.turn16 {n N k}:aj_.loop16 n k (N+1)=aj_.step16 n k (aj_.loop16 n k N):=rfl
theorem bZ_.turn6 {n N k}:bZ_.loop6 n k (N+1)=bZ_.step6 n k (bZ_.loop6 n k N):=rfl
theorem bM_.turn3 {n N k}:bM_.loop3 n k (N+1)=bM_.step3 n k (bM_.loop3 n k N):=rfl
theorem bp_.turn6 {n N k}:bp_.loop6 n k (N+1)=bp_.step6 n k (bp_.loop6 n k N):=rfl
theorem az_.turn7 {n N k}:az_.loop7 n k (N+1)=az_.step7 n k (az_.loop7 n k N):=rfl
theorem az_.turn16 {n N k}:az_.loop16 n k (N+1)=az_.step16 n k (az_.loop16 n k N):=rfl
theorem bA_.turn3 {n N k}:bA_.loop3 n k (N+1)=bA_.step3 n k (bA_.loop3 n k N):=rfl
theorem bE_.turn5 {n N k}:bE_.loop5 n k (N+1)=bE_.step5 n k (bE_.loop5 n k N):=rfl
theorem bv_.turn8 {n N k}:bv_.loop8 n k (N+1)=bv_.step8 n k (bv_.loop8 n k N):=rfl
theorem aN_.turn5 {n N k}:aN_.loop5 n k (N+1)=aN_.step5 n k (aN_.loop5 n k N):=rfl
theorem bL_.turn8 {n N k}:bL_.loop8 n k (N+1)=bL_.step8 n k (bL_.loop8 n k N):=rfl
theorem bG_.turn4 {n N k}:bG_.loop4 n k (N+1)=bG_.step4 n k (bG_.loop4 n k N):=rfl
theorem bQ_.turn3 {n N k}:bQ_.loop3 n k (N+1)=bQ_.step3 n k (bQ_.loop3 n k N):=rfl
theorem a2_.turn4 {n N k}:a2_.loop4 n k (N+1)=a2_.step4 n k (a2_.loop4 n k N):=rfl
theorem aQ_.turn7 {n N k}:aQ_.loop7 n k (N+1)=aQ_.step7 n k (aQ_.loop7 n k N):=rfl
theorem br_.turn5 {n N k}:br_.loop5 n k (N+1)=br_.step5 n k (br_.loop5 n k N):=rfl
theorem bz_.turn4 {n N k}:bz_.loop4 n k (N+1)=bz_.step4 n k (bz_.loop4 n k N):=rfl
theorem bP_.turn3 {n N k}:bP_.loop3 n k (N+1)=bP_.step3 n k (bP_.loop3 n k N):=rfl
theorem ae_.turn6 {n N k}:ae_.loop6 n k (N+1)=ae_.step6 n k (ae_.loop6 n k N):=rfl
theorem aO_.turn23 {n N k0 k1}:aO_.loop23 n k0 k1 (N+1)=aO_.step23 n k0 k1 (aO_.loop23 n k0 k1 N):=rfl
theorem bX_.turn4 {n N k}:bX_.loop4 n k (N+1)=bX_.step4 n k (bX_.loop4 n k N):=rfl
theorem an_.turn6 {n N k0 k1}:an_.loop6 n k0 k1 (N+1)=an_.step6 n k0 k1 (an_.loop6 n k0 k1 N):=rfl
theorem an_.turn14 {n N k0 k1}:an_.loop14 n k0 k1 (N+1)=an_.step14 n k0 k1 (an_.loop14 n k0 k1 N):=rfl
theorem bu_.turn3 {n N k}:bu_.loop3 n k (N+1)=bu_.step3 n k (bu_.loop3 n k N):=rfl
theorem bK_.turn3 {n N k}:bK_.loop3 n k (N+1)=bK_.step3 n k (bK_.loop3 n k N):=rfl
theorem bg_.turn5 {n N k}:bg_.loop5 n k (N+1)=bg_.step5 n k (bg_.loop5 n k N):=rfl
theorem cb_.turn3 {n N k}:cb_.loop3 n k (N+1)=cb_.step3 n k (cb_.loop3 n k N):=rfl
theorem aI_.turn3 {n N k}:aI_.loop3 n k (N+1)=aI_.step3 n k (aI_.loop3 n k N):=rfl
theorem aI_.turn11 {n N k}:aI_.loop11 n k (N+1)=aI_.step11 n k (aI_.loop11 n k N):=rfl
theorem aB_.turn4 {n N k0 k1}:aB_.loop4 n k0 k1 (N+1)=aB_.step4 n k0 k1 (aB_.loop4 n k0 k1 N):=rfl
theorem aF_.turn5 {n N k}:aF_.loop5 n k (N+1)=aF_.step5 n k (aF_.loop5 n k N):=rfl
theorem aF_.turn13 {n N k}:aF_.loop13 n k (N+1)=aF_.step13 n k (aF_.loop13 n k N):=rfl
theorem bT_.turn4 {n N k}:bT_.loop4 n k (N+1)=bT_.step4 n k (bT_.loop4 n k N):=rfl
theorem b6_.turn6 {n N k}:b6_.loop6 n k (N+1)=b6_.step6 n k (b6_.loop6 n k N):=rfl
theorem aC_.turn10 {n N k}:aC_.loop10 n k (N+1)=aC_.step10 n k (aC_.loop10 n k N):=rfl
theorem aC_.turn4 {n N k}:aC_.loop4 n k (N+1)=aC_.step4 n k (aC_.loop4 n k N):=rfl
theorem bi_.turn4 {n N k}:bi_.loop4 n k (N+1)=bi_.step4 n k (bi_.loop4 n k N):=rfl
theorem aM_.turn17 {n N k0 k1}:aM_.loop17 n k0 k1 (N+1)=aM_.step17 n k0 k1 (aM_.loop17 n k0 k1 N):=rfl
theorem aY_.turn4 {n N k}:aY_.loop4 n k (N+1)=aY_.step4 n k (aY_.loop4 n k N):=rfl
theorem bm_.turn4 {n N k}:bm_.loop4 n k (N+1)=bm_.step4 n k (bm_.loop4 n k N):=rfl
theorem aw_.turn5 {n N k}:aw_.loop5 n k (N+1)=aw_.step5 n k (aw_.loop5 n k N):=rfl
theorem a7_.turn12 {n N k}:a7_.loop12 n k (N+1)=a7_.step12 n k (a7_.loop12 n k N):=rfl
theorem aR_.turn4 {n N k}:aR_.loop4 n k (N+1)=aR_.step4 n k (aR_.loop4 n k N):=rfl
theorem ao_.turn7 {n N k}:ao_.loop7 n k (N+1)=ao_.step7 n k (ao_.loop7 n k N):=rfl
theorem aA_.turn4 {n N k0 k1}:aA_.loop4 n k0 k1 (N+1)=aA_.step4 n k0 k1 (aA_.loop4 n k0 k1 N):=rfl
theorem ay_.turn3 {n N k}:ay_.loop3 n k (N+1)=ay_.step3 n k (ay_.loop3 n k N):=rfl
theorem as_.turn3 {n N k}:as_.loop3 n k (N+1)=as_.step3 n k (as_.loop3 n k N):=rfl
theorem bt_.turn7 {n N k0 k1}:bt_.loop7 n k0 k1 (N+1)=bt_.step7 n k0 k1 (bt_.loop7 n k0 k1 N):=rfl
theorem bH_.turn4 {n N k}:bH_.loop4 n k (N+1)=bH_.step4 n k (bH_.loop4 n k N):=rfl
theorem a1_.turn4 {n N k0 k1}:a1_.loop4 n k0 k1 (N+1)=a1_.step4 n k0 k1 (a1_.loop4 n k0 k1 N):=rfl
theorem b9_.turn3 {n N k}:b9_.loop3 n k (N+1)=b9_.step3 n k (b9_.loop3 n k N):=rfl
theorem bI_.turn4 {n N k}:bI_.loop4 n k (N+1)=bI_.step4 n k (bI_.loop4 n k N):=rfl
theorem bl_.turn4 {n N k}:bl_.loop4 n k (N+1)=bl_.step4 n k (bl_.loop4 n k N):=rfl
theorem aH_.turn6 {n N k}:aH_.loop6 n k (N+1)=aH_.step6 n k (aH_.loop6 n k N):=rfl
theorem ai_.turn6 {n N k0 k1}:ai_.loop6 n k0 k1 (N+1)=ai_.step6 n k0 k1 (ai_.loop6 n k0 k1 N):=rfl
theorem al_.turn4 {n N k}:al_.loop4 n k (N+1)=al_.step4 n k (al_.loop4 n k N):=rfl
theorem aG_.turn3 {n N k}:aG_.loop3 n k (N+1)=aG_.step3 n k (aG_.loop3 n k N):=rfl
theorem a9_.turn7 {n N k}:a9_.loop7 n k (N+1)=a9_.step7 n k (a9_.loop7 n k N):=rfl
theorem a3_.turn4 {n N k}:a3_.loop4 n k (N+1)=a3_.step4 n k (a3_.loop4 n k N):=rfl
theorem bD_.turn4 {n N k}:bD_.loop4 n k (N+1)=bD_.step4 n k (bD_.loop4 n k N):=rfl
theorem ck_.turn3 {n N k}:ck_.loop3 n k (N+1)=ck_.step3 n k (ck_.loop3 n k N):=rfl
theorem bk_.turn7 {n N k}:bk_.loop7 n k (N+1)=bk_.step7 n k (bk_.loop7 n k N):=rfl
theorem be_.turn7 {n N k}:be_.loop7 n k (N+1)=be_.step7 n k (be_.loop7 n k N):=rfl
theorem a0_.turn4 {n N k}:a0_.loop4 n k (N+1)=a0_.step4 n k (a0_.loop4 n k N):=rfl
theorem ab_.turn20 {n N k0 k1}:ab_.loop20 n k0 k1 (N+1)=ab_.step20 n k0 k1 (ab_.loop20 n k0 k1 N):=rfl
theorem ab_.turn28 {n N k0 k1}:ab_.loop28 n k0 k1 (N+1)=ab_.step28 n k0 k1 (ab_.loop28 n k0 k1 N):=rfl
theorem aq_.turn5 {n N k}:aq_.loop5 n k (N+1)=aq_.step5 n k (aq_.loop5 n k N):=rfl
theorem bo_.turn10 {n N k}:bo_.loop10 n k (N+1)=bo_.step10 n k (bo_.loop10 n k N):=rfl
theorem ba_.turn4 {n N k}:ba_.loop4 n k (N+1)=ba_.step4 n k (ba_.loop4 n k N):=rfl
theorem cr_.turn6 {n N k}:cr_.loop6 n k (N+1)=cr_.step6 n k (cr_.loop6 n k N):=rfl
end Go.Pi
end
section
namespace Go.Pi
def hz_ (p:Nat→Bool):Nat→Nat→Bool
 |0,_=>true
 |d+1,i=>p i&&hz_ p d (i+1)
def hY_ (p:Nat→Bool) (len:Nat):Bool:=hz_ p len 0
theorem eG_ (L:Nat→Nat→Nat→Option Bool) (p:Nat→Bool) {len:Nat} {v:Bool}
  (h:∀ i w,i<len→Ev (fun n N=>L n N (i+1)) w→Ev (fun n N=>L n (N+1) i) (p i&&w)) (h2:Ev (fun n N=>L n (N+1) len) v) :
  Ev (fun n _=>L n n 0) (hY_ p len&&v):=by
 have key:∀ d i,d+i=len→Ev (fun n N=>L n N i) (hz_ p d i&&v):=by
  intro d
  induction d with
  |zero=>intro i hd;obtain rfl:i=len:=by omega
         simpa [hz_] using b4_ (f:=fun n N=>L n N i) h2
  |succ d ih=>intro i hd
              have:=h i _ (by omega) (ih (i+1) (by omega))
              rw [←Bool.and_assoc] at this
              exact b4_ (f:=fun n N=>L n N i) this
 exact d3_ (f:=fun n N=>L n N 0) (key len 0 (by omega))
theorem fB_ {α:Type} {f:Nat→Nat→Option α} {v w:α} (h:Ev f v) (e:v=w):Ev f w:=e ▸ h
def inn (x lo hi:Int):Bool:=decide (lo≤x)&&decide (x≤hi)
theorem gF_ {x lo hi:Int}:inn x lo hi=true↔lo≤x∧x≤hi:=by simp [inn]
theorem l1In_ev {x lo hi:Int}:Ev (fun n _=>bN_ n x lo hi) (inn x lo hi):=by
 refine au_ ?_
 simp only [bN_,am_,af_,inn]
 grind
theorem iu_ {x lo hi:Int}:Ev (fun n _=>aJ_ n x lo hi) (inn x lo hi):=by
 refine au_ ?_
 simp only [aJ_,am_,af_,inn]
 grind
section
variable {β:Type} {x lo hi:Int} {g:Nat→Nat→Bool→Option β} {v:β}
theorem fj_:Ev (fun n N=>(bN_ n x lo hi).bind (g n N)) v↔Ev (fun n N=>g n N (inn x lo hi)) v:=ad_ l1In_ev
theorem hI_:Ev (fun n N=>(aJ_ n x lo hi).bind (g n N)) v↔Ev (fun n N=>g n N (inn x lo hi)) v:=ad_ iu_
theorem isNum_b:Ev (fun n N=>(bb_ n x).bind (g n N)) v↔Ev (fun n N=>g n N (inn x (-1000000000) 1000000000)) v :=
 ad_ (au_ (by simp only [bb_,hI_,af_]))
end
theorem cy_ {i len:Nat} (h:i<len):decide ((i:Int)<(len:Int))=true:=by simp;omega
theorem ca_ {len:Nat}:decide ((len:Int)<(len:Int))=false:=by simp
theorem cf_ {i len:Nat} (h:i<len):((0:Int)≤(i:Int)∧(i:Int)<(len:Int))↔True:=by simp;omega
end Go.Pi
end
section
namespace Go.Pi
abbrev cap:Nat:=1048576
def eD_ {α:Type} (f:α→Nat):List α→Nat
 |[]=>0
 |x::xs=>f x+eD_ f xs
def ei_ {α:Type} (f:α→Nat) (l:List α):Nat:=l.length+eD_ f l
def n3_ {α:Type} (P:α→Prop) (l:List α):Prop:=l.length≤bV_∧∀ x ∈ l,P x
def szI (_:Int):Nat:=0
def szB (s:Bs):Nat:=s.length
def lenI (_:Int):Prop:=True
def lenB (s:Bs):Prop:=s.length≤bV_
theorem nF_ {α:Type} (f:α→Nat) (d:α) {a:List α} {i:Nat} (h:i<a.length):eD_ f (a.drop i)=f (a.getD i d)+eD_ f (a.drop (i+1)):=by
 rw [ep_ d h];rfl
theorem gx_ {α:Type} (f:α→Nat) {a:List α} {x:α} (h:x ∈ a):f x≤eD_ f a:=by
 induction a with
 |nil=>cases h
 |cons y a ih=>
  simp only [eD_]
  rcases List.mem_cons.1 h with rfl|h
  · omega
  · have:=ih h;omega
section
variable {α β:Type}
end
end Go.Pi
end
section
namespace Go.Pi
theorem W_dn {i:Nat} (h:i≤bV_):W ((i:Int) - 1)=(i:Int) - 1:=by
 rw [W_id (by omega) (by simp only [bV_] at h;omega)]
theorem kd_ {i:Nat}:((i:Int) - 1).toNat=i - 1:=by omega
theorem gE_ {x lo hi:Int} (h:inn x lo hi=true):lo≤x∧x≤hi:=gF_.1 h
def f7_ {α:Type} (s:Nat→α→α) (v:α):Nat→Nat→α
 |0,_=>v
 |d+1,i=>s i (f7_ s v d (i+1))
theorem la_ {α:Type} (L:Nat→Nat→Nat→Option α) (s:Nat→α→α) {len:Nat} {v:α}
  (h:∀ i w,i<len→Ev (fun n N=>L n N (i+1)) w→Ev (fun n N=>L n (N+1) i) (s i w)) (h2:Ev (fun n N=>L n (N+1) len) v) :
  Ev (fun n _=>L n n 0) (f7_ s v len 0):=by
 have key:∀ d i,d+i=len→Ev (fun n N=>L n N i) (f7_ s v d i):=by
  intro d
  induction d with
  |zero=>intro i hd;obtain rfl:i=len:=by omega
         exact b4_ (f:=fun n N=>L n N i) h2
  |succ d ih=>intro i hd
              exact b4_ (f:=fun n N=>L n N i) (h i _ (by omega) (ih (i+1) (by omega)))
 exact d3_ (f:=fun n N=>L n N 0) (key len 0 (by omega))
theorem bO_ {α:Type} {n b:Nat} {f:Nat→Nat→Option α} {v:α}:Ev (fun m N=>bq_ n b (f m N)) v↔n*b≤140737488355328∧Ev f v:=by
 unfold bq_
 rw [am_]
 by_cases h:n*b≤140737488355328<;>simp [h,dh_]
theorem qu_ {α β γ:Type} (d:α) (a:List α) (f:α→β) (L:Nat→Nat→Nat→List β→Option γ) (v:γ)
  (h1:∀ i s,i<a.length→s.length=i→∀ F,Ev (fun n N=>L n N (i+1) (s++[f (a.getD i d)])) F→Ev (fun n N=>L n (N+1) i s) F)
  (h2:Ev (fun n N=>L n (N+1) a.length (a.map f)) v):Ev (fun n _=>L n n 0 []) v:=by
 have key:∀ j i,j+i=a.length→Ev (fun n N=>L n N i ((a.take i).map f)) v:=by
  intro j
  induction j with
  |zero=>
   intro i hi
   have:i=a.length:=by omega
   subst this
   rw [List.take_of_length_le (Nat.le_refl _)]
   exact b4_ h2
  |succ j ih=>
   intro i hi
   refine b4_ (h1 i _ (by omega) (by simp;omega) _ ?_)
   have:=ih (i+1) (by omega)
   rw [List.take_add_one,List.map_append] at this
   have e:a[i]?.toList=[a.getD i d]:=by
    rw [List.getD_eq_getElem?_getD,List.getElem?_eq_getElem (by omega)];rfl
   rw [e] at this
   exact this
 have:=key a.length 0 (by omega)
 exact d3_ (f:=fun n N=>L n N 0 []) this
abbrev eR_:Nat:=1073741824
theorem eo_ {α γ:Type} (S:Nat→α) (len:Nat) (L:Nat→Nat→Nat→α→Option γ) (v:γ)
  (h1:∀ i,i<len→∀ F,Ev (fun n N=>L n N (i+1) (S (i+1))) F→Ev (fun n N=>L n (N+1) i (S i)) F)
  (h2:Ev (fun n N=>L n (N+1) len (S len)) v):Ev (fun n _=>L n n 0 (S 0)) v:=by
 have key:∀ j i,j+i=len→Ev (fun n N=>L n N i (S i)) v:=by
  intro j
  induction j with
  |zero=>
   intro i hi
   have:i=len:=by omega
   subst this
   exact b4_ h2
  |succ j ih=>exact fun i hi=>b4_ (h1 i (by omega) _ (ih (i+1) (by omega)))
 exact d3_ (f:=fun n N=>L n N 0 (S 0)) (key len 0 (by omega))
theorem cP_ {α:Type} (d:α) {a:List α} {i:Nat} (h:i<a.length):a.take (i+1)=a.take i++[a.getD i d]:=by
 rw [List.take_add_one,List.getD_eq_getElem?_getD,List.getElem?_eq_getElem h];rfl
theorem f6_ {α:Type} (d:α) (P:α→Bool):∀ (rows:List α),f7_ (fun i (x:Int)=>cond (P (rows.getD i d)) (i:Int) x) (-1) rows.length 0=if rows.findIdx P<rows.length then (rows.findIdx P:Int) else -1:=by
 intro rows
 have key:∀ j i,j+i=rows.length→(∀ k,k<i→P (rows.getD k d)=false)→f7_ (fun i (x:Int)=>cond (P (rows.getD i d)) (i:Int) x) (-1) j i=if rows.findIdx P<rows.length then (rows.findIdx P:Int) else -1:=by
  intro j
  induction j with
  |zero=>
   intro i hi hk
   have:¬ rows.findIdx P<rows.length:=by
    intro h
    have h1:=List.findIdx_getElem (w:=h)
    have h2:=hk _ (show rows.findIdx P<i by omega)
    rw [List.getD_eq_getElem?_getD,List.getElem?_eq_getElem h] at h2
    simp only [Option.getD_some] at h2
    rw [h1] at h2;cases h2
   rw [if_neg this];rfl
  |succ j ih=>
   intro i hi hk
   simp only [f7_]
   cases hp:P (rows.getD i d) with
   |true=>
    have hlt:i<rows.length:=by omega
    rw [List.getD_eq_getElem?_getD,List.getElem?_eq_getElem hlt] at hp
    have e:rows.findIdx P=i:=by
     apply Nat.le_antisymm
     · exact Nat.le_of_not_lt fun h=>by have:=List.not_of_lt_findIdx h;rw [Option.getD_some] at hp;rw [hp] at this;cases this
     · exact Nat.le_of_not_lt fun h=>by
        have h2:=hk _ h
        have hl:rows.findIdx P<rows.length:=by omega
        rw [List.getD_eq_getElem?_getD,List.getElem?_eq_getElem hl] at h2
        rw [Option.getD_some,List.findIdx_getElem (w:=hl)] at h2;cases h2
    rw [e,if_pos hlt];rfl
   |false=>
    rw [cond_false]
    exact ih (i+1) (by omega) fun k hk'=>by
     by_cases e:k=i
     · subst e;exact hp
     · exact hk k (by omega)
 exact key rows.length 0 (by omega) fun k hk=>by omega
theorem jw_ {α:Type} {lo hi:Int} {len:Nat} {f:Nat→Nat→Option α} {v:α}:Ev (fun n N=>gI_ lo hi len (f n N)) v↔(0≤lo∧lo≤hi∧hi≤(len:Int))∧Ev f v:=by
 unfold gI_
 simp only [am_,dh_]
 by_cases h1:0≤lo<;>by_cases h2:lo≤hi<;>by_cases h3:hi≤(len:Int)<;>simp [h1,h2,h3]
theorem fg_ {p:Nat→Bool} {len:Nat}:hY_ p len=true↔∀ i,i<len→p i=true:=by
 have key:∀ d i,d+i=len→(hz_ p d i=true↔∀ k,i≤k→k<len→p k=true):=by
  intro d
  induction d with
  |zero=>intro i hi;simp only [hz_,true_iff];intro k h1 h2;omega
  |succ d ih=>
   intro i hi
   simp only [hz_,Bool.and_eq_true,ih (i+1) (by omega)]
   constructor
   · rintro ⟨h1,h2⟩ k h3 h4
     by_cases e:k=i
     · subst e;exact h1
     · exact h2 k (by omega) h4
   · exact fun h=>⟨h i (Nat.le_refl _) (by omega),fun k h1 h2=>h k (by omega) h2⟩
 have:=key len 0 (by omega)
 unfold hY_
 rw [this]
 exact ⟨fun h i hi=>h i (Nat.zero_le _) hi,fun h i _ hi=>h i hi⟩
end Go.Pi
end
section
namespace Go.Pi
section
variable {α β σ:Type}
def Ans (f:Nat→Nat→Option α) (Q:α→Prop):Prop:=∃ v,Ev f v∧Q v
theorem ans_ev {f:Nat→Nat→Option α} {v:α} (h:Ev f v) {Q:α→Prop}:Ans f Q↔Q v :=
 ⟨fun ⟨w,h1,h2⟩=>(dj_ h).1 h1 ▸ h2,fun hq=>⟨v,h,hq⟩⟩
theorem aD_ {v:α} {Q:α→Prop}:Ans (fun _ _=>some v) Q↔Q v:=ans_ev (af_.2 rfl)
theorem qG_ {Q:α→Prop}:Ans (fun _ _=>none) Q↔False :=
 ⟨fun ⟨_,h,_⟩=>dh_.1 h,fun h=>h.elim⟩
theorem bf_ {f:Nat→Nat→Option α} {a:α} (h:Ev f a) {g:Nat→Nat→α→Option β} {Q:β→Prop}:Ans (fun n N=>(f n N).bind (g n N)) Q↔Ans (fun n N=>g n N a) Q:=by
 unfold Ans;simp only [ad_ h]
theorem ax_ {f:Nat→Nat→Option α} {P:α→Prop} (h:Ans f P) {g:Nat→Nat→α→Option β} {Q:β→Prop} (k:∀ v,P v→Ans (fun n N=>g n N v) Q):Ans (fun n N=>(f n N).bind (g n N)) Q:=by
 obtain ⟨v,h1,h2⟩:=h
 exact (bf_ h1).2 (k v h2)
theorem bh_ {c:Bool} {f g:Nat→Nat→Option α} {Q:α→Prop}:Ans (fun n N=>cond c (f n N) (g n N)) Q↔(c=true→Ans f Q)∧(c=false→Ans g Q):=by
 cases c<;>simp
theorem do_ {i:Int} {len:Nat} {f:Nat→Nat→Option α} {Q:α→Prop}:Ans (fun n N=>inB i len (f n N)) Q↔(0≤i∧i<(len:Int))∧Ans f Q:=by
 unfold Ans;simp only [bB_]
 exact ⟨fun ⟨v,⟨h1,h2⟩,h3⟩=>⟨h1,v,h2,h3⟩,fun ⟨h1,v,h2,h3⟩=>⟨v,⟨h1,h2⟩,h3⟩⟩
theorem d4_ {n b:Nat} {f:Nat→Nat→Option α} {Q:α→Prop}:Ans (fun m N=>bq_ n b (f m N)) Q↔n*b≤140737488355328∧Ans f Q:=by
 unfold Ans;simp only [bO_]
 exact ⟨fun ⟨v,⟨h1,h2⟩,h3⟩=>⟨h1,v,h2,h3⟩,fun ⟨h1,v,h2,h3⟩=>⟨v,⟨h1,h2⟩,h3⟩⟩
theorem iV_ {lo hi:Int} {len:Nat} {f:Nat→Nat→Option α} {Q:α→Prop}:Ans (fun n N=>gI_ lo hi len (f n N)) Q↔(0≤lo∧lo≤hi∧hi≤(len:Int))∧Ans f Q:=by
 unfold Ans;simp only [jw_]
 exact ⟨fun ⟨v,⟨h1,h2⟩,h3⟩=>⟨h1,v,h2,h3⟩,fun ⟨h1,v,h2,h3⟩=>⟨v,⟨h1,h2⟩,h3⟩⟩
theorem b5_ {f:Nat→Nat→Option α} {Q:α→Prop} (h:Ans (fun n N=>f (n+1) N) Q):Ans f Q :=
 let ⟨v,h1,h2⟩:=h;⟨v,au_ h1,h2⟩
theorem cg_ {f:Nat→Nat→Option α} {Q:α→Prop} (h:Ans (fun n N=>f n (N+1)) Q):Ans f Q :=
 let ⟨v,h1,h2⟩:=h;⟨v,b4_ h1,h2⟩
theorem d0_ {f:Nat→Nat→Option α} {Q:α→Prop} (h:Ans f Q):Ans (fun n _=>f n n) Q :=
 let ⟨v,h1,h2⟩:=h;⟨v,d3_ h1,h2⟩
theorem ev_ans {f:Nat→Nat→Option α} {v:α} (h:Ans f fun w=>w=v):Ev f v:=let ⟨_,h1,h2⟩:=h;h2 ▸ h1
end
end Go.Pi
end
