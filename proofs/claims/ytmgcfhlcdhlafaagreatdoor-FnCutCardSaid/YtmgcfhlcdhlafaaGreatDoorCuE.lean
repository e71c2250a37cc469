/- FnCut: of a drawn text that is cut into pieces the pieces together are it, each as long as wanted, but at the end. No condition. Text 5 of 8. -/
import Derived.Test.YtmgcfhlcdhlafaaGreatDoorCuD
import Derived.Shelf.RegionOpenPlain
import Derived.WalkKit
import Derived.Deep.RegionLaw
import Derived.Lib.Walk
import Derived.Lib.SliceRun
import Derived.Laws.CopyRow
import Derived.RowKit
import Derived.Lib.Overlaps
import Derived.Lib.AppendZerosOnto
import Derived.Laws.NewBlocks
import Derived.Laws.Externs
import Derived.Shelf.Strings.Search3
import Derived.Shelf.Strconv.AtoiAll
import Derived.Shelf.Strings.Search2
import Derived.Shelf.Strings.OnBuilder
import Derived.Shelf.Strings.Replace
import Derived.Shelf.Strings.Split
import Derived.ChangeArms
import Derived.DataReads
import Derived.ChangeOld
import Derived.Test.YtmgcfhlcdhlafaaGreatDoorRows
import Derived.ProofKit
import Derived.OpenShut
import Derived.JoinedOf
import Derived.JoinedAt
import Derived.ChangeVars
import Derived.ChangeMaps5
import Derived.Test.YtmgcfhlcdhlafaaGreatDoorTie
import Derived.Test.YtmgcfhlcdhlafaaGreatDoorCards
import Derived.IntWalk
set_option linter.unusedVariables false
set_option maxRecDepth 100000
set_option linter.unusedSimpArgs false
namespace Go.Pi
def af_.p (m:M):List Pat:=[.sl m .u8,.i .i64,.i .i64]
abbrev af_.c:Type:=(List Int) × Int × Int × Unit
def af_.of:af_.c->af_:=fun (x0,x1,x2,_)=>⟨x0,x1,x2⟩
def af_.to (s:af_):af_.c:=(s.b,s.i,s.h,())
def aw_.p (m:M):List Pat:=[.s,.b]
abbrev aw_.c:Type:=Bs × Bool × Unit
def aw_.of:aw_.c->aw_:=fun (x0,x1,_)=>⟨x0,x1⟩
def aw_.to (s:aw_):aw_.c:=(s.wait,s.bad,())
def aa_.p (m:M):List Pat:=[.i .i64,.i .i64,.s,.sl m .iJson,.sl m .str]
abbrev aa_.c:Type:=Int × Int × Bs × (List aa_) × (List Bs) × Unit
def aa_.of:aa_.c->aa_:=fun (x0,x1,x2,x3,x4,_)=>⟨x0,x1,x2,x3,x4⟩
def aa_.to (s:aa_):aa_.c:=(s.kind,s.n_,s.s,s.list,s.names,())
def TOp.p (m:M):List Pat:=[.i .i64,.sl m .str,.i .i64,.i .i64,.s,.sl m .iJson,.sl m .str]
abbrev TOp.c:Type:=Int × (List Bs) × Int × Int × Bs × (List aa_) × (List Bs) × Unit
def TOp.of:TOp.c->TOp:=fun (x0,x1,x2,x3,x4,x5,x6,_)=>⟨x0,x1,⟨x2,x3,x4,x5,x6⟩⟩
def TOp.to (s:TOp):TOp.c:=(s.kind,s.way,s.value.kind,s.value.n_,s.value.s,s.value.list,s.value.names,())
def aC_.p (m:M):List Pat:=[.i .i64,.i .i64,.i .i64,.i .i64,.i .i64,.s,.sl m .iJson,.sl m .str,.sl m .iOp]
abbrev aC_.c:Type:=Int × Int × Int × Int × Int × Bs × (List aa_) × (List Bs) × (List TOp) × Unit
def aC_.of:aC_.c->aC_:=fun (x0,x1,x2,x3,x4,x5,x6,x7,x8,_)=>⟨x0,x1,x2,⟨x3,x4,x5,x6,x7⟩,x8⟩
def aC_.to (s:aC_):aC_.c:=(s.kind,s.version,s.base,s.doc.kind,s.doc.n_,s.doc.s,s.doc.list,s.doc.names,s.ops,())
def a1_.p (m:M):List Pat:=[.sl m .int]
abbrev a1_.c:Type:=(List Int) × Unit
def a1_.of:a1_.c->a1_:=fun (x0,_)=>⟨x0⟩
def a1_.to (s:a1_):a1_.c:=(s.cols,())
def TRow.p (m:M):List Pat:=[.i .i64,.sl m .int]
abbrev TRow.c:Type:=Int × (List Int) × Unit
def TRow.of:TRow.c->TRow:=fun (x0,x1,_)=>⟨x0,x1⟩
def TRow.to (s:TRow):TRow.c:=(s.id_,s.cells,())
def ax_.p (m:M):List Pat:=[.sl m .int,.i .i64,.sl m .s_iRow]
abbrev ax_.c:Type:=(List Int) × Int × (List (List TRow)) × Unit
def ax_.of:ax_.c->ax_:=fun (x0,x1,x2,_)=>⟨⟨x0⟩,x1,x2⟩
def ax_.to (s:ax_):ax_.c:=(s.schema.cols,s.version,s.tables,())
def ca_.p (m:M):List Pat:=[.i .i64,.i .i64,.i .i64]
abbrev ca_.c:Type:=Int × Int × Int × Unit
def ca_.of:ca_.c->ca_:=fun (x0,x1,x2,_)=>⟨x0,x1,x2⟩
def ca_.to (s:ca_):ca_.c:=(s.col,s.op,s.v,())
def ay_.p (m:M):List Pat:=[.i .i64,.sl m .iCond,.i .i64,.b,.i .i64,.sl m .int,.b,.i .i64,.i .i64]
abbrev ay_.c:Type:=Int × (List ca_) × Int × Bool × Int × (List Int) × Bool × Int × Int × Unit
def ay_.of:ay_.c->ay_:=fun (x0,x1,x2,x3,x4,x5,x6,x7,x8,_)=>⟨x0,x1,x2,x3,x4,x5,x6,x7,x8⟩
def ay_.to (s:ay_):ay_.c:=(s.table,s.where_,s.order,s.down,s.first,s.show_,s.kids,s.kidTable,s.kidCol,())
def TKid.p (m:M):List Pat:=[.i .i64,.i .i64]
abbrev TKid.c:Type:=Int × Int × Unit
def TKid.of:TKid.c->TKid:=fun (x0,x1,_)=>⟨x0,x1⟩
def TKid.to (s:TKid):TKid.c:=(s.id_,s.n_,())
def bq_.p (m:M):List Pat:=[.i .i64,.sl m .iCond,.i .i64,.b,.i .i64,.sl m .int,.b,.i .i64,.i .i64,.sl m .iRow,.sl m .iKid]
abbrev bq_.c:Type:=Int × (List ca_) × Int × Bool × Int × (List Int) × Bool × Int × Int × (List TRow) × (List TKid) × Unit
def bq_.of:bq_.c->bq_:=fun (x0,x1,x2,x3,x4,x5,x6,x7,x8,x9,x10,_)=>⟨⟨x0,x1,x2,x3,x4,x5,x6,x7,x8⟩,x9,x10⟩
def bq_.to (s:bq_):bq_.c:=(s.q.table,s.q.where_,s.q.order,s.q.down,s.q.first,s.q.show_,s.q.kids,s.q.kidTable,s.q.kidCol,s.rows,s.kids,())
def cw_.p (m:M):List Pat:=[.i .i64,.sl m .iCond,.i .i64,.b,.i .i64,.sl m .int,.b,.i .i64,.i .i64,.sl m .iRow,.sl m .iKid,.i .i64,.i .i64,.sl m .iCond,.i .i64,.b,.i .i64,.sl m .int,.b,.i .i64,.i .i64,.sl m .iRow,.sl m .iKid,.i .i64,.b]
abbrev cw_.c:Type:=Int × (List ca_) × Int × Bool × Int × (List Int) × Bool × Int × Int × (List TRow) × (List TKid) × Int × Int × (List ca_) × Int × Bool × Int × (List Int) × Bool × Int × Int × (List TRow) × (List TKid) × Int × Bool × Unit
def cw_.of:cw_.c->cw_:=fun (x0,x1,x2,x3,x4,x5,x6,x7,x8,x9,x10,x11,x12,x13,x14,x15,x16,x17,x18,x19,x20,x21,x22,x23,x24,_)=>⟨⟨⟨x0,x1,x2,x3,x4,x5,x6,x7,x8⟩,x9,x10⟩,x11,⟨⟨x12,x13,x14,x15,x16,x17,x18,x19,x20⟩,x21,x22⟩,x23,x24⟩
def cw_.to (s:cw_):cw_.c:=(s.view.q.table,s.view.q.where_,s.view.q.order,s.view.q.down,s.view.q.first,s.view.q.show_,s.view.q.kids,s.view.q.kidTable,s.view.q.kidCol,s.view.rows,s.view.kids,s.version,s.last.q.table,s.last.q.where_,s.last.q.order,s.last.q.down,s.last.q.first,s.last.q.show_,s.last.q.kids,s.last.q.kidTable,s.last.q.kidCol,s.last.rows,s.last.kids,s.lastVersion,s.began,())
def TMut.p (m:M):List Pat:=[.i .i64,.i .i64,.i .i64,.sl m .int]
abbrev TMut.c:Type:=Int × Int × Int × (List Int) × Unit
def TMut.of:TMut.c->TMut:=fun (x0,x1,x2,x3,_)=>⟨x0,x1,⟨x2,x3⟩⟩
def TMut.to (s:TMut):TMut.c:=(s.kind,s.table,s.row.id_,s.row.cells,())
def aZ_.p (m:M):List Pat:=[.i .i64,.b,.b,.i .i64,.sl m .int,.i .i64,.sl m .int]
abbrev aZ_.c:Type:=Int × Bool × Bool × Int × (List Int) × Int × (List Int) × Unit
def aZ_.of:aZ_.c->aZ_:=fun (x0,x1,x2,x3,x4,x5,x6,_)=>⟨x0,x1,x2,⟨x3,x4⟩,⟨x5,x6⟩⟩
def aZ_.to (s:aZ_):aZ_.c:=(s.table,s.had,s.has,s.old.id_,s.old.cells,s.new.id_,s.new.cells,())
def aP_.p (m:M):List Pat:=[.s,.b]
abbrev aP_.c:Type:=Bs × Bool × Unit
def aP_.of:aP_.c->aP_:=fun (x0,x1,_)=>⟨x0,x1⟩
def aP_.to (s:aP_):aP_.c:=(s.text,s.bad,())
def a7_.p (m:M):List Pat:=[.s,.i .i64,.b,.i .i64]
abbrev a7_.c:Type:=Bs × Int × Bool × Int × Unit
def a7_.of:a7_.c->a7_:=fun (x0,x1,x2,x3,_)=>⟨x0,x1,x2,x3⟩
def a7_.to (s:a7_):a7_.c:=(s.s,s.at_,s.ok,s.left,())
def rd0:RD:=⟨Bool,[.b],fun (a0,_)=>a0,fun r=>(r,())⟩
def gh_.e:FE:=mkE rd0 8 6 1 [.sl .v .u8] [.tmp 2] [] [] [] (un1 gh_)
def od0:OD:=⟨[(0,.view .u8),(3,.k),(4,.k)],(af_.p .v),[.ext]⟩
def od1:OD:=⟨[(0,.view .u8),(3,.k)],[.sl .v .u8,.i .i64],[.ext]⟩
def rd1:RD:=⟨af_,[.bx (af_.p .v)],fun (a0,_)=>(af_.of a0),fun r=>(af_.to r,())⟩
def cd_.e:FE:=mkE rd1 37 32 1 [.sl .v .u8] [.tmp 2] [] [(4,od0)] [(0,od1)] (un1 cd_)
def rd2:RD:=⟨Int × af_,[.i .i64,.bx (af_.p .v)],fun (a0,a1,_)=>(a0,(af_.of a1)),fun (a0,a1)=>(a0,af_.to a1,())⟩
def dt_.e:FE:=mkE rd2 84 58 2 [.bx (af_.p .v)] [.tmp 2] [.pb 1 0] [] [] fun n (a0,_)=>dt_ n (af_.of a0)
def ao_.e:FE:=mkE rd2 39 37 2 [.bx (af_.p .v),.i .i64] [.tmp 4] [.pb 1 0] [] [] fun n (a0,a1,_)=>ao_ n (af_.of a0) a1
def od2:OD:=⟨[(0,.box [.view .u8,.k,.k]),(3,.own .d .u8),(4,.k)],[.pb 1 0,.rt 2,.i .i64],[.ext,.box (af_.p .v),.arr .d .u8 2]⟩
def od3:OD:=⟨[(3,.own .d .u8)],[.rt 2],[.ext,.box (af_.p .v),.arr .d .u8 2]⟩
def rd3:RD:=⟨(List Int) × af_,[.sl .d .u8,.bx (af_.p .v)],fun (a0,a1,_)=>(a0,(af_.of a1)),fun (a0,a1)=>(a0,af_.to a1,())⟩
def a4_.e:FE:=mkE rd3 66 20 2 [.bx (af_.p .v)] [.tmp 2] [.pb 1 0] [(4,od2)] [(0,od3)] fun n (a0,_)=>a4_ n (af_.of a0)
def bJ_.e:FE:=mkE rd2 81 12 2 [.bx (af_.p .v),.sl .v .int] [.tmp 4] [.pb 1 0] [] [] fun n (a0,a1,_)=>bJ_ n (af_.of a0) a1
def od4:OD:=⟨[(0,.box [.view .u8,.k,.k]),(3,.own .d .int),(4,.k)],[.pb 1 0,.rt 2,.i .i64],[.ext,.box (af_.p .v),.arr .d .int 2]⟩
def od5:OD:=⟨[(3,.own .d .int)],[.rt 2],[.ext,.box (af_.p .v),.arr .d .int 2]⟩
def rd4:RD:=⟨(List Int) × af_,[.sl .d .int,.bx (af_.p .v)],fun (a0,a1,_)=>(a0,(af_.of a1)),fun (a0,a1)=>(a0,af_.to a1,())⟩
def aJ_.e:FE:=mkE rd4 67 19 2 [.bx (af_.p .v)] [.tmp 2] [.pb 1 0] [(4,od4)] [(0,od5)] fun n (a0,_)=>aJ_ n (af_.of a0)
def rd5:RD:=⟨Bs × (List Int),[.s,.sl .d .int],fun (a0,a1,_)=>(a0,a1),fun (a0,a1)=>(a0,a1,())⟩
def dk_.e:FE:=mkE rd5 22 12 1 [.sl .v .u8] [.tmp 2,.tmp 3] [] [] [] (un1 dk_)
def od6:OD:=⟨[(0,.k),(5,.own .d .str),(10,.view .int),(11,.k),(12,.k)],[.s,.rt 1,.sl .v .int,.i .i64,.i .i64],[.ext,.arr .d .str 2]⟩
def od7:OD:=⟨[(0,.k),(5,.own .d .str)],[.s,.rt 1],[.ext,.arr .d .str 2]⟩
def rd6:RD:=⟨(List Bs),[.sl .d .str],fun (a0,_)=>a0,fun r=>(r,())⟩
def b8_.e:FE:=mkE rd6 23 38 1 [.s,.sl .v .int] [.tmp 4] [] [(4,od6)] [(0,od7)] (un2 b8_)
def rd7:RD:=⟨Int,[.i .i64],fun (a0,_)=>a0,fun r=>(r,())⟩
def cL_.e:FE:=mkE rd7 69 10 1 (TKid.p .v) [.tmp 4] [] [] [] (un2 cL_)
def eb_.e:FE:=mkE rd7 68 10 1 (TKid.p .v) [.tmp 4] [] [] [] (un2 eb_)
def od8:OD:=⟨[(0,.k),(1,.view .int),(5,.own .d .str),(6,.k),(7,.k)],[.s,.sl .v .int,.rt 1,.i .i64,.i .i64],[.ext,.arr .d .str 2]⟩
def od9:OD:=⟨[(0,.k),(5,.own .d .str),(6,.k)],[.s,.rt 1,.i .i64],[.ext,.arr .d .str 2]⟩
def bZ_.e:FE:=mkE rd6 24 49 1 [.s,.sl .v .int] [.tmp 4] [] [(5,od8)] [(0,od9)] (un2 bZ_)
def fq_.e:FE:=mkE rd7 25 6 1 [.i .i64] [.tmp 2] [] [] [] (un1 fq_)
def rd8:RD:=⟨Bool × af_,[.b,.bx (af_.p .v)],fun (a0,a1,_)=>(a0,(af_.of a1)),fun (a0,a1)=>(a0,af_.to a1,())⟩
def cD_.e:FE:=mkE rd8 71 9 2 [.bx (af_.p .v),.i .i64] [.tmp 4] [.pb 1 0] [] [] fun n (a0,a1,_)=>cD_ n (af_.of a0) a1
def rd9:RD:=⟨Bs × af_,[.s,.bx (af_.p .v)],fun (a0,a1,_)=>(a0,(af_.of a1)),fun (a0,a1)=>(a0,af_.to a1,())⟩
def dL_.e:FE:=mkE rd9 60 12 2 [.bx (af_.p .v),.sl .v .str] [.tmp 4] [.pb 1 0] [] [] fun n (a0,a1,_)=>dL_ n (af_.of a0) a1
def dg_.e:FE:=mkE rd9 85 6 2 [.bx (af_.p .v)] [.tmp 2] [.pb 1 0] [] [] fun n (a0,_)=>dg_ n (af_.of a0)
def od10:OD:=⟨[(1,.k),(2,.box [.k,.k,.k,.view .iJson,.view .str]),(5,.k)],[.s,.pb 1 0,.i .i64],[.ext,.box (aa_.p .v)]⟩
def kV_:OD:=⟨[],[],[.ext]⟩
def cI_.e:FE:=mkE rd7 86 21 1 [.ag (aa_.p .v),.s] [.tmp 4] [] [(3,od10)] [(0,kV_)] fun n (a0,a1,_)=>cI_ n (aa_.of a0) a1
def od12:OD:=⟨[(1,.k),(3,.box [.k,.k,.k,.view .iJson,.view .str]),(5,.box [.k,.k,.k,.view .iJson,.view .str]),(6,.box [.k,.k,.k,.k,.k]),(7,.box [.k,.k,.k,.own .s .iJson,.own .d .str]),(8,.k),(9,.k)],[.s,.pb 1 0,.pb 2 0,.pb 3 0,.pb 4 0,.b,.i .i64],[.ext,.box (aa_.p .v),.box (aa_.p .v),.box [.i .i64,.i .i64,.s,.nils,.nils],.box [.i .i64,.i .i64,.s,.rt 5,.rt 6],.arr .s .iJson 2,.arr .d .str 2]⟩
def od13:OD:=⟨[(1,.k),(5,.box [.k,.k,.k,.view .iJson,.view .str]),(6,.box [.k,.k,.k,.k,.k]),(7,.box [.k,.k,.k,.own .s .iJson,.own .d .str]),(8,.k)],[.s,.pb 1 0,.pb 2 0,.pb 3 0,.b],[.ext,.box (aa_.p .v),.box [.i .i64,.i .i64,.s,.nils,.nils],.box [.i .i64,.i .i64,.s,.rt 4,.rt 5],.arr .s .iJson 2,.arr .d .str 2]⟩
def rd10:RD:=⟨aa_,[.ag [.i .i64,.i .i64,.s,.sl .s .iJson,.sl .d .str]],fun (a0,_)=>(aa_.of a0),fun r=>(aa_.to r,())⟩
def bP_.e:FE:=mkE rd10 87 83 1 [.ag (aa_.p .v),.s,.ag (aa_.p .v)] [.cell 6 29] [] [(5,od12)] [(0,od13)] fun n (a0,a1,a2,_)=>bP_ n (aa_.of a0) a1 (aa_.of a2)
def od14:OD:=⟨[(0,.box [.view .u8,.k,.k]),(1,.k),(4,.box [.k,.k,.k,.k,.k]),(6,.box [.k,.k,.k,.own .s .iJson,.k]),(7,.k)],[.pb 1 0,.i .i64,.pb 2 0,.pb 3 0,.i .i64],[.ext,.box (af_.p .v),.box [.i .i64,.i .i64,.s,.nils,.nils],.box [.i .i64,.i .i64,.s,.rt 4,.nils],.arr .s .iJson 2]⟩
def od15:OD:=⟨[(0,.box [.view .u8,.k,.k]),(1,.k),(4,.box [.k,.k,.k,.k,.k]),(8,.box [.k,.k,.k,.own .s .iJson,.own .d .str]),(9,.k)],[.pb 1 0,.i .i64,.pb 2 0,.pb 3 0,.i .i64],[.ext,.box (af_.p .v),.box [.i .i64,.i .i64,.s,.nils,.nils],.box [.i .i64,.i .i64,.s,.rt 4,.rt 5],.arr .s .iJson 2,.arr .d .str 2]⟩
def od16:OD:=⟨[(4,.box [.k,.k,.k,.k,.k]),(6,.box [.k,.k,.k,.own .s .iJson,.k])],[.pb 2 0,.pb 3 0],[.ext,.box (af_.p .v),.box [.i .i64,.i .i64,.s,.nils,.nils],.box [.i .i64,.i .i64,.s,.rt 4,.nils],.arr .s .iJson 2]⟩
def od17:OD:=⟨[(4,.box [.k,.k,.k,.k,.k]),(8,.box [.k,.k,.k,.own .s .iJson,.own .d .str])],[.pb 2 0,.pb 3 0],[.ext,.box (af_.p .v),.box [.i .i64,.i .i64,.s,.nils,.nils],.box [.i .i64,.i .i64,.s,.rt 4,.rt 5],.arr .s .iJson 2,.arr .d .str 2]⟩
def rd11:RD:=⟨aa_ × af_,[.ag [.i .i64,.i .i64,.s,.sl .s .iJson,.sl .d .str],.bx (af_.p .v)],fun (a0,a1,_)=>((aa_.of a0),(af_.of a1)),fun (a0,a1)=>(aa_.to a0,af_.to a1,())⟩
def ac_.e:FE:=mkE rd11 40 80 2 [.bx (af_.p .v),.i .i64] [.cell 4 29] [.pb 1 0] [(20,od14),(28,od15)] [(1,od16),(3,od17)] fun n (a0,a1,_)=>ac_ n (af_.of a0) a1
def od18:OD:=⟨[(0,.box [.view .u8,.k,.k]),(2,.box [.k]),(3,.box [.own .d .int]),(4,.k)],[.pb 1 0,.pb 2 0,.pb 3 0,.i .i64],[.ext,.box (af_.p .v),.box [.nils],.box [.rt 4],.arr .d .int 2]⟩
def od19:OD:=⟨[(2,.box [.k]),(3,.box [.own .d .int])],[.pb 2 0,.pb 3 0],[.ext,.box (af_.p .v),.box [.nils],.box [.rt 4],.arr .d .int 2]⟩
def rd12:RD:=⟨a1_ × af_,[.ag [.sl .d .int],.bx (af_.p .v)],fun (a0,a1,_)=>((a1_.of a0),(af_.of a1)),fun (a0,a1)=>(a1_.to a0,af_.to a1,())⟩
def aM_.e:FE:=mkE rd12 115 22 2 [.bx (af_.p .v)] [.cell 2 98] [.pb 1 0] [(4,od18)] [(0,od19)] fun n (a0,_)=>aM_ n (af_.of a0)
def cb_.e:FE:=mkE rd0 91 15 1 (ca_.p .v) [.tmp 6] [] [] [] (un3 cb_)
def od20:OD:=⟨[(1,.box [.view .int]),(3,.k)],[.pb 1 0,.i .i64],[.ext,.box [.sl .v .int]]⟩
def od21:OD:=⟨[(1,.box [.view .int])],[.pb 1 0],[.ext,.box [.sl .v .int]]⟩
def a5_.e:FE:=mkE rd0 160 22 1 [.ag [.sl .v .int]] [.tmp 2] [] [(3,od20)] [(0,od21)] fun n (a0,_)=>a5_ n (a1_.of a0)
def rd13:RD:=⟨a1_,[.ag [.sl .d .int]],fun (a0,_)=>(a1_.of a0),fun r=>(a1_.to r,())⟩
def dx_.e:FE:=mkE rd13 161 8 1 [.ag [.sl .v .int]] [.cell 2 98] [] [] [] fun n (a0,_)=>dx_ n (a1_.of a0)
def rd14:RD:=⟨ax_ × Bool,[.ag (ax_.p .d),.b],fun (a0,a1,_)=>((ax_.of a0),a1),fun (a0,a1)=>(ax_.to a0,a1,())⟩
def dU_.e:FE:=mkE rd14 114 15 1 [.ag [.sl .v .int]] [.cell 2 101,.tmp 3] [] [] [] fun n (a0,_)=>dU_ n (a1_.of a0)
def od22:OD:=⟨[(0,.box [.view .u8,.k,.k]),(1,.k),(4,.box [.k,.k]),(5,.box [.k,.own .d .int]),(6,.k)],[.pb 1 0,.i .i64,.pb 2 0,.pb 3 0,.i .i64],[.ext,.box (af_.p .v),.box [.i .i64,.nils],.box [.i .i64,.rt 4],.arr .d .int 2]⟩
def od23:OD:=⟨[(4,.box [.k,.k]),(5,.box [.k,.own .d .int])],[.pb 2 0,.pb 3 0],[.ext,.box (af_.p .v),.box [.i .i64,.nils],.box [.i .i64,.rt 4],.arr .d .int 2]⟩
def rd15:RD:=⟨TRow × af_,[.ag (TRow.p .d),.bx (af_.p .v)],fun (a0,a1,_)=>((TRow.of a0),(af_.of a1)),fun (a0,a1)=>(TRow.to a0,af_.to a1,())⟩
def bb_.e:FE:=mkE rd15 163 24 2 [.bx (af_.p .v),.i .i64] [.cell 4 173] [.pb 1 0] [(4,od22)] [(0,od23)] fun n (a0,a1,_)=>bb_ n (af_.of a0) a1
def od24:OD:=⟨[(0,.view .iRow),(1,.k),(5,.k)],[.sl .v .iRow,.i .i64,.i .i64],[.ext]⟩
def cm_.e:FE:=mkE rd7 216 20 1 [.sl .v .iRow,.i .i64] [.tmp 4] [] [(3,od24)] [(0,kV_)] (un2 cm_)
def rd16:RD:=⟨TRow,[.ag (TRow.p .d)],fun (a0,_)=>(TRow.of a0),fun r=>(TRow.to r,())⟩
def cC_.e:FE:=mkE rd16 217 10 1 [.ag (TRow.p .v)] [.cell 2 173] [] [] [] fun n (a0,_)=>cC_ n (TRow.of a0)
def od25:OD:=⟨[(0,.view .iRow),(5,.k),(6,.own .d .iRow),(7,.k)],[.sl .v .iRow,.i .i64,.rt 1,.i .i64],[.ext,.arr .d .iRow 2]⟩
def od26:OD:=⟨[(6,.own .d .iRow)],[.rt 1],[.ext,.arr .d .iRow 2]⟩
def rd17:RD:=⟨(List TRow),[.sl .d .iRow],fun (a0,_)=>a0,fun r=>(r,())⟩
def bm_.e:FE:=mkE rd17 215 30 1 [.sl .v .iRow,.i .i64] [.tmp 4] [] [(5,od25)] [(0,od26)] (un2 bm_)
def od27:OD:=⟨[(3,.box [.k,.view .int]),(5,.own .d .iRow),(6,.k),(7,.k)],[.pb 1 0,.rt 2,.i .i64,.i .i64],[.ext,.box (TRow.p .v),.arr .d .iRow 2]⟩
def od28:OD:=⟨[(3,.box [.k,.view .int]),(5,.own .d .iRow),(6,.k)],[.pb 1 0,.rt 2,.i .i64],[.ext,.box (TRow.p .v),.arr .d .iRow 2]⟩
def rd18:RD:=⟨(List TRow),[.sl .s .iRow],fun (a0,_)=>a0,fun r=>(r,())⟩
def bK_.e:FE:=mkE rd18 162 55 1 [.sl .v .iRow,.ag (TRow.p .v)] [.tmp 4] [] [(6,od27)] [(0,od28)] fun n (a0,a1,_)=>bK_ n a0 (TRow.of a1)
def od29:OD:=⟨[(0,.box [.view .u8,.k,.k]),(1,.k),(5,.own .s .iRow),(6,.k)],[.pb 1 0,.i .i64,.rt 2,.i .i64],[.ext,.box (af_.p .v),.arr .s .iRow 2]⟩
def od30:OD:=⟨[(5,.own .s .iRow)],[.rt 2],[.ext,.box (af_.p .v),.arr .s .iRow 2]⟩
def rd19:RD:=⟨(List TRow) × af_,[.sl .s .iRow,.bx (af_.p .v)],fun (a0,a1,_)=>(a0,(af_.of a1)),fun (a0,a1)=>(a0,af_.to a1,())⟩
def a3_.e:FE:=mkE rd19 116 20 2 [.bx (af_.p .v),.i .i64] [.tmp 4] [.pb 1 0] [(4,od29)] [(0,od30)] fun n (a0,a1,_)=>a3_ n (af_.of a0) a1
def od31:OD:=⟨[(0,.box [.view .u8,.k,.k]),(2,.box [.k,.k,.k]),(3,.box [.own .d .int,.k,.own .s .s_iRow]),(5,.k)],[.pb 1 0,.pb 2 0,.pb 3 0,.i .i64],[.ext,.box (af_.p .v),.box [.nils,.i .i64,.nils],.box [.rt 4,.i .i64,.rt 5],.arr .d .int 2,.arr .s .s_iRow 2]⟩
def od32:OD:=⟨[(0,.box [.view .u8,.k,.k]),(2,.box [.k,.k,.k]),(3,.box [.own .d .int,.k,.own .s .s_iRow])],[.pb 1 0,.pb 2 0,.pb 3 0],[.ext,.box (af_.p .v),.box [.nils,.i .i64,.nils],.box [.rt 4,.i .i64,.rt 5],.arr .d .int 2,.arr .s .s_iRow 2]⟩
def rd20:RD:=⟨ax_ × af_,[.ag [.sl .d .int,.i .i64,.sl .s .s_iRow],.bx (af_.p .v)],fun (a0,a1,_)=>((ax_.of a0),(af_.of a1)),fun (a0,a1)=>(ax_.to a0,af_.to a1,())⟩
def aQ_.e:FE:=mkE rd20 74 35 2 [.bx (af_.p .v)] [.cell 2 101] [.pb 1 0] [(4,od31)] [(0,od32)] fun n (a0,_)=>aQ_ n (af_.of a0)
def od33:OD:=⟨[(0,.box [.view .u8,.k,.k]),(3,.box [.view .int]),(4,.box [.k,.k,.k,.k,.k,.k,.k,.k,.k]),(5,.box [.k,.own .d .iCond,.k,.k,.k,.k,.k,.k,.k]),(6,.k),(7,.k)],[.pb 1 0,.pb 2 0,.pb 3 0,.pb 4 0,.i .i64,.i .i64],[.ext,.box (af_.p .v),.box [.sl .v .int],.box [.i .i64,.nils,.i .i64,.b,.i .i64,.nils,.b,.i .i64,.i .i64],.box [.i .i64,.rt 5,.i .i64,.b,.i .i64,.nils,.b,.i .i64,.i .i64],.arr .d .iCond 2]⟩
def od34:OD:=⟨[(0,.box [.view .u8,.k,.k]),(3,.box [.view .int]),(4,.box [.k,.k,.k,.k,.k,.k,.k,.k,.k]),(5,.box [.k,.own .d .iCond,.k,.k,.k,.own .d .int,.k,.k,.k]),(6,.k),(8,.k)],[.pb 1 0,.pb 2 0,.pb 3 0,.pb 4 0,.i .i64,.i .i64],[.ext,.box (af_.p .v),.box [.sl .v .int],.box [.i .i64,.nils,.i .i64,.b,.i .i64,.nils,.b,.i .i64,.i .i64],.box [.i .i64,.rt 5,.i .i64,.b,.i .i64,.rt 6,.b,.i .i64,.i .i64],.arr .d .iCond 2,.arr .d .int 2]⟩
def od35:OD:=⟨[(0,.box [.view .u8,.k,.k]),(3,.box [.view .int]),(4,.box [.k,.k,.k,.k,.k,.k,.k,.k,.k]),(5,.box [.k,.own .d .iCond,.k,.k,.k,.k,.k,.k,.k]),(6,.k)],[.pb 1 0,.pb 2 0,.pb 3 0,.pb 4 0,.i .i64],[.ext,.box (af_.p .v),.box [.sl .v .int],.box [.i .i64,.nils,.i .i64,.b,.i .i64,.nils,.b,.i .i64,.i .i64],.box [.i .i64,.rt 5,.i .i64,.b,.i .i64,.nils,.b,.i .i64,.i .i64],.arr .d .iCond 2]⟩
def od36:OD:=⟨[(0,.box [.view .u8,.k,.k]),(3,.box [.view .int]),(4,.box [.k,.k,.k,.k,.k,.k,.k,.k,.k]),(5,.box [.k,.own .d .iCond,.k,.k,.k,.own .d .int,.k,.k,.k])],[.pb 1 0,.pb 2 0,.pb 3 0,.pb 4 0],[.ext,.box (af_.p .v),.box [.sl .v .int],.box [.i .i64,.nils,.i .i64,.b,.i .i64,.nils,.b,.i .i64,.i .i64],.box [.i .i64,.rt 5,.i .i64,.b,.i .i64,.rt 6,.b,.i .i64,.i .i64],.arr .d .iCond 2,.arr .d .int 2]⟩
def rd21:RD:=⟨ay_ × af_,[.ag (ay_.p .d),.bx (af_.p .v)],fun (a0,a1,_)=>((ay_.of a0),(af_.of a1)),fun (a0,a1)=>(ay_.to a0,af_.to a1,())⟩
def aj_.e:FE:=mkE rd21 76 106 2 [.bx (af_.p .v),.ag [.sl .v .int]] [.cell 4 105] [.pb 1 0] [(7,od33),(16,od34)] [(0,od35),(2,od36)] fun n (a0,a1,_)=>aj_ n (af_.of a0) (a1_.of a1)
def od37:OD:=⟨[(5,.box [.k,.view .int]),(7,.k)],[.pb 1 0,.i .i64],[.ext,.box (TRow.p .v)]⟩
def cq_.e:FE:=mkE rd0 230 51 1 [.ag [.sl .v .int],.i .i64,.ag (TRow.p .v)] [.tmp 6] [] [(6,od37)] [(0,kV_)] fun n (a0,a1,a2,_)=>cq_ n (a1_.of a0) a1 (TRow.of a2)
def od38:OD:=⟨[(1,.k),(2,.view .iRow),(3,.box [.view .int]),(7,.k)],[.i .i64,.sl .v .iRow,.pb 1 0,.i .i64],[.ext,.box [.sl .v .int]]⟩
def od39:OD:=⟨[(1,.k),(2,.view .iRow),(3,.box [.view .int])],[.i .i64,.sl .v .iRow,.pb 1 0],[.ext,.box [.sl .v .int]]⟩
def b7_.e:FE:=mkE rd0 177 55 1 [.ag [.sl .v .int],.i .i64,.sl .v .iRow] [.tmp 6] [] [(3,od38)] [(0,od39)] fun n (a0,a1,a2,_)=>b7_ n (a1_.of a0) a1 a2
def od40:OD:=⟨[(1,.box [.view .int,.k,.view .s_iRow]),(3,.k)],[.pb 1 0,.i .i64],[.ext,.box (ax_.p .v)]⟩
def bD_.e:FE:=mkE rd0 124 41 1 [.ag (ax_.p .v)] [.tmp 2] [] [(6,od40)] [(0,kV_)] fun n (a0,_)=>bD_ n (ax_.of a0)
def od41:OD:=⟨[(2,.box [.view .int]),(3,.box [.k,.view .iCond,.k,.k,.k,.view .int,.k,.k,.k]),(5,.k),(6,.k)],[.pb 1 0,.pb 2 0,.i .i64,.i .i64],[.ext,.box [.sl .v .int],.box (ay_.p .v)]⟩
def od42:OD:=⟨[(2,.box [.view .int]),(3,.box [.k,.view .iCond,.k,.k,.k,.view .int,.k,.k,.k]),(5,.k),(8,.k)],[.pb 1 0,.pb 2 0,.i .i64,.i .i64],[.ext,.box [.sl .v .int],.box (ay_.p .v)]⟩
def od43:OD:=⟨[(2,.box [.view .int]),(3,.box [.k,.view .iCond,.k,.k,.k,.view .int,.k,.k,.k]),(5,.k)],[.pb 1 0,.pb 2 0,.i .i64],[.ext,.box [.sl .v .int],.box (ay_.p .v)]⟩
def aB_.e:FE:=mkE rd0 164 148 1 [.ag [.sl .v .int],.ag (ay_.p .v)] [.tmp 4] [] [(7,od41),(16,od42)] [(0,od43),(2,od43)] fun n (a0,a1,_)=>aB_ n (a1_.of a0) (ay_.of a1)
def rd22:RD:=⟨ay_,[.ag (ay_.p .d)],fun (a0,_)=>(ay_.of a0),fun r=>(ay_.to r,())⟩
def el_.e:FE:=mkE rd22 165 14 1 [.ag (ay_.p .v)] [.cell 2 105] [] [] [] fun n (a0,_)=>el_ n (ay_.of a0)
def dW_.e:FE:=mkE rd0 255 46 1 [.ag (ca_.p .v),.ag (TRow.p .v)] [.tmp 4] [] [] [] fun n (a0,a1,_)=>dW_ n (ca_.of a0) (TRow.of a1)
def od44:OD:=⟨[(2,.box [.k,.view .iCond,.k,.k,.k,.view .int,.k,.k,.k]),(3,.box [.k,.view .int]),(5,.k)],[.pb 1 0,.pb 2 0,.i .i64],[.ext,.box (ay_.p .v),.box (TRow.p .v)]⟩
def bU_.e:FE:=mkE rd0 218 21 1 [.ag (ay_.p .v),.ag (TRow.p .v)] [.tmp 4] [] [(3,od44)] [(0,kV_)] fun n (a0,a1,_)=>bU_ n (ay_.of a0) (TRow.of a1)
def bX_.e:FE:=mkE rd7 231 17 1 [.ag (TRow.p .v),.i .i64] [.tmp 4] [] [] [] fun n (a0,a1,_)=>bX_ n (TRow.of a0) a1
def eI_.e:FE:=mkE rd0 256 36 1 [.ag (ay_.p .v),.ag (TRow.p .v),.ag (TRow.p .v)] [.tmp 6] [] [] [] fun n (a0,a1,a2,_)=>eI_ n (ay_.of a0) (TRow.of a1) (TRow.of a2)
def od45:OD:=⟨[(1,.view .iRow),(3,.box [.k,.view .iCond,.k,.k,.k,.view .int,.k,.k,.k]),(5,.box [.k,.view .int]),(7,.own .s .iRow),(8,.k),(9,.k)],[.sl .v .iRow,.pb 1 0,.pb 2 0,.rt 3,.b,.i .i64],[.ext,.box (ay_.p .v),.box (TRow.p .v),.arr .s .iRow 2]⟩
def od46:OD:=⟨[(5,.box [.k,.view .int]),(7,.own .s .iRow),(8,.k)],[.pb 1 0,.rt 2,.b],[.ext,.box (TRow.p .v),.arr .s .iRow 2]⟩
def bY_.e:FE:=mkE rd18 219 48 1 [.ag (ay_.p .v),.sl .v .iRow,.ag (TRow.p .v)] [.tmp 6] [] [(5,od45)] [(0,od46)] fun n (a0,a1,a2,_)=>bY_ n (ay_.of a0) a1 (TRow.of a2)
def od47:OD:=⟨[(3,.box [.k,.view .iCond,.k,.k,.k,.view .int,.k,.k,.k]),(5,.own .s .iRow),(6,.view .iRow),(7,.k)],[.pb 1 0,.rt 2,.sl .v .iRow,.i .i64],[.ext,.box (ay_.p .v),.arr .s .iRow 2]⟩
def od48:OD:=⟨[(5,.own .s .iRow)],[.rt 1],[.ext,.arr .s .iRow 2]⟩
def bO_.e:FE:=mkE rd18 166 46 1 [.ag (ax_.p .v),.ag (ay_.p .v)] [.tmp 4] [] [(8,od47)] [(0,od48)] fun n (a0,a1,_)=>bO_ n (ax_.of a0) (ay_.of a1)
def od49:OD:=⟨[(0,.view .iKid),(1,.k),(2,.k),(7,.own .d .iKid),(8,.k),(9,.k)],[.sl .v .iKid,.i .i64,.i .i64,.rt 1,.b,.i .i64],[.ext,.arr .d .iKid 2]⟩
def od50:OD:=⟨[(1,.k),(2,.k),(7,.own .d .iKid),(8,.k)],[.i .i64,.i .i64,.rt 1,.b],[.ext,.arr .d .iKid 2]⟩
def rd23:RD:=⟨(List TKid),[.sl .d .iKid],fun (a0,_)=>a0,fun r=>(r,())⟩
def aR_.e:FE:=mkE rd23 167 69 1 [.sl .v .iKid,.i .i64,.i .i64] [.tmp 6] [] [(5,od49)] [(0,od50)] (un3 aR_)
def od51:OD:=⟨[(3,.box [.k,.view .iCond,.k,.k,.k,.view .int,.k,.k,.k]),(4,.box [.k,.k,.k,.k,.k,.k,.k,.k,.k,.k,.k]),(6,.box [.k,.own .d .iCond,.k,.k,.k,.own .d .int,.k,.k,.k,.own .s .iRow,.own .d .iKid]),(7,.view .iRow),(8,.k)],[.pb 1 0,.pb 2 0,.pb 3 0,.sl .v .iRow,.i .i64],[.ext,.box (ay_.p .v),.box [.i .i64,.nils,.i .i64,.b,.i .i64,.nils,.b,.i .i64,.i .i64,.nils,.nils],.box [.i .i64,.rt 4,.i .i64,.b,.i .i64,.rt 5,.b,.i .i64,.i .i64,.rt 6,.rt 7],.arr .d .iCond 2,.arr .d .int 2,.arr .s .iRow 2,.arr .d .iKid 2]⟩
def od52:OD:=⟨[(4,.box [.k,.k,.k,.k,.k,.k,.k,.k,.k,.k,.k]),(6,.box [.k,.own .d .iCond,.k,.k,.k,.own .d .int,.k,.k,.k,.own .s .iRow,.own .d .iKid])],[.pb 1 0,.pb 2 0],[.ext,.box [.i .i64,.nils,.i .i64,.b,.i .i64,.nils,.b,.i .i64,.i .i64,.nils,.nils],.box [.i .i64,.rt 3,.i .i64,.b,.i .i64,.rt 4,.b,.i .i64,.i .i64,.rt 5,.rt 6],.arr .d .iCond 2,.arr .d .int 2,.arr .s .iRow 2,.arr .d .iKid 2]⟩
def rd24:RD:=⟨bq_ × Bool,[.ag [.i .i64,.sl .d .iCond,.i .i64,.b,.i .i64,.sl .d .int,.b,.i .i64,.i .i64,.sl .s .iRow,.sl .d .iKid],.b],fun (a0,a1,_)=>((bq_.of a0),a1),fun (a0,a1)=>(bq_.to a0,a1,())⟩
def b6_.e:FE:=mkE rd24 117 56 1 [.ag (ax_.p .v),.ag (ay_.p .v)] [.cell 4 109,.tmp 5] [] [(8,od51)] [(0,od52)] fun n (a0,a1,_)=>b6_ n (ax_.of a0) (ay_.of a1)
def rd25:RD:=⟨cw_ × Bool,[.ag [.i .i64,.sl .d .iCond,.i .i64,.b,.i .i64,.sl .d .int,.b,.i .i64,.i .i64,.sl .s .iRow,.sl .d .iKid,.i .i64,.i .i64,.sl .d .iCond,.i .i64,.b,.i .i64,.sl .d .int,.b,.i .i64,.i .i64,.sl .d .iRow,.sl .d .iKid,.i .i64,.b],.b],fun (a0,a1,_)=>((cw_.of a0),a1),fun (a0,a1)=>(cw_.to a0,a1,())⟩
def eg_.e:FE:=mkE rd25 75 21 1 [.ag (ax_.p .v),.ag (ay_.p .v)] [.cell 4 111,.tmp 5] [] [] [] fun n (a0,a1,_)=>eg_ n (ax_.of a0) (ay_.of a1)
def od53:OD:=⟨[(0,.view .iRow),(3,.own .d .iRow),(4,.k)],[.sl .v .iRow,.rt 1,.i .i64],[.ext,.arr .d .iRow 2]⟩
def od54:OD:=⟨[(3,.own .d .iRow)],[.rt 1],[.ext,.arr .d .iRow 2]⟩
def b0_.e:FE:=mkE rd17 176 21 1 [.sl .v .iRow] [.tmp 2] [] [(4,od53)] [(0,od54)] (un1 b0_)
def rd26:RD:=⟨bq_,[.ag (bq_.p .d)],fun (a0,_)=>(bq_.of a0),fun r=>(bq_.to r,())⟩
def c2_.e:FE:=mkE rd26 123 14 1 [.ag (bq_.p .v)] [.cell 2 109] [] [] [] fun n (a0,_)=>c2_ n (bq_.of a0)
def rd27:RD:=⟨cw_,[.ag (cw_.p .d)],fun (a0,_)=>(cw_.of a0),fun r=>(cw_.to r,())⟩
def dX_.e:FE:=mkE rd27 118 16 1 [.ag (cw_.p .v)] [.cell 2 111] [] [] [] fun n (a0,_)=>dX_ n (cw_.of a0)
def od55:OD:=⟨[(1,.k),(2,.box [.k,.view .iCond,.k,.k,.k,.view .int,.k,.k,.k,.view .iRow,.view .iKid]),(5,.k)],[.i .i64,.pb 1 0,.i .i64],[.ext,.box (bq_.p .v)]⟩
def cc_.e:FE:=mkE rd7 224 27 1 [.ag (bq_.p .v),.i .i64] [.tmp 4] [] [(3,od55)] [(0,kV_)] fun n (a0,a1,_)=>cc_ n (bq_.of a0) a1
def od56:OD:=⟨[(1,.box [.k,.view .iCond,.k,.k,.k,.view .int,.k,.k,.k,.view .iRow,.view .iKid]),(3,.own .d .int),(4,.k)],[.pb 1 0,.rt 2,.i .i64],[.ext,.box (bq_.p .v),.arr .d .int 2]⟩
def od57:OD:=⟨[(3,.own .d .int)],[.rt 1],[.ext,.arr .d .int 2]⟩
def rd28:RD:=⟨(List Int),[.sl .d .int],fun (a0,_)=>a0,fun r=>(r,())⟩
def bf_.e:FE:=mkE rd28 169 25 1 [.ag (bq_.p .v)] [.tmp 2] [] [(4,od56)] [(0,od57)] fun n (a0,_)=>bf_ n (bq_.of a0)
def dA_.e:FE:=mkE rd7 220 14 1 [.ag (ay_.p .v),.i .i64] [.tmp 4] [] [] [] fun n (a0,a1,_)=>dA_ n (ay_.of a0) a1
def od58:OD:=⟨[(0,.k),(3,.k),(4,.k)],[.i .i64,.b,.s],[.ext]⟩
def od59:OD:=⟨[(3,.k),(4,.k)],[.b,.s],[.ext]⟩
def pk_:RD:=⟨Bs,[.s],fun (a0,_)=>a0,fun r=>(r,())⟩
def aV_.e:FE:=mkE pk_ 51 31 1 [.i .i64] [.tmp 2] [] [(7,od58)] [(0,od59)] (un1 aV_)
def rd30:RD:=⟨aa_,[.ag (aa_.p .d)],fun (a0,_)=>(aa_.of a0),fun r=>(aa_.to r,())⟩
def da_.e:FE:=mkE rd30 223 5 1 [.i .i64] [.cell 2 29] [] [] [] (un1 da_)
def od60:OD:=⟨[(2,.k),(3,.box [.k,.view .iCond,.k,.k,.k,.view .int,.k,.k,.k]),(4,.box [.k,.view .int]),(6,.box [.k,.k,.k,.k,.k]),(7,.box [.k,.k,.k,.own .s .iJson,.own .d .str]),(8,.k)],[.i .i64,.pb 1 0,.pb 2 0,.pb 3 0,.pb 4 0,.i .i64],[.ext,.box (ay_.p .v),.box (TRow.p .v),.box [.i .i64,.i .i64,.s,.nils,.nils],.box [.i .i64,.i .i64,.s,.rt 5,.rt 6],.arr .s .iJson 2,.arr .d .str 2]⟩
def od61:OD:=⟨[(2,.k),(3,.box [.k,.view .iCond,.k,.k,.k,.view .int,.k,.k,.k]),(4,.box [.k,.view .int]),(6,.box [.k,.k,.k,.k,.k]),(7,.box [.k,.k,.k,.own .s .iJson,.own .d .str])],[.i .i64,.pb 1 0,.pb 2 0,.pb 3 0,.pb 4 0],[.ext,.box (ay_.p .v),.box (TRow.p .v),.box [.i .i64,.i .i64,.s,.nils,.nils],.box [.i .i64,.i .i64,.s,.rt 5,.rt 6],.arr .s .iJson 2,.arr .d .str 2]⟩
def bS_.e:FE:=mkE rd10 221 46 1 [.ag (ay_.p .v),.ag (TRow.p .v),.i .i64] [.cell 6 29] [] [(4,od60)] [(0,od61)] fun n (a0,a1,a2,_)=>bS_ n (ay_.of a0) (TRow.of a1) a2
def od62:OD:=⟨[(0,.k),(3,.k)],[.s,.i .i64],[.ext]⟩
def od63:OD:=⟨[(0,.k)],[.s],[.ext]⟩
def b9_.e:FE:=mkE rd0 188 23 1 [.s] [.tmp 2] [] [(3,od62)] [(0,od63)] (un1 b9_)
def od64:OD:=⟨[(1,.box [.k,.k,.k,.view .iJson,.view .str]),(3,.k)],[.pb 1 0,.i .i64],[.ext,.box (aa_.p .v)]⟩
def od65:OD:=⟨[(1,.box [.k,.k,.k,.view .iJson,.view .str])],[.pb 1 0],[.ext,.box (aa_.p .v)]⟩
def ag_.e:FE:=mkE rd0 189 50 1 [.ag (aa_.p .v)] [.tmp 2] [] [(6,od64)] [(0,od65)] fun n (a0,_)=>ag_ n (aa_.of a0)
def od66:OD:=⟨[(1,.k),(2,.box [.k,.k,.k,.view .iJson,.view .str]),(5,.k),(6,.k),(7,.k)],[.i .i64,.pb 1 0,.i .i64,.i .i64,.i .i64],[.ext,.box (aa_.p .v)]⟩
def od67:OD:=⟨[(2,.box [.k,.k,.k,.view .iJson,.view .str]),(5,.k),(6,.k)],[.pb 1 0,.i .i64,.i .i64],[.ext,.box (aa_.p .v)]⟩
def aS_.e:FE:=mkE rd7 134 106 1 [.ag (aa_.p .v),.i .i64] [.tmp 4] [] [(23,od66)] [(1,od67)] fun n (a0,a1,_)=>aS_ n (aa_.of a0) a1
def cW_.e:FE:=mkE rd0 93 6 1 [.ag (aa_.p .v)] [.tmp 2] [] [] [] fun n (a0,_)=>cW_ n (aa_.of a0)
def rd31:RD:=⟨aa_,[.ag (aa_.p .v)],fun (a0,_)=>(aa_.of a0),fun r=>(aa_.to r,())⟩
def dh_.e:FE:=mkE rd31 222 8 1 [.ag (aa_.p .v)] [.cell 2 29] [] [] [] fun n (a0,_)=>dh_ n (aa_.of a0)
def od68:OD:=⟨[(1,.view .iRow),(2,.view .int),(3,.box [.k,.view .iCond,.k,.k,.k,.view .int,.k,.k,.k]),(6,.box [.k,.k,.k,.k,.k]),(7,.box [.k,.k,.k,.own .s .iJson,.k]),(8,.k)],[.sl .v .iRow,.sl .v .int,.pb 1 0,.pb 2 0,.pb 3 0,.i .i64],[.ext,.box (ay_.p .v),.box [.i .i64,.i .i64,.s,.nils,.nils],.box [.i .i64,.i .i64,.s,.rt 4,.nils],.arr .s .iJson 2]⟩
def od69:OD:=⟨[(1,.view .iRow),(6,.box [.k,.k,.k,.k,.k]),(7,.box [.k,.k,.k,.own .s .iJson,.k])],[.sl .v .iRow,.pb 1 0,.pb 2 0],[.ext,.box [.i .i64,.i .i64,.s,.nils,.nils],.box [.i .i64,.i .i64,.s,.rt 3,.nils],.arr .s .iJson 2]⟩
def cn_.e:FE:=mkE rd31 168 47 1 [.ag (ay_.p .v),.sl .v .iRow,.sl .v .int] [.cell 6 29] [] [(4,od68)] [(0,od69)] fun n (a0,a1,a2,_)=>cn_ n (ay_.of a0) a1 a2
def do_.e:FE:=mkE rd31 120 10 1 [.ag (bq_.p .v)] [.cell 2 29] [] [] [] fun n (a0,_)=>do_ n (bq_.of a0)
def od70:OD:=⟨[(2,.box [.k,.k,.k,.view .iJson,.view .str]),(3,.box [.k,.k,.k,.view .iJson,.view .str]),(5,.k)],[.pb 1 0,.pb 2 0,.i .i64],[.ext,.box (aa_.p .v),.box (aa_.p .v)]⟩
def od71:OD:=⟨[(2,.box [.k,.k,.k,.view .iJson,.view .str]),(3,.box [.k,.k,.k,.view .iJson,.view .str]),(6,.k)],[.pb 1 0,.pb 2 0,.i .i64],[.ext,.box (aa_.p .v),.box (aa_.p .v)]⟩
def od72:OD:=⟨[(2,.box [.k,.k,.k,.view .iJson,.view .str]),(3,.box [.k,.k,.k,.view .iJson,.view .str])],[.pb 1 0,.pb 2 0],[.ext,.box (aa_.p .v),.box (aa_.p .v)]⟩
def aq_.e:FE:=mkE rd0 92 81 1 [.ag (aa_.p .v),.ag (aa_.p .v)] [.tmp 4] [] [(6,od70),(14,od71)] [(0,od72),(2,kV_)] fun n (a0,a1,_)=>aq_ n (aa_.of a0) (aa_.of a1)
def dC_.e:FE:=mkE rd0 112 16 1 [.ag (aa_.p .v),.ag (aa_.p .v)] [.tmp 4] [] [] [] fun n (a0,a1,_)=>dC_ n (aa_.of a0) (aa_.of a1)
def eh_.e:FE:=mkE rd0 119 16 1 [.ag (cw_.p .v)] [.tmp 2] [] [] [] fun n (a0,_)=>eh_ n (cw_.of a0)
def od73:OD:=⟨[(0,.view .iCond),(1,.view .iCond),(5,.k)],[.sl .v .iCond,.sl .v .iCond,.i .i64],[.ext]⟩
def od74:OD:=⟨[(0,.view .iCond),(1,.view .iCond)],[.sl .v .iCond,.sl .v .iCond],[.ext]⟩
def bN_.e:FE:=mkE rd0 225 32 1 [.sl .v .iCond,.sl .v .iCond] [.tmp 4] [] [(3,od73)] [(0,od74)] (un2 bN_)
def od75:OD:=⟨[(0,.view .int),(1,.view .int),(5,.k)],[.sl .v .int,.sl .v .int,.i .i64],[.ext]⟩
def od76:OD:=⟨[(0,.view .int),(1,.view .int)],[.sl .v .int,.sl .v .int],[.ext]⟩
def b4_.e:FE:=mkE rd0 226 32 1 [.sl .v .int,.sl .v .int] [.tmp 4] [] [(3,od75)] [(0,od76)] (un2 b4_)
def dB_.e:FE:=mkE rd0 171 66 1 [.ag (ay_.p .v),.ag (ay_.p .v)] [.tmp 4] [] [] [] fun n (a0,a1,_)=>dB_ n (ay_.of a0) (ay_.of a1)
def eX_.e:FE:=mkE rd30 172 11 1 [.i .i64] [.cell 2 29] [] [] [] (un1 eX_)
def eC_.e:FE:=mkE rd31 227 12 1 [.ag (ay_.p .v),.ag (TRow.p .v),.i .i64] [.cell 6 29] [] [] [] fun n (a0,a1,a2,_)=>eC_ n (ay_.of a0) (TRow.of a1) a2
def od77:OD:=⟨[(1,.box [.k,.view .iCond,.k,.k,.k,.view .int,.k,.k,.k,.view .iRow,.view .iKid]),(4,.own .s .iJson),(5,.own .d .int),(6,.k)],[.pb 1 0,.rt 2,.rt 3,.i .i64],[.ext,.box (bq_.p .v),.arr .s .iJson 2,.arr .d .int 2]⟩
def od78:OD:=⟨[(4,.own .s .iJson),(5,.own .d .int)],[.rt 1,.rt 2],[.ext,.arr .s .iJson 2,.arr .d .int 2]⟩
def rd32:RD:=⟨(List aa_) × (List Int),[.sl .s .iJson,.sl .d .int],fun (a0,a1,_)=>(a0,a1),fun (a0,a1)=>(a0,a1,())⟩
def bv_.e:FE:=mkE rd32 173 49 1 [.ag (bq_.p .v)] [.tmp 2,.tmp 3] [] [(5,od77)] [(0,od78)] fun n (a0,_)=>bv_ n (bq_.of a0)
def od79:OD:=⟨[(0,.view .int),(1,.k),(5,.k)],[.sl .v .int,.i .i64,.i .i64],[.ext]⟩
def cB_.e:FE:=mkE rd7 257 19 1 [.sl .v .int,.i .i64] [.tmp 4] [] [(3,od79)] [(0,kV_)] (un2 cB_)
def od80:OD:=⟨[(0,.view .int),(1,.view .iJson),(5,.k)],[.sl .v .int,.sl .v .iJson,.i .i64],[.ext]⟩
def od81:OD:=⟨[(0,.view .int),(1,.view .iJson),(6,.k)],[.sl .v .int,.sl .v .iJson,.i .i64],[.ext]⟩
def od82:OD:=⟨[(0,.view .int),(1,.view .iJson)],[.sl .v .int,.sl .v .iJson],[.ext]⟩
def aL_.e:FE:=mkE rd0 228 39 1 [.sl .v .int,.sl .v .iJson] [.tmp 4] [] [(3,od80),(11,od81)] [(0,od82),(2,od82)] (un2 aL_)
def dc_.e:FE:=mkE rd28 258 15 1 [.sl .v .int,.i .i64] [.tmp 4] [] [] [] (un2 dc_)
def od83:OD:=⟨[(1,.box [.k,.k,.k,.view .iJson,.view .str]),(2,.box [.k,.k,.k,.k,.k]),(3,.box [.k,.k,.k,.own .d .iJson,.own .d .str]),(4,.k)],[.pb 1 0,.pb 2 0,.pb 3 0,.i .i64],[.ext,.box (aa_.p .v),.box [.i .i64,.i .i64,.s,.nils,.nils],.box [.i .i64,.i .i64,.s,.rt 4,.rt 5],.arr .d .iJson 2,.arr .d .str 2]⟩
def od84:OD:=⟨[(2,.box [.k,.k,.k,.k,.k]),(3,.box [.k,.k,.k,.own .d .iJson,.own .d .str])],[.pb 1 0,.pb 2 0],[.ext,.box [.i .i64,.i .i64,.s,.nils,.nils],.box [.i .i64,.i .i64,.s,.rt 3,.rt 4],.arr .d .iJson 2,.arr .d .str 2]⟩
def br_.e:FE:=mkE rd30 46 35 1 [.ag (aa_.p .v)] [.cell 2 29] [] [(4,od83)] [(0,od84)] fun n (a0,_)=>br_ n (aa_.of a0)
def dz_.e:FE:=mkE rd28 259 22 1 [.sl .v .int,.i .i64,.i .i64] [.tmp 6] [] [] [] (un3 dz_)
def od85:OD:=⟨[(0,.view .iJson),(1,.view .int),(2,.view .iJson),(3,.view .int),(9,.own .d .iOp),(10,.own .d .int),(11,.k)],[.sl .v .iJson,.sl .v .int,.sl .v .iJson,.sl .v .int,.rt 1,.rt 2,.i .i64],[.ext,.arr .d .iOp 2,.arr .d .int 2]⟩
def od86:OD:=⟨[(0,.view .iJson),(1,.view .int),(2,.view .iJson),(3,.view .int),(9,.own .d .iOp),(10,.own .d .int),(12,.k)],[.sl .v .iJson,.sl .v .int,.sl .v .iJson,.sl .v .int,.rt 1,.rt 2,.i .i64],[.ext,.arr .d .iOp 2,.arr .d .int 2]⟩
def od87:OD:=⟨[(0,.view .iJson),(1,.view .int),(2,.view .iJson),(3,.view .int),(9,.own .d .iOp),(10,.own .d .int)],[.sl .v .iJson,.sl .v .int,.sl .v .iJson,.sl .v .int,.rt 1,.rt 2],[.ext,.arr .d .iOp 2,.arr .d .int 2]⟩
def od88:OD:=⟨[(9,.own .d .iOp)],[.rt 1],[.ext,.arr .d .iOp 2]⟩
def rd33:RD:=⟨(List TOp),[.sl .d .iOp],fun (a0,_)=>a0,fun r=>(r,())⟩
def aI_.e:FE:=mkE rd33 229 116 1 [.sl .v .iJson,.sl .v .int,.sl .v .iJson,.sl .v .int] [.tmp 8] [] [(5,od85),(13,od86)] [(0,od87),(2,od88)] (un4 aI_)
def e5_.e:FE:=mkE rd33 175 25 1 [.sl .v .iJson,.sl .v .int,.sl .v .iJson,.sl .v .int] [.tmp 8] [] [] [] (un4 e5_)
def od89:OD:=⟨[(0,.k),(1,.view .iOp),(5,.own .d .iOp),(6,.k)],[.s,.sl .v .iOp,.rt 1,.i .i64],[.ext,.arr .d .iOp 2]⟩
def od90:OD:=⟨[(5,.own .d .iOp)],[.rt 1],[.ext,.arr .d .iOp 2]⟩
def ck_.e:FE:=mkE rd33 174 38 1 [.s,.sl .v .iOp] [.tmp 4] [] [(4,od89)] [(0,od90)] (un2 ck_)
def dd_.e:FE:=mkE rd33 122 52 1 [.ag (bq_.p .v),.ag (bq_.p .v)] [.tmp 4] [] [] [] fun n (a0,a1,_)=>dd_ n (bq_.of a0) (bq_.of a1)
def od91:OD:=⟨[(1,.box [.k,.view .str,.k,.k,.k,.view .iJson,.view .str]),(3,.k)],[.pb 1 0,.i .i64],[.ext,.box (TOp.p .v)]⟩
def od92:OD:=⟨[(1,.box [.k,.view .str,.k,.k,.k,.view .iJson,.view .str])],[.pb 1 0],[.ext,.box (TOp.p .v)]⟩
def cy_.e:FE:=mkE rd0 135 43 1 [.ag (TOp.p .v)] [.tmp 2] [] [(6,od91)] [(0,od92)] fun n (a0,_)=>cy_ n (TOp.of a0)
def dn_.e:FE:=mkE rd6 110 2 1 [] [.tmp 0] [] [] [] fun n _=>dn_ n ()
def od93:OD:=⟨[(0,.view .str),(3,.own .d .u8),(4,.k)],[.sl .v .str,.rt 1,.i .i64],[.ext,.arr .d .u8 2]⟩
def od94:OD:=⟨[(0,.view .str),(3,.own .d .u8),(4,.k),(5,.k)],[.sl .v .str,.rt 1,.i .i64,.i .i64],[.ext,.arr .d .u8 2]⟩
def od95:OD:=⟨[(3,.own .d .u8)],[.rt 1],[.ext,.arr .d .u8 2]⟩
def aF_.e:FE:=mkE pk_ 144 52 1 [.sl .v .str] [.tmp 2] [] [(10,od94),(4,od93)] [(0,od95),(2,od93)] (un1 aF_)
def d3_.e:FE:=mkE rd10 99 34 1 [.ag (TOp.p .v)] [.cell 2 29] [] [] [] fun n (a0,_)=>d3_ n (TOp.of a0)
def od96:OD:=⟨[(0,.k),(3,.own .d .u8),(4,.k)],[.s,.rt 1,.i .i64],[.ext,.arr .d .u8 2]⟩
def bz_.e:FE:=mkE pk_ 143 35 1 [.s] [.tmp 2] [] [(4,od96)] [(0,od95)] (un1 bz_)
def od97:OD:=⟨[(1,.box [.k,.k,.k,.view .iJson,.view .str]),(3,.k),(4,.k)],[.pb 1 0,.s,.i .i64],[.ext,.box (aa_.p .v)]⟩
def od98:OD:=⟨[(1,.box [.k,.k,.k,.view .iJson,.view .str]),(3,.k)],[.pb 1 0,.s],[.ext,.box (aa_.p .v)]⟩
def aO_.e:FE:=mkE pk_ 98 64 1 [.ag (aa_.p .v)] [.tmp 2] [] [(17,od97)] [(1,od98)] fun n (a0,_)=>aO_ n (aa_.of a0)
def c3_.e:FE:=mkE pk_ 52 13 1 [.ag (aa_.p .v)] [.tmp 2] [] [] [] fun n (a0,_)=>c3_ n (aa_.of a0)
def od99:OD:=⟨[(0,.view .iOp),(3,.box [.k,.k,.k,.own .s .iJson,.k]),(4,.k)],[.sl .v .iOp,.pb 1 0,.i .i64],[.ext,.box [.i .i64,.i .i64,.s,.rt 2,.nils],.arr .s .iJson 2]⟩
def od100:OD:=⟨[(3,.box [.k,.k,.k,.own .s .iJson,.k])],[.pb 1 0],[.ext,.box [.i .i64,.i .i64,.s,.rt 2,.nils],.arr .s .iJson 2]⟩
def a9_.e:FE:=mkE rd7 170 34 1 [.sl .v .iOp] [.tmp 2] [] [(4,od99)] [(0,od100)] (un1 a9_)
def ef_.e:FE:=mkE rd0 121 27 1 [.ag (bq_.p .v),.ag (bq_.p .v)] [.tmp 4] [] [] [] fun n (a0,a1,_)=>ef_ n (bq_.of a0) (bq_.of a1)
def rd34:RD:=⟨cw_ × aC_ × Bool,[.ag (cw_.p .d),.ag [.i .i64,.i .i64,.i .i64,.i .i64,.i .i64,.s,.sl .v .iJson,.sl .v .str,.sl .d .iOp],.b],fun (a0,a1,a2,_)=>((cw_.of a0),(aC_.of a1),a2),fun (a0,a1,a2)=>(cw_.to a0,aC_.to a1,a2,())⟩
def dj_.e:FE:=mkE rd34 77 49 1 [.ag (cw_.p .v)] [.cell 2 111,.cell 3 35,.tmp 4] [] [] [] fun n (a0,_)=>dj_ n (cw_.of a0)
def rd35:RD:=⟨TMut × af_,[.ag (TMut.p .d),.bx (af_.p .v)],fun (a0,a1,_)=>((TMut.of a0),(af_.of a1)),fun (a0,a1)=>(TMut.to a0,af_.to a1,())⟩
def dy_.e:FE:=mkE rd35 127 102 2 [.bx (af_.p .v),.ag (ax_.p .v)] [.cell 4 179] [.pb 1 0] [] [] fun n (a0,a1,_)=>dy_ n (af_.of a0) (ax_.of a1)
def eY_.e:FE:=mkE rd0 178 43 1 [.ag [.sl .v .int],.ag (TMut.p .v)] [.tmp 4] [] [] [] fun n (a0,a1,_)=>eY_ n (a1_.of a0) (TMut.of a1)
def od101:OD:=⟨[(1,.box [.view .int,.k,.view .s_iRow]),(2,.box [.k,.k,.k]),(3,.box [.own .d .int,.k,.own .d .s_iRow]),(4,.k)],[.pb 1 0,.pb 2 0,.pb 3 0,.i .i64],[.ext,.box (ax_.p .v),.box [.nils,.i .i64,.nils],.box [.rt 4,.i .i64,.rt 5],.arr .d .int 2,.arr .d .s_iRow 2]⟩
def od102:OD:=⟨[(2,.box [.k,.k,.k]),(3,.box [.own .d .int,.k,.own .d .s_iRow])],[.pb 1 0,.pb 2 0],[.ext,.box [.nils,.i .i64,.nils],.box [.rt 3,.i .i64,.rt 4],.arr .d .int 2,.arr .d .s_iRow 2]⟩
def rd36:RD:=⟨ax_,[.ag (ax_.p .d)],fun (a0,_)=>(ax_.of a0),fun r=>(ax_.to r,())⟩
def bA_.e:FE:=mkE rd36 125 30 1 [.ag (ax_.p .v)] [.cell 2 101] [] [(4,od101)] [(0,od102)] fun n (a0,_)=>bA_ n (ax_.of a0)
def rd37:RD:=⟨ax_ × aZ_ × Bool,[.ag [.sl .d .int,.i .i64,.sl .s .s_iRow],.ag (aZ_.p .d),.b],fun (a0,a1,a2,_)=>((ax_.of a0),(aZ_.of a1),a2),fun (a0,a1,a2)=>(ax_.to a0,aZ_.to a1,a2,())⟩
def fk_.e:FE:=mkE rd37 179 82 3 [.ag [.sl .d .int,.i .i64,.sl .s .s_iRow],.ag (TMut.p .v)] [.cell 4 101,.cell 5 175,.tmp 6] [] [] [] fun n (a0,a1,_)=>fk_ n (ax_.of a0) (TMut.of a1)
def eH_.e:FE:=mkE rd37 126 38 1 [.ag (ax_.p .v),.ag (TMut.p .v)] [.cell 4 101,.cell 5 175,.tmp 6] [] [] [] fun n (a0,a1,_)=>eH_ n (ax_.of a0) (TMut.of a1)
def od103:OD:=⟨[(0,.box [.view .u8,.k,.k]),(5,.box [.view .int,.k,.view .s_iRow]),(6,.own .s .iMut),(7,.k)],[.pb 1 0,.pb 2 0,.rt 3,.i .i64],[.ext,.box (af_.p .v),.box (ax_.p .v),.arr .s .iMut 2]⟩
def od104:OD:=⟨[(0,.box [.view .u8,.k,.k]),(5,.box [.view .int,.k,.view .s_iRow]),(6,.own .s .iMut),(7,.k),(8,.box [.k,.k,.k,.view .int])],[.pb 1 0,.pb 2 0,.rt 3,.i .i64,.pb 4 0],[.ext,.box (af_.p .v),.box (ax_.p .v),.arr .s .iMut 2,.box (TMut.p .v)]⟩
def od105:OD:=⟨[(6,.own .s .iMut)],[.rt 2],[.ext,.box (af_.p .v),.arr .s .iMut 2]⟩
def rd38:RD:=⟨(List TMut) × af_,[.sl .s .iMut,.bx (af_.p .v)],fun (a0,a1,_)=>(a0,(af_.of a1)),fun (a0,a1)=>(a0,af_.to a1,())⟩
def aD_.e:FE:=⟨_,⟨79,43,2,[.bx (af_.p .v),.ag (ax_.p .v)],rd38.rp,rd38.toR,rd38.ofR,[.ptr [.v,.v,.v],.ag [.v,.v,.v]],[.o,.ptr [.v,.v,.v]],[.own .s .iMut,.box [.view .u8,.k,.k]],[.tmp 4],[.pb 1 0],[(9,od104),(5,od103)],[(9,od103)],[(0,od105)]⟩,fun _=>true,fun n (a0,a1,_)=>aD_ n (af_.of a0) (ax_.of a1)⟩
def od106:OD:=⟨[(1,.view .iMut),(2,.box [.view .int,.k,.view .s_iRow]),(4,.box [.k,.k,.k]),(7,.own .d .iChange),(8,.box [.own .d .int,.k,.own .s .s_iRow]),(9,.own .d .iChange),(10,.k)],[.sl .v .iMut,.pb 1 0,.pb 2 0,.rt 3,.pb 4 0,.rt 5,.i .i64],[.ext,.box (ax_.p .v),.box [.nils,.i .i64,.nils],.arr .d .iChange 2,.box [.rt 6,.i .i64,.rt 7],.arr .d .iChange 2,.arr .d .int 2,.arr .s .s_iRow 2]⟩
def od107:OD:=⟨[(2,.box [.view .int,.k,.view .s_iRow]),(4,.box [.k,.k,.k]),(8,.box [.own .d .int,.k,.own .s .s_iRow]),(9,.own .d .iChange)],[.pb 1 0,.pb 2 0,.pb 3 0,.rt 4],[.ext,.box (ax_.p .v),.box [.nils,.i .i64,.nils],.box [.rt 5,.i .i64,.rt 6],.arr .d .iChange 2,.arr .d .int 2,.arr .s .s_iRow 2]⟩
def rd39:RD:=⟨ax_ × (List aZ_) × Bool,[.ag [.sl .d .int,.i .i64,.sl .s .s_iRow],.sl .d .iChange,.b],fun (a0,a1,a2,_)=>((ax_.of a0),a1,a2),fun (a0,a1,a2)=>(ax_.to a0,a1,a2,())⟩
def bF_.e:FE:=mkE rd39 78 67 1 [.ag (ax_.p .v),.sl .v .iMut] [.cell 4 101,.tmp 5,.tmp 6] [] [(12,od106)] [(0,od107)] fun n (a0,a1,_)=>bF_ n (ax_.of a0) a1
def rd40:RD:=⟨bq_,[.ag [.i .i64,.sl .d .iCond,.i .i64,.b,.i .i64,.sl .d .int,.b,.i .i64,.i .i64,.sl .s .iRow,.sl .d .iKid]],fun (a0,_)=>(bq_.of a0),fun r=>(bq_.to r,())⟩
def di_.e:FE:=mkE rd40 180 76 1 [.ag (bq_.p .v),.ag (aZ_.p .v)] [.cell 4 109] [] [] [] fun n (a0,a1,_)=>di_ n (bq_.of a0) (aZ_.of a1)
def od108:OD:=⟨[(1,.view .iChange),(4,.box [.k,.k,.k,.k,.k,.k,.k,.k,.k,.k,.k]),(5,.box [.k,.own .d .iCond,.k,.k,.k,.own .d .int,.k,.k,.k,.own .s .iRow,.own .d .iKid]),(6,.k)],[.sl .v .iChange,.pb 1 0,.pb 2 0,.i .i64],[.ext,.box [.i .i64,.nils,.i .i64,.b,.i .i64,.nils,.b,.i .i64,.i .i64,.nils,.nils],.box [.i .i64,.rt 3,.i .i64,.b,.i .i64,.rt 4,.b,.i .i64,.i .i64,.rt 5,.rt 6],.arr .d .iCond 2,.arr .d .int 2,.arr .s .iRow 2,.arr .d .iKid 2]⟩
def od109:OD:=⟨[(4,.box [.k,.k,.k,.k,.k,.k,.k,.k,.k,.k,.k]),(5,.box [.k,.own .d .iCond,.k,.k,.k,.own .d .int,.k,.k,.k,.own .s .iRow,.own .d .iKid])],[.pb 1 0,.pb 2 0],[.ext,.box [.i .i64,.nils,.i .i64,.b,.i .i64,.nils,.b,.i .i64,.i .i64,.nils,.nils],.box [.i .i64,.rt 3,.i .i64,.b,.i .i64,.rt 4,.b,.i .i64,.i .i64,.rt 5,.rt 6],.arr .d .iCond 2,.arr .d .int 2,.arr .s .iRow 2,.arr .d .iKid 2]⟩
def aU_.e:FE:=mkE rd40 128 22 1 [.ag (bq_.p .v),.sl .v .iChange] [.cell 4 109] [] [(4,od108)] [(0,od109)] fun n (a0,a1,_)=>aU_ n (bq_.of a0) a1
def rd41:RD:=⟨cw_,[.ag [.i .i64,.sl .d .iCond,.i .i64,.b,.i .i64,.sl .d .int,.b,.i .i64,.i .i64,.sl .s .iRow,.sl .d .iKid,.i .i64,.i .i64,.sl .d .iCond,.i .i64,.b,.i .i64,.sl .d .int,.b,.i .i64,.i .i64,.sl .d .iRow,.sl .d .iKid,.i .i64,.b]],fun (a0,_)=>(cw_.of a0),fun r=>(cw_.to r,())⟩
def d2_.e:FE:=mkE rd41 80 18 1 [.ag (cw_.p .v),.sl .v .iChange] [.cell 4 111] [] [] [] fun n (a0,a1,_)=>d2_ n (cw_.of a0) a1
def od110:OD:=⟨[(0,.box [.view .u8,.k,.k]),(2,.box [.k,.k,.k]),(3,.box [.k,.k,.k,.k,.k,.k,.k,.k,.k,.k,.k,.k,.k,.k,.k,.k,.k,.k,.k,.k,.k,.k,.k,.k,.k]),(4,.box [.view .int,.k,.view .s_iRow])],[.pb 1 0,.pb 2 0,.pb 3 0,.pb 4 0],[.ext,.box (af_.p .v),.box [.nils,.i .i64,.nils],.box [.i .i64,.nils,.i .i64,.b,.i .i64,.nils,.b,.i .i64,.i .i64,.nils,.nils,.i .i64,.i .i64,.nils,.i .i64,.b,.i .i64,.nils,.b,.i .i64,.i .i64,.nils,.nils,.i .i64,.b],.box (ax_.p .v)]⟩
def od111:OD:=⟨[(0,.box [.view .u8,.k,.k]),(2,.box [.k,.k,.k]),(3,.box [.k,.k,.k,.k,.k,.k,.k,.k,.k,.k,.k,.k,.k,.k,.k,.k,.k,.k,.k,.k,.k,.k,.k,.k,.k]),(4,.box [.view .int,.k,.view .s_iRow]),(5,.box [.k,.view .iCond,.k,.k,.k,.view .int,.k,.k,.k,.view .iRow,.view .iKid,.k,.k,.view .iCond,.k,.k,.k,.view .int,.k,.k,.k,.view .iRow,.view .iKid,.k,.k]),(7,.k)],[.pb 1 0,.pb 2 0,.pb 3 0,.pb 4 0,.pb 5 0,.i .i64],[.ext,.box (af_.p .v),.box [.nils,.i .i64,.nils],.box [.i .i64,.nils,.i .i64,.b,.i .i64,.nils,.b,.i .i64,.i .i64,.nils,.nils,.i .i64,.i .i64,.nils,.i .i64,.b,.i .i64,.nils,.b,.i .i64,.i .i64,.nils,.nils,.i .i64,.b],.box (ax_.p .v),.box (cw_.p .v)]⟩
def od112:OD:=⟨[(0,.box [.view .u8,.k,.k]),(2,.box [.k,.k,.k]),(3,.box [.k,.k,.k,.k,.k,.k,.k,.k,.k,.k,.k,.k,.k,.k,.k,.k,.k,.k,.k,.k,.k,.k,.k,.k,.k]),(4,.box [.view .int,.k,.view .s_iRow]),(5,.box [.k,.view .iCond,.k,.k,.k,.view .int,.k,.k,.k,.view .iRow,.view .iKid,.k,.k,.view .iCond,.k,.k,.k,.view .int,.k,.k,.k,.view .iRow,.view .iKid,.k,.k]),(7,.k),(29,.k)],[.pb 1 0,.pb 2 0,.pb 3 0,.pb 4 0,.pb 5 0,.i .i64,.b],[.ext,.box (af_.p .v),.box [.nils,.i .i64,.nils],.box [.i .i64,.nils,.i .i64,.b,.i .i64,.nils,.b,.i .i64,.i .i64,.nils,.nils,.i .i64,.i .i64,.nils,.i .i64,.b,.i .i64,.nils,.b,.i .i64,.i .i64,.nils,.nils,.i .i64,.b],.box (ax_.p .v),.box (cw_.p .v)]⟩
def od113:OD:=⟨[(2,.box [.k,.k,.k]),(3,.box [.k,.k,.k,.k,.k,.k,.k,.k,.k,.k,.k,.k,.k,.k,.k,.k,.k,.k,.k,.k,.k,.k,.k,.k,.k]),(4,.box [.view .int,.k,.view .s_iRow]),(5,.box [.k,.view .iCond,.k,.k,.k,.view .int,.k,.k,.k,.view .iRow,.view .iKid,.k,.k,.view .iCond,.k,.k,.k,.view .int,.k,.k,.k,.view .iRow,.view .iKid,.k,.k])],[.pb 2 0,.pb 3 0,.pb 4 0,.pb 5 0],[.ext,.box (af_.p .v),.box [.nils,.i .i64,.nils],.box [.i .i64,.nils,.i .i64,.b,.i .i64,.nils,.b,.i .i64,.i .i64,.nils,.nils,.i .i64,.i .i64,.nils,.i .i64,.b,.i .i64,.nils,.b,.i .i64,.i .i64,.nils,.nils,.i .i64,.b],.box (ax_.p .v),.box (cw_.p .v)]⟩
def rd42:RD:=⟨ax_ × cw_ × af_,[.ag (ax_.p .v),.ag (cw_.p .v),.bx (af_.p .v)],fun (a0,a1,a2,_)=>((ax_.of a0),(cw_.of a1),(af_.of a2)),fun (a0,a1,a2)=>(ax_.to a0,cw_.to a1,af_.to a2,())⟩
def as_.e:FE:=⟨_,⟨106,52,2,[.bx (af_.p .v)],rd42.rp,rd42.toR,rd42.ofR,[.ptr [.v,.v,.v]],[.ag [.v,.v,.v],.ag [.v,.v,.v,.v,.v,.v,.v,.v,.v,.v,.v,.v,.v,.v,.v,.v,.v,.v,.v,.v,.v,.v,.v,.v,.v],.ptr [.v,.v,.v]],[.ag [.view .int,.k,.view .s_iRow],.ag [.k,.view .iCond,.k,.k,.k,.view .int,.k,.k,.k,.view .iRow,.view .iKid,.k,.k,.view .iCond,.k,.k,.k,.view .int,.k,.k,.k,.view .iRow,.view .iKid,.k,.k],.box [.view .u8,.k,.k]],[.cell 2 101,.cell 3 111],[.pb 1 0],[(10,od112),(5,od111),(1,od110)],[(10,od111)],[(0,od113)]⟩,fun _=>true,fun n (a0,_)=>as_ n (af_.of a0)⟩
def rd43:RD:=⟨aC_ × af_,[.ag [.i .i64,.i .i64,.i .i64,.i .i64,.i .i64,.s,.sl .v .iJson,.sl .v .str,.sl .d .iOp],.bx (af_.p .v)],fun (a0,a1,_)=>((aC_.of a0),(af_.of a1)),fun (a0,a1)=>(aC_.to a0,af_.to a1,())⟩
def c7_.e:FE:=mkE rd43 59 30 2 [.bx (af_.p .v)] [.cell 2 35] [.pb 1 0] [] [] fun n (a0,_)=>c7_ n (af_.of a0)
def od114:OD:=⟨[(0,.view .iOp),(2,.box [.k,.k,.k,.k,.k]),(4,.box [.k,.k,.k,.own .s .iJson,.k]),(5,.k)],[.sl .v .iOp,.pb 1 0,.pb 2 0,.i .i64],[.ext,.box [.i .i64,.i .i64,.s,.nils,.nils],.box [.i .i64,.i .i64,.s,.rt 3,.nils],.arr .s .iJson 2]⟩
def od115:OD:=⟨[(0,.view .iOp),(2,.box [.k,.k,.k,.k,.k]),(4,.box [.k,.k,.k,.own .s .iJson,.k])],[.sl .v .iOp,.pb 1 0,.pb 2 0],[.ext,.box [.i .i64,.i .i64,.s,.nils,.nils],.box [.i .i64,.i .i64,.s,.rt 3,.nils],.arr .s .iJson 2]⟩
def rd44:RD:=⟨aa_ × Bool,[.ag [.i .i64,.i .i64,.s,.sl .s .iJson,.sl .d .str],.b],fun (a0,a1,_)=>((aa_.of a0),a1),fun (a0,a1)=>(aa_.to a0,a1,())⟩
def bR_.e:FE:=mkE rd44 53 38 1 [.sl .v .iOp] [.cell 2 29,.tmp 3] [] [(4,od114)] [(0,od115)] (un1 bR_)
def ei_.e:FE:=mkE rd0 45 51 1 [.ag (aC_.p .v)] [.tmp 2] [] [] [] fun n (a0,_)=>ei_ n (aC_.of a0)
def de_.e:FE:=mkE pk_ 17 43 1 [.ag (aC_.p .v)] [.tmp 2] [] [] [] fun n (a0,_)=>de_ n (aC_.of a0)
def od116:OD:=⟨[(0,.box [.view .u8,.k,.k]),(3,.k),(4,.k)],[.pb 1 0,.s,.i .i64],[.ext,.box (af_.p .v)]⟩
def od117:OD:=⟨[(3,.k)],[.s],[.ext,.box (af_.p .v)]⟩
def aT_.e:FE:=mkE rd9 70 17 2 [.bx (af_.p .v)] [.tmp 2] [.pb 1 0] [(4,od116)] [(0,od117)] fun n (a0,_)=>aT_ n (af_.of a0)
def od118:OD:=⟨[(2,.box [.k,.k]),(4,.box [.view .u8,.k,.k]),(5,.k),(7,.box [.k,.k])],[.pb 1 0,.pb 2 0,.s,.pb 3 0],[.ext,.box (aw_.p .v),.box (af_.p .v),.box (aw_.p .v)]⟩
def od119:OD:=⟨[(2,.box [.k,.k]),(5,.k),(7,.box [.k,.k])],[.pb 1 0,.s,.pb 2 0],[.ext,.box (aw_.p .v),.box (aw_.p .v)]⟩
def rd45:RD:=⟨aw_ × Bs,[.ag (aw_.p .v),.s],fun (a0,a1,_)=>((aw_.of a0),a1),fun (a0,a1)=>(aw_.to a0,a1,())⟩
def bu_.e:FE:=mkE rd45 29 52 1 [.sl .v .u8] [.cell 2 51,.tmp 3] [] [(11,od118)] [(1,od119)] (un1 bu_)
def rd46:RD:=⟨aw_ × (List Bs),[.ag (aw_.p .v),.sl .d .str],fun (a0,a1,_)=>((aw_.of a0),a1),fun (a0,a1)=>(aw_.to a0,a1,())⟩
def c5_.e:FE:=mkE rd46 26 17 1 [.sl .v .u8] [.cell 2 51,.tmp 3] [] [] [] (un1 c5_)
def strings_Index.e:FE:=mkE rd7 72 8 1 [.s,.s] [.tmp 4] [] [] [] (un2 strings_Index)
def bn_.e:FE:=mkE rd0 197 18 1 [.s,.s] [.tmp 4] [] [] [] (un2 bn_)
def rd47:RD:=⟨Bs × Bool,(aw_.p .v),fun (a0,a1,_)=>(a0,a1),fun (a0,a1)=>(a0,a1,())⟩
def bV_.e:FE:=mkE rd47 145 15 1 [.s,.s] [.tmp 4,.tmp 5] [] [] [] (un2 bV_)
def cS_.e:FE:=mkE rd47 100 11 1 [.s,.s] [.tmp 4,.tmp 5] [] [] [] (un2 cS_)
def ce_.e:FE:=mkE rd7 113 143 1 [.s,.s] [.tmp 4] [] [] [] (un2 ce_)
def rd48:RD:=⟨Bs × Bs × Bool,[.s,.s,.b],fun (a0,a1,a2,_)=>(a0,a1,a2),fun (a0,a1,a2)=>(a0,a1,a2,())⟩
def cr_.e:FE:=mkE rd48 198 23 1 [.s,.s] [.tmp 4,.tmp 5,.tmp 6] [] [] [] (un2 cr_)
def eB_.e:FE:=mkE rd48 146 13 1 [.s,.s] [.tmp 4,.tmp 5,.tmp 6] [] [] [] (un2 eB_)
def bL_.e:FE:=mkE pk_ 150 13 1 [.s,.s] [.tmp 4] [] [] [] (un2 bL_)
def cN_.e:FE:=mkE pk_ 104 8 1 [.s,.s] [.tmp 4] [] [] [] (un2 cN_)
def rd49:RD:=⟨Bs × Bs,[.s,.s],fun (a0,a1,_)=>(a0,a1),fun (a0,a1)=>(a0,a1,())⟩
def dv_.e:FE:=mkE rd49 101 19 1 [.s,.s] [.tmp 4,.tmp 5] [] [] [] (un2 dv_)
def rd50:RD:=⟨Int × Bool,[.i .i64,.er],fun (a0,a1,_)=>(a0,a1),fun (a0,a1)=>(a0,a1,())⟩
def cV_.e:FE:=mkE rd50 102 18 1 [.s] [.tmp 2,.tmp 3] [] [] [] (un1 cV_)
def rd51:RD:=⟨Bool × aP_,[.b,.bx (aw_.p .v)],fun (a0,a1,_)=>(a0,(aP_.of a1)),fun (a0,a1)=>(a0,aP_.to a1,())⟩
def bx_.e:FE:=mkE rd51 204 28 2 [.bx (aw_.p .v),.s] [.tmp 4] [.pb 1 0] [] [] fun n (a0,a1,_)=>bx_ n (aP_.of a0) a1
def c6_.e:FE:=mkE rd0 205 8 1 [.s,.s] [.tmp 4] [] [] [] (un2 c6_)
def rd52:RD:=⟨aP_,[.bx (aw_.p .v)],fun (a0,_)=>(aP_.of a0),fun r=>(aP_.to r,())⟩
def ct_.e:FE:=mkE rd52 253 11 2 [.bx (aw_.p .v),.s] [] [.pb 1 0] [] [] fun n (a0,a1,_)=>ct_ n (aP_.of a0) a1
def od120:OD:=⟨[(0,.box [.k,.k]),(3,.own .d .u8)],[.pb 1 0,.rt 2],[.ext,.box (aw_.p .v),.arr .d .u8 2]⟩
def od121:OD:=⟨[],[],[.ext,.box (aw_.p .v)]⟩
def rd53:RD:=⟨Bs × aP_,[.s,.bx (aw_.p .v)],fun (a0,a1,_)=>(a0,(aP_.of a1)),fun (a0,a1)=>(a0,aP_.to a1,())⟩
def av_.e:FE:=mkE rd53 206 42 2 [.bx (aw_.p .v)] [.tmp 2] [.pb 1 0] [(4,od120)] [(0,od121)] fun n (a0,_)=>av_ n (aP_.of a0)
def od122:OD:=⟨[(0,.box [.k,.k]),(1,.k),(2,.k),(3,.k),(8,.box [.k,.k,.k,.k,.k]),(9,.box [.k,.k,.k,.own .d .iJson,.own .d .str]),(10,.k)],[.pb 1 0,.i .i64,.s,.i .i64,.pb 2 0,.pb 3 0,.b],[.ext,.box (aw_.p .v),.box [.i .i64,.i .i64,.s,.nils,.nils],.box [.i .i64,.i .i64,.s,.rt 4,.rt 5],.arr .d .iJson 2,.arr .d .str 2]⟩
def od123:OD:=⟨[(0,.box [.k,.k]),(2,.k),(8,.box [.k,.k,.k,.k,.k]),(9,.box [.k,.k,.k,.own .d .iJson,.own .d .str])],[.pb 1 0,.s,.pb 2 0,.pb 3 0],[.ext,.box (aw_.p .v),.box [.i .i64,.i .i64,.s,.nils,.nils],.box [.i .i64,.i .i64,.s,.rt 4,.rt 5],.arr .d .iJson 2,.arr .d .str 2]⟩
def rd54:RD:=⟨aa_ × aP_,[.ag (aa_.p .d),.bx (aw_.p .v)],fun (a0,a1,_)=>((aa_.of a0),(aP_.of a1)),fun (a0,a1)=>(aa_.to a0,aP_.to a1,())⟩
def an_.e:FE:=mkE rd54 207 55 2 [.bx (aw_.p .v),.i .i64,.s,.i .i64] [.cell 8 29] [.pb 1 0] [(7,od122)] [(0,od123)] fun n (a0,a1,a2,a3,_)=>an_ n (aP_.of a0) a1 a2 a3
def aN_.e:FE:=mkE rd0 55 15 1 (ca_.p .v) [.tmp 6] [] [] [] (un3 aN_)
def od124:OD:=⟨[(0,.box [.k,.k]),(2,.box [.k,.k,.k,.k,.k]),(3,.k)],[.pb 1 0,.pb 2 0,.i .i64],[.ext,.box (aw_.p .v),.box [.i .i64,.i .i64,.s,.nils,.nils]]⟩
def ap_.e:FE:=mkE rd54 208 63 2 [.bx (aw_.p .v)] [.cell 2 29] [.pb 1 0] [(3,od124)] [(0,od124)] fun n (a0,_)=>ap_ n (aP_.of a0)
def a2_.e:FE:=mkE rd54 149 54 2 [.bx (aw_.p .v),.i .i64] [.cell 4 29] [.pb 1 0] [] [] fun n (a0,a1,_)=>a2_ n (aP_.of a0) a1
def bp_.e:FE:=mkE rd0 233 5 1 [.i .i64] [.tmp 2] [] [] [] (un1 bp_)
def od125:OD:=⟨[(0,.k),(5,.k),(6,.k)],[.s,.i .i64,.i .i64],[.ext]⟩
def aA_.e:FE:=mkE rd0 183 19 1 [.s] [.tmp 2] [] [(3,od125)] [(0,od63)] (un1 aA_)
def od126:OD:=⟨[(0,.view .str),(5,.view .str),(6,.k),(7,.k)],[.sl .v .str,.sl .v .str,.i .i64,.i .i64],[.ext]⟩
def au_.e:FE:=mkE rd0 234 29 1 [.sl .v .str] [.tmp 2] [] [(3,od126)] [(0,kV_)] (un1 au_)
def e0_.e:FE:=mkE rd0 182 90 1 [.ag (aa_.p .v)] [.tmp 2] [] [] [] fun n (a0,_)=>e0_ n (aa_.of a0)
def od127:OD:=⟨[(1,.k),(5,.k),(16,.view .iJson),(17,.k),(18,.k)],[.i .i64,.i .i64,.sl .v .iJson,.i .i64,.i .i64],[.ext]⟩
def od128:OD:=⟨[(5,.k)],[.i .i64],[.ext]⟩
def bM_.e:FE:=mkE rd7 131 32 1 [.ag (aa_.p .v),.i .i64] [.tmp 4] [] [(7,od127)] [(0,od128)] fun n (a0,a1,_)=>bM_ n (aa_.of a0) a1
def db_.e:FE:=mkE rd0 89 6 1 [.ag (aa_.p .v)] [.tmp 2] [] [] [] fun n (a0,_)=>db_ n (aa_.of a0)
def od129:OD:=⟨[(0,.k),(3,.own .d .u8),(7,.k),(8,.k)],[.s,.rt 1,.i .i64,.i .i64],[.ext,.arr .d .u8 2]⟩
def b1_.e:FE:=mkE pk_ 138 35 1 [.s] [.tmp 2] [] [(4,od129)] [(0,od95)] (un1 b1_)
def strconv_Itoa.e:FE:=mkE pk_ 95 5 1 [.i .i64] [.tmp 2] [] [] [] (un1 strconv_Itoa)
def strings_Join.e:FE:=mkE pk_ 139 75 1 [.sl .v .str,.s] [.tmp 4] [] [] [] (un2 strings_Join)
def od130:OD:=⟨[(1,.box [.k,.k,.k,.view .iJson,.view .str]),(3,.own .d .str),(9,.view .iJson),(10,.k),(11,.k)],[.pb 1 0,.rt 2,.sl .v .iJson,.i .i64,.i .i64],[.ext,.box (aa_.p .v),.arr .d .str 2]⟩
def od131:OD:=⟨[(1,.box [.k,.k,.k,.view .iJson,.view .str]),(3,.own .d .str)],[.pb 1 0,.rt 2],[.ext,.box (aa_.p .v),.arr .d .str 2]⟩
def be_.e:FE:=mkE pk_ 96 66 1 [.ag (aa_.p .v)] [.tmp 2] [] [(4,od130)] [(0,od131)] fun n (a0,_)=>be_ n (aa_.of a0)
def dw_.e:FE:=mkE pk_ 49 13 1 [.ag (aa_.p .v)] [.tmp 2] [] [] [] fun n (a0,_)=>dw_ n (aa_.of a0)
def rd55:RD:=⟨aa_ × Bool,[.ag (aa_.p .d),.b],fun (a0,a1,_)=>((aa_.of a0),a1),fun (a0,a1)=>(aa_.to a0,a1,())⟩
def dO_.e:FE:=mkE rd55 103 27 1 [.s] [.cell 2 29,.tmp 3] [] [] [] (un1 dO_)
def od132:OD:=⟨[(0,.view .str),(1,.k),(7,.k),(8,.k)],[.sl .v .str,.s,.i .i64,.i .i64],[.ext]⟩
def aG_.e:FE:=mkE rd7 211 19 1 [.sl .v .str,.s] [.tmp 4] [] [(3,od132)] [(0,kV_)] (un2 aG_)
def dE_.e:FE:=mkE rd6 88 6 1 [.sl .v .str] [.tmp 2] [] [] [] (un1 dE_)
def od133:OD:=⟨[(2,.box [.k,.k,.k,.k,.k]),(3,.box [.k,.k,.k,.own .d .iJson,.own .d .str]),(17,.view .iJson),(18,.k),(19,.k)],[.pb 1 0,.pb 2 0,.sl .v .iJson,.i .i64,.i .i64],[.ext,.box [.i .i64,.i .i64,.s,.nils,.nils],.box [.i .i64,.i .i64,.s,.rt 3,.rt 4],.arr .d .iJson 2,.arr .d .str 2]⟩
def bd_.e:FE:=mkE rd30 42 32 1 [.ag (aa_.p .v)] [.cell 2 29] [] [(4,od133)] [(0,od84)] fun n (a0,_)=>bd_ n (aa_.of a0)
def ew_.e:FE:=mkE rd55 209 25 1 [.ag (aa_.p .v),.s] [.cell 4 29,.tmp 5] [] [] [] fun n (a0,a1,_)=>ew_ n (aa_.of a0) a1
def strings_Split.e:FE:=mkE rd6 254 8 1 [.s,.s] [.tmp 4] [] [] [] (un2 strings_Split)
def strings_ReplaceAll.e:FE:=mkE pk_ 196 11 1 [.s,.s,.s] [.tmp 6] [] [] [] (un3 strings_ReplaceAll)
def od134:OD:=⟨[(3,.k),(6,.view .str),(7,.k),(8,.k)],[.s,.sl .v .str,.i .i64,.i .i64],[.ext]⟩
def od135:OD:=⟨[(3,.k)],[.s],[.ext]⟩
def bW_.e:FE:=mkE pk_ 141 20 1 [.sl .v .str] [.tmp 2] [] [(4,od134)] [(0,od135)] (un1 bW_)
def od136:OD:=⟨[(0,.k),(4,.own .d .str),(13,.view .str),(14,.k),(15,.k)],[.s,.rt 1,.sl .v .str,.i .i64,.i .i64],[.ext,.arr .d .str 2]⟩
def od137:OD:=⟨[(0,.k),(4,.own .d .str)],[.s,.rt 1],[.ext,.arr .d .str 2]⟩
def rd56:RD:=⟨(List Bs) × Bool,[.sl .d .str,.b],fun (a0,a1,_)=>(a0,a1),fun (a0,a1)=>(a0,a1,())⟩
def bG_.e:FE:=mkE rd56 210 36 1 [.s] [.tmp 2,.tmp 3] [] [(7,od136)] [(0,od137)] (un1 bG_)
def dp_.e:FE:=mkE rd6 140 2 1 [] [.tmp 0] [] [] [] fun n _=>dp_ n ()
def d5_.e:FE:=mkE rd0 56 28 1 [.ag (aa_.p .v)] [.tmp 2] [] [] [] fun n (a0,_)=>d5_ n (aa_.of a0)
def od138:OD:=⟨[(1,.box [.k,.view .str,.k,.k,.k,.view .iJson,.view .str]),(6,.view .str),(7,.k),(8,.k)],[.pb 1 0,.sl .v .str,.i .i64,.i .i64],[.ext,.box (TOp.p .v)]⟩
def cz_.e:FE:=mkE rd0 132 40 1 [.ag (TOp.p .v)] [.tmp 2] [] [(3,od138)] [(0,od92)] fun n (a0,_)=>cz_ n (TOp.of a0)
def em_.e:FE:=mkE rd30 142 8 3 [.ag (aa_.p .d)] [.cell 2 29] [] [] [] fun n (a0,_)=>em_ n (aa_.of a0)
def eo_.e:FE:=mkE rd30 97 41 1 [.ag (TOp.p .v)] [.cell 2 29] [] [] [] fun n (a0,_)=>eo_ n (TOp.of a0)
def od139:OD:=⟨[(0,.view .str),(1,.view .str),(12,.k),(13,.k)],[.sl .v .str,.sl .v .str,.i .i64,.i .i64],[.ext]⟩
def aK_.e:FE:=mkE rd0 260 26 1 [.sl .v .str,.sl .v .str] [.tmp 4] [] [(6,od139)] [(0,kV_)] (un2 aK_)
def od140:OD:=⟨[(1,.view .iJson),(2,.k),(15,.view .iJson),(16,.k),(17,.k)],[.sl .v .iJson,.clo 235 [],.sl .v .iJson,.i .i64,.i .i64],[.ext]⟩
def ai_.e:FE:=mkE rd0 261 32 1 [.sl .v .iJson,.sl .v .iJson,.clo 235 []] [.tmp 6] [] [(6,od140)] [(0,kV_)] fun n (a0,a1,_,_)=>ai_ n a0 a1
def ed_.e:FE:=mkE rd0 235 38 1 [.ag (aa_.p .v),.ag (aa_.p .v)] [.tmp 4] [] [] [] fun n (a0,a1,_)=>ed_ n (aa_.of a0) (aa_.of a1)
def dV_.e:FE:=mkE rd0 212 16 1 [.ag (aa_.p .v),.ag (aa_.p .v)] [.tmp 4] [] [] [] fun n (a0,a1,_)=>dV_ n (aa_.of a0) (aa_.of a1)
def rd57:RD:=⟨TOp × Bool,[.ag (TOp.p .d),.b],fun (a0,a1,_)=>((TOp.of a0),a1),fun (a0,a1)=>(TOp.to a0,a1,())⟩
def d6_.e:FE:=mkE rd57 151 66 1 [.ag (aa_.p .v)] [.cell 2 87,.tmp 3] [] [] [] fun n (a0,_)=>d6_ n (aa_.of a0)
def od141:OD:=⟨[(1,.box [.k,.k,.k,.view .iJson,.view .str]),(4,.own .d .iOp),(11,.view .iJson),(12,.k),(13,.k)],[.pb 1 0,.rt 2,.sl .v .iJson,.i .i64,.i .i64],[.ext,.box (aa_.p .v),.arr .d .iOp 2]⟩
def od142:OD:=⟨[(1,.box [.k,.k,.k,.view .iJson,.view .str]),(4,.own .d .iOp)],[.pb 1 0,.rt 2],[.ext,.box (aa_.p .v),.arr .d .iOp 2]⟩
def rd58:RD:=⟨(List TOp) × Bool,[.sl .d .iOp,.b],fun (a0,a1,_)=>(a0,a1),fun (a0,a1)=>(a0,a1,())⟩
def b3_.e:FE:=mkE rd58 105 33 1 [.ag (aa_.p .v)] [.tmp 2,.tmp 3] [] [(4,od141)] [(0,od142)] fun n (a0,_)=>b3_ n (aa_.of a0)
def rd59:RD:=⟨aC_,[.ag (aC_.p .d)],fun (a0,_)=>(aC_.of a0),fun r=>(aC_.to r,())⟩
def dq_.e:FE:=mkE rd59 58 96 1 [.s] [.cell 2 35] [] [] [] (un1 dq_)
def df_.e:FE:=mkE rd0 54 5 1 [.i .i64] [.tmp 2] [] [] [] (un1 df_)
def od143:OD:=⟨[(2,.box [.k,.k,.k,.k,.k]),(4,.box [.k,.k,.k,.own .d .iJson,.k]),(9,.view .iOp),(10,.k),(11,.k)],[.pb 1 0,.pb 2 0,.sl .v .iOp,.i .i64,.i .i64],[.ext,.box [.i .i64,.i .i64,.s,.nils,.nils],.box [.i .i64,.i .i64,.s,.rt 3,.nils],.arr .d .iJson 2]⟩
def od144:OD:=⟨[(2,.box [.k,.k,.k,.k,.k]),(4,.box [.k,.k,.k,.own .d .iJson,.k])],[.pb 1 0,.pb 2 0],[.ext,.box [.i .i64,.i .i64,.s,.nils,.nils],.box [.i .i64,.i .i64,.s,.rt 3,.nils],.arr .d .iJson 2]⟩
def bw_.e:FE:=mkE rd55 50 29 1 [.sl .v .iOp] [.cell 2 29,.tmp 3] [] [(4,od143)] [(0,od144)] (un1 bw_)
def dF_.e:FE:=mkE rd7 57 21 1 [.sl .v .iOp] [.tmp 2] [] [] [] (un1 dF_)
def ek_.e:FE:=mkE rd0 18 57 1 [.ag (aC_.p .v)] [.tmp 2] [] [] [] fun n (a0,_)=>ek_ n (aC_.of a0)
def en_.e:FE:=mkE pk_ 48 5 1 [.i .i64] [.tmp 2] [] [] [] (un1 en_)
def dG_.e:FE:=mkE pk_ 16 43 1 [.ag (aC_.p .v)] [.tmp 2] [] [] [] fun n (a0,_)=>dG_ n (aC_.of a0)
def rd60:RD:=⟨aC_ × Bool,[.ag (aC_.p .d),.b],fun (a0,a1,_)=>((aC_.of a0),a1),fun (a0,a1)=>(aC_.to a0,a1,())⟩
def cU_.e:FE:=mkE rd60 19 19 1 [.s] [.cell 2 35,.tmp 3] [] [] [] (un1 cU_)
def od145:OD:=⟨[(4,.box [.k,.k]),(6,.own .d .iEvent),(7,.k),(8,.k)],[.pb 1 0,.rt 2,.s,.b],[.ext,.box (aw_.p .v),.arr .d .iEvent 2]⟩
def rd61:RD:=⟨aw_ × (List aC_),[.ag (aw_.p .v),.sl .d .iEvent],fun (a0,a1,_)=>((aw_.of a0),a1),fun (a0,a1)=>(aw_.to a0,a1,())⟩
def cl_.e:FE:=mkE rd61 30 52 1 [.ag (aw_.p .v),.s] [.cell 4 51,.tmp 5] [] [(5,od145)] [(0,od145)] fun n (a0,a1,_)=>cl_ n (aw_.of a0) a1
def od146:OD:=⟨[(2,.box [.k,.k]),(4,.box [.k,.k]),(6,.own .d .iEvent),(12,.view .str),(13,.k),(14,.k)],[.pb 1 0,.pb 2 0,.rt 3,.sl .v .str,.i .i64,.i .i64],[.ext,.box (aw_.p .v),.box (aw_.p .v),.arr .d .iEvent 2]⟩
def od147:OD:=⟨[(2,.box [.k,.k]),(4,.box [.k,.k]),(6,.own .d .iEvent)],[.pb 1 0,.pb 2 0,.rt 3],[.ext,.box (aw_.p .v),.box (aw_.p .v),.arr .d .iEvent 2]⟩
def bH_.e:FE:=mkE rd61 27 31 1 [.ag (aw_.p .v),.sl .v .str] [.cell 4 51,.tmp 5] [] [(4,od146)] [(0,od147)] fun n (a0,a1,_)=>bH_ n (aw_.of a0) a1
def b5_.e:FE:=mkE rd7 73 23 1 [.s] [.tmp 2] [] [(3,od62)] [(0,kV_)] (un1 b5_)
def od148:OD:=⟨[(0,.k),(3,.own .d .str),(4,.k),(5,.k)],[.s,.rt 1,.i .i64,.i .i64],[.ext,.arr .d .str 2]⟩
def od149:OD:=⟨[(3,.own .d .str)],[.rt 1],[.ext,.arr .d .str 2]⟩
def bo_.e:FE:=mkE rd6 61 27 1 [.s] [.tmp 2] [] [(5,od148)] [(0,od149)] (un1 bo_)
def cO_.e:FE:=mkE pk_ 62 22 1 [.s,.s] [.tmp 4] [] [] [] (un2 cO_)
def rd62:RD:=⟨Int × a7_,[.i .u8,.bx (a7_.p .v)],fun (a0,a1,_)=>(a0,(a7_.of a1)),fun (a0,a1)=>(a0,a7_.to a1,())⟩
def c1_.e:FE:=mkE rd62 152 22 2 [.bx (a7_.p .v)] [.tmp 2] [.pb 1 0] [] [] fun n (a0,_)=>c1_ n (a7_.of a0)
def od150:OD:=⟨[(0,.box [.k,.k,.k,.k]),(3,.k),(4,.k),(5,.k)],[.pb 1 0,.b,.i .i64,.i .i64],[.ext,.box (a7_.p .v)]⟩
def rd63:RD:=⟨Int × a7_,[.i .i64,.bx (a7_.p .v)],fun (a0,a1,_)=>(a0,(a7_.of a1)),fun (a0,a1)=>(a0,a7_.to a1,())⟩
def aE_.e:FE:=mkE rd63 107 65 2 [.bx (a7_.p .v)] [.tmp 2] [.pb 1 0] [(7,od150)] [(0,od150)] fun n (a0,_)=>aE_ n (a7_.of a0)
def rd64:RD:=⟨Int × Bool,[.i .i64,.b],fun (a0,a1,_)=>(a0,a1),fun (a0,a1)=>(a0,a1,())⟩
def dM_.e:FE:=mkE rd64 63 22 1 [.s] [.tmp 2,.tmp 3] [] [] [] (un1 dM_)
def rd65:RD:=⟨a7_,[.bx (a7_.p .v)],fun (a0,_)=>(a7_.of a0),fun r=>(a7_.to r,())⟩
def cj_.e:FE:=mkE rd65 153 50 2 [.bx (a7_.p .v),.s] [] [.pb 1 0] [] [] fun n (a0,a1,_)=>cj_ n (a7_.of a0) a1
def od151:OD:=⟨[(0,.box [.k,.k,.k,.k]),(3,.own .d .u8)],[.pb 1 0,.rt 2],[.ext,.box (a7_.p .v),.arr .d .u8 2]⟩
def rd66:RD:=⟨Bs × a7_,[.s,.bx (a7_.p .v)],fun (a0,a1,_)=>(a0,(a7_.of a1)),fun (a0,a1)=>(a0,a7_.to a1,())⟩
def aH_.e:FE:=mkE rd66 154 62 2 [.bx (a7_.p .v)] [.tmp 2] [.pb 1 0] [(4,od151)] [(0,od151)] fun n (a0,_)=>aH_ n (a7_.of a0)
def od152:OD:=⟨[(0,.box [.k,.k,.k,.k]),(1,.k),(4,.box [.k,.k,.k,.k,.k]),(5,.box [.k,.k,.k,.own .d .iJson,.own .d .str]),(6,.k)],[.pb 1 0,.i .i64,.pb 2 0,.pb 3 0,.s],[.ext,.box (a7_.p .v),.box [.i .i64,.i .i64,.s,.nils,.nils],.box [.i .i64,.i .i64,.s,.rt 4,.rt 5],.arr .d .iJson 2,.arr .d .str 2]⟩
def od153:OD:=⟨[(0,.box [.k,.k,.k,.k]),(4,.box [.k,.k,.k,.k,.k]),(5,.box [.k,.k,.k,.own .d .iJson,.own .d .str]),(6,.k)],[.pb 1 0,.pb 2 0,.pb 3 0,.s],[.ext,.box (a7_.p .v),.box [.i .i64,.i .i64,.s,.nils,.nils],.box [.i .i64,.i .i64,.s,.rt 4,.rt 5],.arr .d .iJson 2,.arr .d .str 2]⟩
def rd67:RD:=⟨aa_ × a7_,[.ag (aa_.p .d),.bx (a7_.p .v)],fun (a0,a1,_)=>((aa_.of a0),(a7_.of a1)),fun (a0,a1)=>(aa_.to a0,a7_.to a1,())⟩
def a0_.e:FE:=mkE rd67 155 61 2 [.bx (a7_.p .v),.i .i64] [.cell 4 29] [.pb 1 0] [(8,od152)] [(0,od153)] fun n (a0,a1,_)=>a0_ n (a7_.of a0) a1
def bT_.e:FE:=mkE rd67 108 61 2 [.bx (a7_.p .v),.i .i64] [.cell 4 29] [.pb 1 0] [] [] fun n (a0,a1,_)=>bT_ n (a7_.of a0) a1
def d4_.e:FE:=mkE rd55 64 41 1 [.s] [.cell 2 29,.tmp 3] [] [] [] (un1 d4_)
def d0_.e:FE:=mkE rd55 109 29 1 [.ag (aa_.p .v),.s] [.cell 4 29,.tmp 5] [] [] [] fun n (a0,a1,_)=>d0_ n (aa_.of a0) a1
def od154:OD:=⟨[(0,.k),(4,.own .d .str),(5,.own .d .str),(6,.own .d .u8),(7,.k)],[.s,.rt 1,.rt 2,.rt 3,.i .i64],[.ext,.arr .d .str 2,.arr .d .str 2,.arr .d .u8 2]⟩
def od155:OD:=⟨[(0,.k),(4,.own .d .str),(5,.own .d .str),(6,.own .d .u8)],[.s,.rt 1,.rt 2,.rt 3],[.ext,.arr .d .str 2,.arr .d .str 2,.arr .d .u8 2]⟩
def a6_.e:FE:=mkE rd56 111 86 1 [.s] [.tmp 2,.tmp 3] [] [(6,od154)] [(0,od155)] (un1 a6_)
def od156:OD:=⟨[(1,.box [.k,.k,.k,.view .iJson,.view .str]),(2,.box [.k,.k,.k,.k,.k,.k,.k]),(4,.box [.k,.k,.k,.k,.k,.k,.k]),(5,.box [.k,.k,.k,.own .d .iJson,.own .d .str]),(7,.box [.k,.k,.k,.own .d .iJson,.own .d .str]),(9,.own .d .str),(10,.k)],[.pb 1 0,.pb 2 0,.pb 3 0,.pb 4 0,.pb 5 0,.rt 6,.i .i64],[.ext,.box (aa_.p .v),.box [.i .i64,.nils,.i .i64,.i .i64,.s,.nils,.nils],.box [.i .i64,.nils,.i .i64,.i .i64,.s,.nils,.nils],.box [.i .i64,.i .i64,.s,.rt 7,.rt 8],.box [.i .i64,.i .i64,.s,.rt 9,.rt 10],.arr .d .str 2,.arr .d .iJson 2,.arr .d .str 2,.arr .d .iJson 2,.arr .d .str 2]⟩
def od157:OD:=⟨[(1,.box [.k,.k,.k,.view .iJson,.view .str]),(2,.box [.k,.k,.k,.k,.k,.k,.k]),(4,.box [.k,.view .str,.k,.k,.k,.view .iJson,.view .str]),(12,.k)],[.pb 1 0,.pb 2 0,.pb 3 0,.b],[.ext,.box (aa_.p .v),.box [.i .i64,.nils,.i .i64,.i .i64,.s,.nils,.nils],.box (TOp.p .v)]⟩
def od158:OD:=⟨[(1,.box [.k,.k,.k,.view .iJson,.view .str]),(2,.box [.k,.k,.k,.k,.k,.k,.k]),(4,.box [.k,.k,.k,.k,.k,.k,.k]),(7,.box [.k,.k,.k,.own .d .iJson,.own .d .str])],[.pb 1 0,.pb 2 0,.pb 3 0,.pb 4 0],[.ext,.box (aa_.p .v),.box [.i .i64,.nils,.i .i64,.i .i64,.s,.nils,.nils],.box [.i .i64,.nils,.i .i64,.i .i64,.s,.nils,.nils],.box [.i .i64,.i .i64,.s,.rt 5,.rt 6],.arr .d .iJson 2,.arr .d .str 2]⟩
def rd68:RD:=⟨TOp × Bool,[.ag (TOp.p .v),.b],fun (a0,a1,_)=>((TOp.of a0),a1),fun (a0,a1)=>(TOp.to a0,a1,())⟩
def bh_.e:FE:=mkE rd68 65 78 1 [.ag (aa_.p .v)] [.cell 2 87,.tmp 3] [] [(7,od156),(15,od157)] [(0,od158)] fun n (a0,_)=>bh_ n (aa_.of a0)
def od159:OD:=⟨[(0,.k),(2,.box [.k,.k,.k,.k,.k,.k,.k,.k,.k]),(4,.box [.k,.k,.k,.k,.k,.k,.own .d .iJson,.own .d .str,.own .s .iOp]),(5,.own .d .str),(6,.k)],[.s,.pb 1 0,.pb 2 0,.rt 3,.i .i64],[.ext,.box [.i .i64,.i .i64,.i .i64,.i .i64,.i .i64,.s,.nils,.nils,.nils],.box [.i .i64,.i .i64,.i .i64,.i .i64,.i .i64,.s,.rt 4,.rt 5,.rt 6],.arr .d .str 2,.arr .d .iJson 2,.arr .d .str 2,.arr .s .iOp 2]⟩
def od160:OD:=⟨[(0,.k),(2,.box [.k,.k,.k,.k,.k,.k,.k,.k,.k]),(4,.box [.k,.k,.k,.k,.k,.k,.own .d .iJson,.own .d .str,.own .s .iOp]),(5,.own .d .str),(6,.k),(8,.box [.k,.k,.k,.own .s .iJson,.own .d .str]),(10,.k)],[.s,.pb 1 0,.pb 2 0,.rt 3,.i .i64,.pb 4 0,.i .i64],[.ext,.box [.i .i64,.i .i64,.i .i64,.i .i64,.i .i64,.s,.nils,.nils,.nils],.box [.i .i64,.i .i64,.i .i64,.i .i64,.i .i64,.s,.rt 5,.rt 6,.rt 7],.arr .d .str 2,.box [.i .i64,.i .i64,.s,.rt 8,.rt 9],.arr .d .iJson 2,.arr .d .str 2,.arr .s .iOp 2,.arr .s .iJson 2,.arr .d .str 2]⟩
def od161:OD:=⟨[(0,.k),(2,.box [.k,.k,.k,.k,.k,.k,.k,.k,.k]),(4,.box [.k,.k,.k,.k,.k,.k,.own .d .iJson,.own .d .str,.own .s .iOp])],[.s,.pb 1 0,.pb 2 0],[.ext,.box [.i .i64,.i .i64,.i .i64,.i .i64,.i .i64,.s,.nils,.nils,.nils],.box [.i .i64,.i .i64,.i .i64,.i .i64,.i .i64,.s,.rt 3,.rt 4,.rt 5],.arr .d .iJson 2,.arr .d .str 2,.arr .s .iOp 2]⟩
def rd69:RD:=⟨aC_ × Bool,[.ag [.i .i64,.i .i64,.i .i64,.i .i64,.i .i64,.s,.sl .d .iJson,.sl .d .str,.sl .s .iOp],.b],fun (a0,a1,_)=>((aC_.of a0),a1),fun (a0,a1)=>(aC_.to a0,a1,())⟩
def ad_.e:FE:=mkE rd69 21 110 1 [.s] [.cell 2 35,.tmp 3] [] [(20,od160),(5,od159)] [(0,od161),(3,od159)] (un1 ad_)
def od162:OD:=⟨[(4,.box [.k,.k]),(6,.own .s .iEvent),(7,.box [.k,.k]),(8,.k)],[.pb 1 0,.rt 2,.pb 3 0,.s],[.ext,.box (aw_.p .v),.arr .s .iEvent 2,.box (aw_.p .v)]⟩
def rd70:RD:=⟨aw_ × (List aC_),[.ag (aw_.p .v),.sl .s .iEvent],fun (a0,a1,_)=>((aw_.of a0),a1),fun (a0,a1)=>(aw_.to a0,a1,())⟩
def cu_.e:FE:=mkE rd70 31 52 1 [.ag (aw_.p .v),.s] [.cell 4 51,.tmp 5] [] [(8,od162)] [(0,od162)] fun n (a0,a1,_)=>cu_ n (aw_.of a0) a1
def od163:OD:=⟨[(1,.view .str),(2,.box [.k,.k]),(4,.box [.k,.k]),(6,.own .s .iEvent),(7,.k)],[.sl .v .str,.pb 1 0,.pb 2 0,.rt 3,.i .i64],[.ext,.box (aw_.p .v),.box (aw_.p .v),.arr .s .iEvent 2]⟩
def od164:OD:=⟨[(2,.box [.k,.k]),(4,.box [.k,.k]),(6,.own .s .iEvent)],[.pb 1 0,.pb 2 0,.rt 3],[.ext,.box (aw_.p .v),.box (aw_.p .v),.arr .s .iEvent 2]⟩
def bE_.e:FE:=mkE rd70 28 32 1 [.ag (aw_.p .v),.sl .v .str] [.cell 4 51,.tmp 5] [] [(4,od163)] [(0,od164)] fun n (a0,a1,_)=>bE_ n (aw_.of a0) a1
def od165:OD:=⟨[(0,.view .u8),(3,.k),(4,.own .d .int),(5,.own .d .str),(6,.k),(7,.k)],[.sl .v .u8,.s,.rt 1,.rt 2,.s,.i .i64],[.ext,.arr .d .int 2,.arr .d .str 2]⟩
def od166:OD:=⟨[(0,.view .u8),(3,.k),(6,.k)],[.sl .v .u8,.s,.s],[.ext]⟩
def laws_FnCut.e:FE:=mkE rd0 5 92 1 [.sl .v .u8] [.tmp 2] [] [(12,od165)] [(0,od166)] (un1 laws_FnCut)
def ents:List FE:=[laws_FnCut.e,gh_.e,dG_.e,de_.e,ek_.e,cU_.e,ad_.e,dk_.e,b8_.e,bZ_.e,fq_.e,c5_.e,bH_.e,bE_.e,bu_.e,cl_.e,cu_.e,cd_.e,ao_.e,ac_.e,bd_.e,ei_.e,br_.e,en_.e,dw_.e,bw_.e,aV_.e,c3_.e,bR_.e,df_.e,aN_.e,d5_.e,dF_.e,dq_.e,c7_.e,dL_.e,bo_.e,cO_.e,dM_.e,d4_.e,bh_.e,a4_.e,aJ_.e,eb_.e,cL_.e,aT_.e,cD_.e,strings_Index.e,b5_.e,aQ_.e,eg_.e,aj_.e,dj_.e,bF_.e,aD_.e,d2_.e,bJ_.e,dt_.e,dg_.e,cI_.e,bP_.e,dE_.e,db_.e,cb_.e,aq_.e,cW_.e,strconv_Itoa.e,be_.e,eo_.e,aO_.e,d3_.e,cS_.e,dv_.e,cV_.e,dO_.e,cN_.e,b3_.e,as_.e,aE_.e,bT_.e,d0_.e,dn_.e,a6_.e,dC_.e,ce_.e,dU_.e,aM_.e,a3_.e,b6_.e,dX_.e,eh_.e,do_.e,ef_.e,dd_.e,c2_.e,bD_.e,bA_.e,eH_.e,dy_.e,aU_.e,bM_.e,cz_.e,aS_.e,cy_.e,b1_.e,strings_Join.e,dp_.e,bW_.e,em_.e,bz_.e,aF_.e,bV_.e,eB_.e,a2_.e,bL_.e,d6_.e,c1_.e,cj_.e,aH_.e,a0_.e,a5_.e,dx_.e,bK_.e,bb_.e,aB_.e,el_.e,bO_.e,aR_.e,cn_.e,bf_.e,a9_.e,dB_.e,eX_.e,bv_.e,ck_.e,e5_.e,b0_.e,b7_.e,eY_.e,fk_.e,di_.e,e0_.e,aA_.e,b9_.e,ag_.e,strings_ReplaceAll.e,bn_.e,cr_.e,bx_.e,c6_.e,av_.e,an_.e,ap_.e,ew_.e,bG_.e,aG_.e,dV_.e,bm_.e,cm_.e,cC_.e,bU_.e,bY_.e,dA_.e,bS_.e,dh_.e,da_.e,cc_.e,bN_.e,b4_.e,eC_.e,aL_.e,aI_.e,cq_.e,bX_.e,bp_.e,au_.e,ed_.e,ct_.e,strings_Split.e,dW_.e,eI_.e,cB_.e,dc_.e,dz_.e,aK_.e,ai_.e]
def fzL:List Nat:=[21,28,31,37,39,40,53,59,60,65,66,67,70,71,74,75,76,77,78,79,80,81,84,85,87,99,106,115,116,117,120,126,127,128,162,163,166,168,173,179,180,219,221,222,227]
def cx (n nt:Nat):Cx:=⟨nt,tt,sigE ents,KE n ents,fun f=>fzL.any (Nat.beq f)⟩
theorem okk {n:Nat} {e:FE} {fn:Func} (s:Stps e.R e.d.cut) (k:E.P.funcs[e.d.fid]?=some fn) (h:e.L (cx n e.d.nt) fn n s=e.Q (cx n e.d.nt) fn (e.F (n+1)) s):e.Oks E (cx n) n:=FE.ok s mixedOk k h
section
open Go.Proofs
theorem gh_.ok (n:Nat):gh_.e.Oks E (cx n) n:=okk () Tryz.func8 (by kernel_rfl)
theorem cd_.ok (n:Nat):cd_.e.Oks E (cx n) n:=okk (.lp fun κe=>cd_.step4 n (od1.k (κe 0)),()) Tryz.func37 (by kernel_rfl)
theorem dt_.ok (n:Nat):dt_.e.Oks E (cx n) n:=okk () Tryz.func84 (by kernel_rfl)
theorem ao_.ok (n:Nat):ao_.e.Oks E (cx n) n:=okk () Tryz.func39 (by kernel_rfl)
theorem a4_.ok (n:Nat):a4_.e.Oks E (cx n) n:=okk (.lp fun κe=>a4_.step4 n (od3.k (κe 0)),()) Tryz.func66 (by kernel_rfl)
theorem bJ_.ok (n:Nat):bJ_.e.Oks E (cx n) n:=okk () Tryz.func81 (by kernel_rfl)
theorem aJ_.ok (n:Nat):aJ_.e.Oks E (cx n) n:=okk (.lp fun κe=>aJ_.step4 n (od5.k (κe 0)),()) Tryz.func67 (by kernel_rfl)
theorem dk_.ok (n:Nat):dk_.e.Oks E (cx n) n:=okk () Tryz.func22 (by kernel_rfl)
theorem b8_.ok (n:Nat):b8_.e.Oks E (cx n) n:=okk (.lp fun κe=>b8_.step4 n (od7.k (κe 0)),()) Tryz.func23 (by kernel_rfl)
theorem cL_.ok (n:Nat):cL_.e.Oks E (cx n) n:=okk () Tryz.func69 (by kernel_rfl)
theorem eb_.ok (n:Nat):eb_.e.Oks E (cx n) n:=okk () Tryz.func68 (by kernel_rfl)
theorem bZ_.ok (n:Nat):bZ_.e.Oks E (cx n) n:=okk (.lp fun κe=>bZ_.step5 n (od9.k (κe 0)),()) Tryz.func24 (by kernel_rfl)
theorem fq_.ok (n:Nat):fq_.e.Oks E (cx n) n:=okk () Tryz.func25 (by kernel_rfl)
theorem cD_.ok (n:Nat):cD_.e.Oks E (cx n) n:=okk () Tryz.func71 (by kernel_rfl)
theorem dL_.ok (n:Nat):dL_.e.Oks E (cx n) n:=okk () Tryz.func60 (by kernel_rfl)
theorem dg_.ok (n:Nat):dg_.e.Oks E (cx n) n:=okk () Tryz.func85 (by kernel_rfl)
theorem cI_.ok (n:Nat):cI_.e.Oks E (cx n) n:=okk (.lp fun κe=>cI_.step3 n (kV_.k (κe 0)),()) Tryz.func86 (by kernel_rfl)
theorem bP_.ok (n:Nat):bP_.e.Oks E (cx n) n:=okk (.lp fun κe=>bP_.step5 n (od13.k (κe 0)),()) Tryz.func87 (by kernel_rfl)
theorem ac_.ok (n:Nat):ac_.e.Oks E (cx n) n:=okk (.lp fun κe=>ac_.step20 n (ac_ n) (od16.k (κe 1)),.lp fun κe=>ac_.step28 n (ac_ n) (od17.k (κe 3)),()) Tryz.func40 (by kernel_rfl)
theorem aM_.ok (n:Nat):aM_.e.Oks E (cx n) n:=okk (.lp fun κe=>aM_.step4 n (od19.k (κe 0)),()) Tryz.func115 (by kernel_rfl)
theorem cb_.ok (n:Nat):cb_.e.Oks E (cx n) n:=okk () Tryz.func91 (by kernel_rfl)
theorem a5_.ok (n:Nat):a5_.e.Oks E (cx n) n:=okk (.lp fun κe=>a5_.step3 n (od21.k (κe 0)),()) Tryz.func160 (by kernel_rfl)
theorem dx_.ok (n:Nat):dx_.e.Oks E (cx n) n:=okk () Tryz.func161 (by kernel_rfl)
theorem dU_.ok (n:Nat):dU_.e.Oks E (cx n) n:=okk () Tryz.func114 (by kernel_rfl)
theorem bb_.ok (n:Nat):bb_.e.Oks E (cx n) n:=okk (.lp fun κe=>bb_.step4 n (od23.k (κe 0)),()) Tryz.func163 (by kernel_rfl)
theorem cm_.ok (n:Nat):cm_.e.Oks E (cx n) n:=okk (.lp fun κe=>cm_.step3 n (kV_.k (κe 0)),()) Tryz.func216 (by kernel_rfl)
theorem cC_.ok (n:Nat):cC_.e.Oks E (cx n) n:=okk () Tryz.func217 (by kernel_rfl)
theorem bm_.ok (n:Nat):bm_.e.Oks E (cx n) n:=okk (.lp fun κe=>bm_.step5 n (od26.k (κe 0)),()) Tryz.func215 (by kernel_rfl)
theorem bK_.ok (n:Nat):bK_.e.Oks E (cx n) n:=okk (.lp fun κe=>bK_.step6 n (od28.k (κe 0)),()) Tryz.func162 (by kernel_rfl)
theorem a3_.ok (n:Nat):a3_.e.Oks E (cx n) n:=okk (.lp fun κe=>a3_.step4 n (od30.k (κe 0)),()) Tryz.func116 (by kernel_rfl)
theorem aQ_.ok (n:Nat):aQ_.e.Oks E (cx n) n:=okk (.lp fun κe=>aQ_.step4 n (od32.k (κe 0)),()) Tryz.func74 (by kernel_rfl)
theorem aj_.ok (n:Nat):aj_.e.Oks E (cx n) n:=okk (.lp fun κe=>aj_.step7 n (od35.k (κe 0)),.lp fun κe=>aj_.step16 n (od36.k (κe 2)),()) Tryz.func76 (by kernel_rfl)
theorem cq_.ok (n:Nat):cq_.e.Oks E (cx n) n:=okk (.lp fun κe=>cq_.step6 n (kV_.k (κe 0)),()) Tryz.func230 (by kernel_rfl)
theorem b7_.ok (n:Nat):b7_.e.Oks E (cx n) n:=okk (.lp fun κe=>b7_.step3 n (od39.k (κe 0)),()) Tryz.func177 (by kernel_rfl)
theorem bD_.ok (n:Nat):bD_.e.Oks E (cx n) n:=okk (.lp fun κe=>bD_.step6 n (kV_.k (κe 0)),()) Tryz.func124 (by kernel_rfl)
theorem aB_.ok (n:Nat):aB_.e.Oks E (cx n) n:=okk (.lp fun κe=>aB_.step7 n (od43.k (κe 0)),.lp fun κe=>aB_.step16 n (od43.k (κe 2)),()) Tryz.func164 (by kernel_rfl)
theorem el_.ok (n:Nat):el_.e.Oks E (cx n) n:=okk () Tryz.func165 (by kernel_rfl)
theorem dW_.ok (n:Nat):dW_.e.Oks E (cx n) n:=okk () Tryz.func255 (by kernel_rfl)
theorem bU_.ok (n:Nat):bU_.e.Oks E (cx n) n:=okk (.lp fun κe=>bU_.step3 n (kV_.k (κe 0)),()) Tryz.func218 (by kernel_rfl)
theorem bX_.ok (n:Nat):bX_.e.Oks E (cx n) n:=okk () Tryz.func231 (by kernel_rfl)
theorem eI_.ok (n:Nat):eI_.e.Oks E (cx n) n:=okk () Tryz.func256 (by kernel_rfl)
theorem bY_.ok (n:Nat):bY_.e.Oks E (cx n) n:=okk (.lp fun κe=>bY_.step5 n (od46.k (κe 0)),()) Tryz.func219 (by kernel_rfl)
theorem bO_.ok (n:Nat):bO_.e.Oks E (cx n) n:=okk (.lp fun κe=>bO_.step8 n (od48.k (κe 0)),()) Tryz.func166 (by kernel_rfl)
theorem aR_.ok (n:Nat):aR_.e.Oks E (cx n) n:=okk (.lp fun κe=>aR_.step5 n (od50.k (κe 0)),()) Tryz.func167 (by kernel_rfl)
theorem b6_.ok (n:Nat):b6_.e.Oks E (cx n) n:=okk (.lp fun κe=>b6_.step8 n (od52.k (κe 0)),()) Tryz.func117 (by kernel_rfl)
theorem eg_.ok (n:Nat):eg_.e.Oks E (cx n) n:=okk () Tryz.func75 (by kernel_rfl)
theorem b0_.ok (n:Nat):b0_.e.Oks E (cx n) n:=okk (.lp fun κe=>b0_.step4 n (od54.k (κe 0)),()) Tryz.func176 (by kernel_rfl)
theorem c2_.ok (n:Nat):c2_.e.Oks E (cx n) n:=okk () Tryz.func123 (by kernel_rfl)
theorem dX_.ok (n:Nat):dX_.e.Oks E (cx n) n:=okk () Tryz.func118 (by kernel_rfl)
theorem cc_.ok (n:Nat):cc_.e.Oks E (cx n) n:=okk (.lp fun κe=>cc_.step3 n (kV_.k (κe 0)),()) Tryz.func224 (by kernel_rfl)
theorem bf_.ok (n:Nat):bf_.e.Oks E (cx n) n:=okk (.lp fun κe=>bf_.step4 n (od57.k (κe 0)),()) Tryz.func169 (by kernel_rfl)
theorem dA_.ok (n:Nat):dA_.e.Oks E (cx n) n:=okk () Tryz.func220 (by kernel_rfl)
theorem aV_.ok (n:Nat):aV_.e.Oks E (cx n) n:=okk (.lp fun κe=>aV_.step7 n (od59.k (κe 0)),()) Tryz.func51 (by kernel_rfl)
theorem da_.ok (n:Nat):da_.e.Oks E (cx n) n:=okk () Tryz.func223 (by kernel_rfl)
theorem bS_.ok (n:Nat):bS_.e.Oks E (cx n) n:=okk (.lp fun κe=>bS_.step4 n (od61.k (κe 0)),()) Tryz.func221 (by kernel_rfl)
theorem b9_.ok (n:Nat):b9_.e.Oks E (cx n) n:=okk (.lp fun κe=>b9_.step3 n (od63.k (κe 0)),()) Tryz.func188 (by kernel_rfl)
theorem ag_.ok (n:Nat):ag_.e.Oks E (cx n) n:=okk (.lp fun κe=>ag_.step6 n (od65.k (κe 0)),()) Tryz.func189 (by kernel_rfl)
theorem aS_.ok (n:Nat):aS_.e.Oks E (cx n) n:=okk (.lp fun κe=>aS_.step23 n (aS_ n) (od67.k (κe 1)),()) Tryz.func134 (by kernel_rfl)
theorem cW_.ok (n:Nat):cW_.e.Oks E (cx n) n:=okk () Tryz.func93 (by kernel_rfl)
theorem dh_.ok (n:Nat):dh_.e.Oks E (cx n) n:=okk () Tryz.func222 (by kernel_rfl)
theorem cn_.ok (n:Nat):cn_.e.Oks E (cx n) n:=okk (.lp fun κe=>cn_.step4 n (od69.k (κe 0)),()) Tryz.func168 (by kernel_rfl)
theorem do_.ok (n:Nat):do_.e.Oks E (cx n) n:=okk () Tryz.func120 (by kernel_rfl)
theorem aq_.ok (n:Nat):aq_.e.Oks E (cx n) n:=okk (.lp fun κe=>aq_.step6 n (aq_ n) (od72.k (κe 0)),.lp fun κe=>aq_.step14 n (aq_ n) (kV_.k (κe 2)),()) Tryz.func92 (by kernel_rfl)
theorem dC_.ok (n:Nat):dC_.e.Oks E (cx n) n:=okk () Tryz.func112 (by kernel_rfl)
theorem eh_.ok (n:Nat):eh_.e.Oks E (cx n) n:=okk () Tryz.func119 (by kernel_rfl)
theorem bN_.ok (n:Nat):bN_.e.Oks E (cx n) n:=okk (.lp fun κe=>bN_.step3 n (od74.k (κe 0)),()) Tryz.func225 (by kernel_rfl)
theorem b4_.ok (n:Nat):b4_.e.Oks E (cx n) n:=okk (.lp fun κe=>b4_.step3 n (od76.k (κe 0)),()) Tryz.func226 (by kernel_rfl)
theorem dB_.ok (n:Nat):dB_.e.Oks E (cx n) n:=okk () Tryz.func171 (by kernel_rfl)
theorem eX_.ok (n:Nat):eX_.e.Oks E (cx n) n:=okk () Tryz.func172 (by kernel_rfl)
theorem eC_.ok (n:Nat):eC_.e.Oks E (cx n) n:=okk () Tryz.func227 (by kernel_rfl)
theorem bv_.ok (n:Nat):bv_.e.Oks E (cx n) n:=okk (.lp fun κe=>bv_.step5 n (od78.k (κe 0)),()) Tryz.func173 (by kernel_rfl)
theorem cB_.ok (n:Nat):cB_.e.Oks E (cx n) n:=okk (.lp fun κe=>cB_.step3 n (kV_.k (κe 0)),()) Tryz.func257 (by kernel_rfl)
theorem aL_.ok (n:Nat):aL_.e.Oks E (cx n) n:=okk (.lp fun κe=>aL_.step3 n (od82.k (κe 0)),.lp fun κe=>aL_.step11 n (od82.k (κe 2)),()) Tryz.func228 (by kernel_rfl)
theorem dc_.ok (n:Nat):dc_.e.Oks E (cx n) n:=okk () Tryz.func258 (by kernel_rfl)
theorem br_.ok (n:Nat):br_.e.Oks E (cx n) n:=okk (.lp fun κe=>br_.step4 n (br_ n) (od84.k (κe 0)),()) Tryz.func46 (by kernel_rfl)
theorem dz_.ok (n:Nat):dz_.e.Oks E (cx n) n:=okk () Tryz.func259 (by kernel_rfl)
theorem aI_.ok (n:Nat):aI_.e.Oks E (cx n) n:=okk (.lp fun κe=>aI_.step5 n (od87.k (κe 0)),.lp fun κe=>aI_.step13 n (od88.k (κe 2)),()) Tryz.func229 (by kernel_rfl)
theorem e5_.ok (n:Nat):e5_.e.Oks E (cx n) n:=okk () Tryz.func175 (by kernel_rfl)
theorem ck_.ok (n:Nat):ck_.e.Oks E (cx n) n:=okk (.lp fun κe=>ck_.step4 n (od90.k (κe 0)),()) Tryz.func174 (by kernel_rfl)
theorem dd_.ok (n:Nat):dd_.e.Oks E (cx n) n:=okk () Tryz.func122 (by kernel_rfl)
theorem cy_.ok (n:Nat):cy_.e.Oks E (cx n) n:=okk (.lp fun κe=>cy_.step6 n (od92.k (κe 0)),()) Tryz.func135 (by kernel_rfl)
theorem dn_.ok (n:Nat):dn_.e.Oks E (cx n) n:=okk () Tryz.func110 (by kernel_rfl)
theorem aF_.ok (n:Nat):aF_.e.Oks E (cx n) n:=okk (.lp fun κe=>aF_.step10 n (od93.k (κe 2)),.lp fun κe=>aF_.step4 n (od95.k (κe 0)),()) Tryz.func144 (by kernel_rfl)
theorem d3_.ok (n:Nat):d3_.e.Oks E (cx n) n:=okk () Tryz.func99 (by kernel_rfl)
theorem bz_.ok (n:Nat):bz_.e.Oks E (cx n) n:=okk (.lp fun κe=>bz_.step4 n (od95.k (κe 0)),()) Tryz.func143 (by kernel_rfl)
theorem aO_.ok (n:Nat):aO_.e.Oks E (cx n) n:=okk (.lp fun κe=>aO_.step17 n (aO_ n) (od98.k (κe 1)),()) Tryz.func98 (by kernel_rfl)
theorem c3_.ok (n:Nat):c3_.e.Oks E (cx n) n:=okk () Tryz.func52 (by kernel_rfl)
theorem a9_.ok (n:Nat):a9_.e.Oks E (cx n) n:=okk (.lp fun κe=>a9_.step4 n (od100.k (κe 0)),()) Tryz.func170 (by kernel_rfl)
theorem ef_.ok (n:Nat):ef_.e.Oks E (cx n) n:=okk () Tryz.func121 (by kernel_rfl)
theorem dj_.ok (n:Nat):dj_.e.Oks E (cx n) n:=okk () Tryz.func77 (by kernel_rfl)
theorem dy_.ok (n:Nat):dy_.e.Oks E (cx n) n:=okk () Tryz.func127 (by kernel_rfl)
theorem eY_.ok (n:Nat):eY_.e.Oks E (cx n) n:=okk () Tryz.func178 (by kernel_rfl)
theorem bA_.ok (n:Nat):bA_.e.Oks E (cx n) n:=okk (.lp fun κe=>bA_.step4 n (od102.k (κe 0)),()) Tryz.func125 (by kernel_rfl)
theorem fk_.ok (n:Nat):fk_.e.Oks E (cx n) n:=okk () Tryz.func179 (by kernel_rfl)
theorem eH_.ok (n:Nat):eH_.e.Oks E (cx n) n:=okk () Tryz.func126 (by kernel_rfl)
theorem aD_.ok (n:Nat):aD_.e.Oks E (cx n) n:=okk (.tl fun κd _=>aD_.tail9 n (od103.k κd),.lp fun κe=>aD_.step5 n (od105.k (κe 0)),()) Tryz.func79 (by kernel_rfl)
theorem bF_.ok (n:Nat):bF_.e.Oks E (cx n) n:=okk (.lp fun κe=>bF_.step12 n (od107.k (κe 0)),()) Tryz.func78 (by kernel_rfl)
theorem di_.ok (n:Nat):di_.e.Oks E (cx n) n:=okk () Tryz.func180 (by kernel_rfl)
theorem aU_.ok (n:Nat):aU_.e.Oks E (cx n) n:=okk (.lp fun κe=>aU_.step4 n (od109.k (κe 0)),()) Tryz.func128 (by kernel_rfl)
theorem d2_.ok (n:Nat):d2_.e.Oks E (cx n) n:=okk () Tryz.func80 (by kernel_rfl)
theorem as_.ok (n:Nat):as_.e.Oks E (cx n) n:=okk (.tl fun κd _=>as_.tail10 n (od111.k κd),.lp fun κe=>as_.step5 n (od113.k (κe 0)),.tl fun _ _=>as_.tail1 n,()) Tryz.func106 (by kernel_rfl)
theorem c7_.ok (n:Nat):c7_.e.Oks E (cx n) n:=okk () Tryz.func59 (by kernel_rfl)
theorem bR_.ok (n:Nat):bR_.e.Oks E (cx n) n:=okk (.lp fun κe=>bR_.step4 n (od115.k (κe 0)),()) Tryz.func53 (by kernel_rfl)
theorem ei_.ok (n:Nat):ei_.e.Oks E (cx n) n:=okk () Tryz.func45 (by kernel_rfl)
theorem de_.ok (n:Nat):de_.e.Oks E (cx n) n:=okk () Tryz.func17 (by kernel_rfl)
theorem aT_.ok (n:Nat):aT_.e.Oks E (cx n) n:=okk (.lp fun κe=>aT_.step4 n (od117.k (κe 0)),()) Tryz.func70 (by kernel_rfl)
theorem bu_.ok (n:Nat):bu_.e.Oks E (cx n) n:=okk (.lp fun κe=>bu_.step11 n (od119.k (κe 1)),()) Tryz.func29 (by kernel_rfl)
theorem c5_.ok (n:Nat):c5_.e.Oks E (cx n) n:=okk () Tryz.func26 (by kernel_rfl)
theorem bn_.ok (n:Nat):bn_.e.Oks E (cx n) n:=okk () Tryz.func197 (by kernel_rfl)
theorem bV_.ok (n:Nat):bV_.e.Oks E (cx n) n:=okk () Tryz.func145 (by kernel_rfl)
theorem cS_.ok (n:Nat):cS_.e.Oks E (cx n) n:=okk () Tryz.func100 (by kernel_rfl)
theorem cr_.ok (n:Nat):cr_.e.Oks E (cx n) n:=okk () Tryz.func198 (by kernel_rfl)
theorem eB_.ok (n:Nat):eB_.e.Oks E (cx n) n:=okk () Tryz.func146 (by kernel_rfl)
theorem bL_.ok (n:Nat):bL_.e.Oks E (cx n) n:=okk () Tryz.func150 (by kernel_rfl)
theorem cN_.ok (n:Nat):cN_.e.Oks E (cx n) n:=okk () Tryz.func104 (by kernel_rfl)
theorem dv_.ok (n:Nat):dv_.e.Oks E (cx n) n:=okk () Tryz.func101 (by kernel_rfl)
theorem bx_.ok (n:Nat):bx_.e.Oks E (cx n) n:=okk () Tryz.func204 (by kernel_rfl)
theorem c6_.ok (n:Nat):c6_.e.Oks E (cx n) n:=okk () Tryz.func205 (by kernel_rfl)
theorem ct_.ok (n:Nat):ct_.e.Oks E (cx n) n:=okk () Tryz.func253 (by kernel_rfl)
theorem av_.ok (n:Nat):av_.e.Oks E (cx n) n:=okk (.lp fun κe=>av_.step4 n (od121.k (κe 0)),()) Tryz.func206 (by kernel_rfl)
theorem an_.ok (n:Nat):an_.e.Oks E (cx n) n:=okk (.lp fun κe=>an_.step7 n (a2_ n) (od123.k (κe 0)),()) Tryz.func207 (by kernel_rfl)
theorem aN_.ok (n:Nat):aN_.e.Oks E (cx n) n:=okk () Tryz.func55 (by kernel_rfl)
theorem ap_.ok (n:Nat):ap_.e.Oks E (cx n) n:=okk (.lp fun κe=>ap_.step3 n (od124.k (κe 0)),()) Tryz.func208 (by kernel_rfl)
theorem a2_.ok (n:Nat):a2_.e.Oks E (cx n) n:=okk () Tryz.func149 (by kernel_rfl)
theorem bp_.ok (n:Nat):bp_.e.Oks E (cx n) n:=okk () Tryz.func233 (by kernel_rfl)
theorem aA_.ok (n:Nat):aA_.e.Oks E (cx n) n:=okk (.lp fun κe=>aA_.step3 n (od63.k (κe 0)),()) Tryz.func183 (by kernel_rfl)
theorem au_.ok (n:Nat):au_.e.Oks E (cx n) n:=okk (.lp fun κe=>au_.step3 n (kV_.k (κe 0)),()) Tryz.func234 (by kernel_rfl)
theorem e0_.ok (n:Nat):e0_.e.Oks E (cx n) n:=okk () Tryz.func182 (by kernel_rfl)
theorem bM_.ok (n:Nat):bM_.e.Oks E (cx n) n:=okk (.lp fun κe=>bM_.step7 n (bM_ n) (od128.k (κe 0)),()) Tryz.func131 (by kernel_rfl)
theorem db_.ok (n:Nat):db_.e.Oks E (cx n) n:=okk () Tryz.func89 (by kernel_rfl)
theorem b1_.ok (n:Nat):b1_.e.Oks E (cx n) n:=okk (.lp fun κe=>b1_.step4 n (od95.k (κe 0)),()) Tryz.func138 (by kernel_rfl)
theorem be_.ok (n:Nat):be_.e.Oks E (cx n) n:=okk (.lp fun κe=>be_.step4 n (be_ n) (od131.k (κe 0)),()) Tryz.func96 (by kernel_rfl)
theorem dw_.ok (n:Nat):dw_.e.Oks E (cx n) n:=okk () Tryz.func49 (by kernel_rfl)
theorem dO_.ok (n:Nat):dO_.e.Oks E (cx n) n:=okk () Tryz.func103 (by kernel_rfl)
theorem aG_.ok (n:Nat):aG_.e.Oks E (cx n) n:=okk (.lp fun κe=>aG_.step3 n (kV_.k (κe 0)),()) Tryz.func211 (by kernel_rfl)
theorem dE_.ok (n:Nat):dE_.e.Oks E (cx n) n:=okk () Tryz.func88 (by kernel_rfl)
theorem bd_.ok (n:Nat):bd_.e.Oks E (cx n) n:=okk (.lp fun κe=>bd_.step4 n (bd_ n) (od84.k (κe 0)),()) Tryz.func42 (by kernel_rfl)
theorem ew_.ok (n:Nat):ew_.e.Oks E (cx n) n:=okk () Tryz.func209 (by kernel_rfl)
theorem bW_.ok (n:Nat):bW_.e.Oks E (cx n) n:=okk (.lp fun κe=>bW_.step4 n (od135.k (κe 0)),()) Tryz.func141 (by kernel_rfl)
theorem bG_.ok (n:Nat):bG_.e.Oks E (cx n) n:=okk (.lp fun κe=>bG_.step7 n (od137.k (κe 0)),()) Tryz.func210 (by kernel_rfl)
theorem dp_.ok (n:Nat):dp_.e.Oks E (cx n) n:=okk () Tryz.func140 (by kernel_rfl)
theorem d5_.ok (n:Nat):d5_.e.Oks E (cx n) n:=okk () Tryz.func56 (by kernel_rfl)
theorem cz_.ok (n:Nat):cz_.e.Oks E (cx n) n:=okk (.lp fun κe=>cz_.step3 n (od92.k (κe 0)),()) Tryz.func132 (by kernel_rfl)
theorem em_.ok (n:Nat):em_.e.Oks E (cx n) n:=okk () Tryz.func142 (by kernel_rfl)
theorem eo_.ok (n:Nat):eo_.e.Oks E (cx n) n:=okk () Tryz.func97 (by kernel_rfl)
theorem aK_.ok (n:Nat):aK_.e.Oks E (cx n) n:=okk (.lp fun κe=>aK_.step6 n (kV_.k (κe 0)),()) Tryz.func260 (by kernel_rfl)
theorem ai_.ok (n:Nat):ai_.e.Oks E (cx n) n:=okk (.lp fun κe=>ai_.step6 n (ed_ n) (kV_.k (κe 0)),()) Tryz.func261 (by kernel_rfl)
theorem ed_.ok (n:Nat):ed_.e.Oks E (cx n) n:=okk () Tryz.func235 (by kernel_rfl)
theorem dV_.ok (n:Nat):dV_.e.Oks E (cx n) n:=okk () Tryz.func212 (by kernel_rfl)
theorem d6_.ok (n:Nat):d6_.e.Oks E (cx n) n:=okk () Tryz.func151 (by kernel_rfl)
theorem b3_.ok (n:Nat):b3_.e.Oks E (cx n) n:=okk (.lp fun κe=>b3_.step4 n (od142.k (κe 0)),()) Tryz.func105 (by kernel_rfl)
theorem dq_.ok (n:Nat):dq_.e.Oks E (cx n) n:=okk () Tryz.func58 (by kernel_rfl)
theorem df_.ok (n:Nat):df_.e.Oks E (cx n) n:=okk () Tryz.func54 (by kernel_rfl)
theorem bw_.ok (n:Nat):bw_.e.Oks E (cx n) n:=okk (.lp fun κe=>bw_.step4 n (od144.k (κe 0)),()) Tryz.func50 (by kernel_rfl)
theorem dF_.ok (n:Nat):dF_.e.Oks E (cx n) n:=okk () Tryz.func57 (by kernel_rfl)
theorem ek_.ok (n:Nat):ek_.e.Oks E (cx n) n:=okk () Tryz.func18 (by kernel_rfl)
theorem en_.ok (n:Nat):en_.e.Oks E (cx n) n:=okk () Tryz.func48 (by kernel_rfl)
theorem dG_.ok (n:Nat):dG_.e.Oks E (cx n) n:=okk () Tryz.func16 (by kernel_rfl)
theorem cU_.ok (n:Nat):cU_.e.Oks E (cx n) n:=okk () Tryz.func19 (by kernel_rfl)
theorem cl_.ok (n:Nat):cl_.e.Oks E (cx n) n:=okk (.lp fun κe=>cl_.step5 n (od145.k (κe 0)),()) Tryz.func30 (by kernel_rfl)
theorem bH_.ok (n:Nat):bH_.e.Oks E (cx n) n:=okk (.lp fun κe=>bH_.step4 n (od147.k (κe 0)),()) Tryz.func27 (by kernel_rfl)
theorem b5_.ok (n:Nat):b5_.e.Oks E (cx n) n:=okk (.lp fun κe=>b5_.step3 n (kV_.k (κe 0)),()) Tryz.func73 (by kernel_rfl)
theorem bo_.ok (n:Nat):bo_.e.Oks E (cx n) n:=okk (.lp fun κe=>bo_.step5 n (od149.k (κe 0)),()) Tryz.func61 (by kernel_rfl)
theorem cO_.ok (n:Nat):cO_.e.Oks E (cx n) n:=okk () Tryz.func62 (by kernel_rfl)
theorem c1_.ok (n:Nat):c1_.e.Oks E (cx n) n:=okk () Tryz.func152 (by kernel_rfl)
theorem aE_.ok (n:Nat):aE_.e.Oks E (cx n) n:=okk (.lp fun κe=>aE_.step7 n (od150.k (κe 0)),()) Tryz.func107 (by kernel_rfl)
theorem dM_.ok (n:Nat):dM_.e.Oks E (cx n) n:=okk () Tryz.func63 (by kernel_rfl)
theorem cj_.ok (n:Nat):cj_.e.Oks E (cx n) n:=okk () Tryz.func153 (by kernel_rfl)
theorem aH_.ok (n:Nat):aH_.e.Oks E (cx n) n:=okk (.lp fun κe=>aH_.step4 n (od151.k (κe 0)),()) Tryz.func154 (by kernel_rfl)
theorem a0_.ok (n:Nat):a0_.e.Oks E (cx n) n:=okk (.lp fun κe=>a0_.step8 n (bT_ n) (od153.k (κe 0)),()) Tryz.func155 (by kernel_rfl)
theorem bT_.ok (n:Nat):bT_.e.Oks E (cx n) n:=okk () Tryz.func108 (by kernel_rfl)
theorem d4_.ok (n:Nat):d4_.e.Oks E (cx n) n:=okk () Tryz.func64 (by kernel_rfl)
theorem d0_.ok (n:Nat):d0_.e.Oks E (cx n) n:=okk () Tryz.func109 (by kernel_rfl)
theorem a6_.ok (n:Nat):a6_.e.Oks E (cx n) n:=okk (.lp fun κe=>a6_.step6 n (od155.k (κe 0)),()) Tryz.func111 (by kernel_rfl)
theorem bh_.ok (n:Nat):bh_.e.Oks E (cx n) n:=okk (.lp fun κe=>bh_.step7 n (od158.k (κe 0)),.tl fun _ _=>bh_.tail15 n,()) Tryz.func65 (by kernel_rfl)
theorem ad_.ok (n:Nat):ad_.e.Oks E (cx n) n:=okk (.lp fun κe=>ad_.step20 n (od159.k (κe 3)),.lp fun κe=>ad_.step5 n (od161.k (κe 0)),()) Tryz.func21 (by kernel_rfl)
theorem cu_.ok (n:Nat):cu_.e.Oks E (cx n) n:=okk (.lp fun κe=>cu_.step8 n (od162.k (κe 0)),()) Tryz.func31 (by kernel_rfl)
theorem bE_.ok (n:Nat):bE_.e.Oks E (cx n) n:=okk (.lp fun κe=>bE_.step4 n (od164.k (κe 0)),()) Tryz.func28 (by kernel_rfl)
theorem laws_FnCut.ok (n:Nat):laws_FnCut.e.Oks E (cx n) n:=okk (.lp fun κe=>laws_FnCut.step12 n (od166.k (κe 0)),()) Tryz.func5 (by kernel_rfl)
end
section
def InsM (P:Program) (f:FuncId) (e:TypeId) (K B:Nat):Prop :=
 ∀ (w:World) (S:Value) (n:Nat) (vals:List Value) (U:Value) (m:Nat) (us:List Value) (i:Nat),w.ownsRow 0 e K S n vals->w.ownsRow 0 e K U m us->(∀ b,cT_ S b≠0->cT_ U b=0)->i<=n ->
   (∀ v ∈ vals,v.oneCell'=true)->(∀ v ∈ us,v.oneCell'=true)->(n+m)*B<=140737488355328 ->
   Calls P f (List.toArray [S,.int .i64 i,U]) w fun e' w'=>∃ R,e' = .returned R/\w'.ownsRow 0 e K R (n+m) (vals.take (i*K)++us++vals.drop (i*K))/\pe_ w w' (fun b=>cT_ S b≠0) /\
    ∀ b,cT_ R b≠0->(w.heap.size<=b\/cT_ S b≠0)/\b<w'.heap.size
def DelM (P:Program) (f:FuncId) (e:TypeId) (K:Nat):Prop :=
 ∀ (w:World) (S:Value) (n:Nat) (vals:List Value) (i j:Nat),w.ownsRow 0 e K S n vals->i<=j->j<=n->(∀ v ∈ vals,v.oneCell'=true) ->
   Calls P f (List.toArray [S,.int .i64 i,.int .i64 j]) w fun e' w'=>∃ R,e' = .returned R/\w'.ownsRow 0 e K R (n - (j - i)) (vals.take (i*K)++vals.drop (j*K))/\pe_ w w' (fun b=>cT_ S b≠0) /\
    ∀ b,cT_ R b≠0->(w.heap.size<=b\/cT_ S b≠0)/\b<w'.heap.size
def M.both:M->M->M
 |.d,.d=>.d
 |_,_=>.s
variable [ah_]
open ah_
variable {E:Env} {w w':World} {F F':Nat->Prop}
theorem RL.own_inv {m t xs v l vs φ} (k:m ≠ .v) (h:RL E w F (.sl m t xs::l) (v::vs) φ):∃ vals φ₁ φ₂,w.ownsRow 0 (E.eid t) t.width v xs.length vals/\RL E w F (aW_ m.sub t xs) vals φ₁/\(∀ b,cT_ v b≠0->F b)/\RL E w F l vs φ₂/\∀ b,φ b=cT_ v b+φ₁ b+φ₂ b:=by
 cases h with
 |scal _ _ _ _ _ h=>exact h.elim
 |view=>exact absurd rfl k
 |own m t xs v vals φ₁ l vs φ₂ φ h1 h2 h3 h4 h5 h6=>exact ⟨vals,φ₁,φ₂,h2,h3,h4,h5,h6⟩
theorem RL.len_inv {a l Vs φ} (h:RL E w F (a::l) Vs φ):∃ v vs,Vs=v::vs:=by obtain ⟨v,vs,_,_,h,_⟩:=RL.uncons h;exact ⟨v,vs,h⟩
theorem rW_ [ak_] {φ:Nat->Nat} (T:∀ b,φ b<=1) (low:∀ b,φ b≠0->F b/\b<w.heap.size) {S:Value} (p:∀ b,cT_ S b≠0->F b) {t:TC} {zs:List (El t)} {vals:List Value} {ψ:Nat->Nat}
  (hz:RL E w F (aW_ .d t zs) vals ψ) (eφ:∀ b,cT_ S b+ψ b<=φ b) {R:Value} (V:w'.ownsRow 0 (E.eid t) t.width R zs.length vals) (k:pe_ w w' (fun b=>cT_ S b≠0))
  (J:∀ b,cT_ R b≠0->(w.heap.size<=b\/cT_ S b≠0)/\b<w'.heap.size) :
  ∃ φ',RL E w' (fun b=>(F b/\φ b=0)\/φ' b≠0) [.sl .d t zs] [R] φ'/\(∀ b,φ' b<=1)/\(∀ b,φ' b≠0->φ b≠0\/w.heap.size<=b) /\
    w'.os=w.os/\w'.tape=w.tape/\w'.output=w.output/\w.heap.size<=w'.heap.size/\∀ b,b<w.heap.size->φ b=0->w'.heap[b]?=w.heap[b]?:=by
 have m:∀ b,cT_ R b≠0->cT_ S b≠0\/w.heap.size<=b:=fun b hb=>(J b hb).1.symm;have u:∀ b,ψ b≠0->cT_ R b=0/\cT_ S b=0:=fun b hb=>by
  have q1:=eφ b;have q2:=T b;have s0:cT_ S b=0:=by omega
  refine ⟨Classical.byContradiction fun hr => ?_,s0⟩;rcases m b hr with hs|hs
  . exact hs s0
  . have:=(low b (by omega)).2;omega
 refine ⟨fun b=>cT_ R b+ψ b,?_,fun b => ?_,fun b hb => ?_,k.os,k.tape,k.output,k.size,fun b hb O=>k.heap b hb fun hc=>hc (by have:=eφ b;omega)⟩
 . refine .own .d t zs R vals ψ [] _ (fun _=>0) _ (by decide) V ?_ (fun b hb=>.inr (by show cT_ R b+_≠0;omega)) (.nil _ fun _=>rfl) (fun b=>rfl)
   refine hz.frame k.size (fun b hb=>⟨k.heap b (hz.low b hb).2 fun hc=>hc (u b hb).2,.inr (by show cT_ R b+ψ b≠0;omega)⟩) fun b hb z=>⟨k.heap b hb fun hc=>z (p b hc),fun hc => ?_⟩
   rcases hc with ⟨U,-⟩|hc
   . exact z U
   . have hc:cT_ R b+ψ b≠0:=hc
     by_cases I:cT_ R b=0
     . exact z (hz.low b (by omega)).1
     . rcases m b I with hs|hs
       . exact z (p b hs)
       . omega
 . show cT_ R b+ψ b<=1
   have q1:=eφ b;have q2:=T b;have:=oA_ R b;by_cases O:ψ b=0
   . omega
   . have:=u b O;omega
 . have hb:cT_ R b+ψ b≠0:=hb
   by_cases O:ψ b=0
   . rcases m b (by omega) with hs|hs
     . exact .inl (by have:=eφ b;omega)
     . exact .inr hs
   . exact .inl (by have:=eφ b;omega)
theorem nC_ [ak_] {φ:Nat->Nat} (J:∀ b,φ b<=1) (low:∀ b,φ b≠0->F b/\b<w.heap.size) {S:Value} (u:∀ b,cT_ S b≠0->F b) {t:TC} {zs:List (El t)} {L:List AV} {vals:List Value} {ψ:Nat->Nat}
  (hz:RL E w F L vals ψ) (U:L.map AV.asView=aW_ .v t zs) (eφ:∀ b,cT_ S b+ψ b<=φ b) {R:Value} (T:w'.ownsRow 0 (E.eid t) t.width R zs.length vals) (k:pe_ w w' (fun b=>cT_ S b≠0))
  (z:∀ b,cT_ R b≠0->(w.heap.size<=b\/cT_ S b≠0)/\b<w'.heap.size) :
  ∃ φ',RL E w' (fun b=>(F b/\φ b=0)\/φ' b≠0) [.sl .s t zs] [R] φ'/\(∀ b,φ' b<=1)/\(∀ b,φ' b≠0->φ b≠0\/w.heap.size<=b) /\
    w'.os=w.os/\w'.tape=w.tape/\w'.output=w.output/\w.heap.size<=w'.heap.size/\∀ b,b<w.heap.size->φ b=0->w'.heap[b]?=w.heap[b]?:=by
 have m:∀ b,cT_ R b≠0->cT_ S b≠0\/w.heap.size<=b:=fun b hb=>(z b hb).1.symm;have I:=hz.seen (F':=fun b=>F b/\ψ b=0) (fun b hb hc=>hb hc.2) (fun b _ p hc=>p hc.1);rw [U] at I;refine ⟨cT_ R,?_,oA_ R,fun b hb => ?_,k.os,k.tape,k.output,k.size,fun b hb V=>k.heap b hb fun hc=>hc (by have:=eφ b;omega)⟩
 . refine .own .s t zs R vals (fun _=>0) [] _ (fun _=>0) _ (by decide) T ?_ (fun b hb=>.inr hb) (.nil _ fun _=>rfl) (fun b=>rfl)
   refine I.frame k.size (fun b hb=>absurd rfl hb) fun b hb p=>⟨k.heap b hb fun hc=>p ⟨u b hc,by have:=eφ b;have:=J b;omega⟩,fun hc => ?_⟩
   rcases hc with ⟨O,V⟩|hc
   . exact p ⟨O,by have:=eφ b;omega⟩
   . rcases m b hc with hs|hs
     . exact p ⟨u b hs,by have:=eφ b;have:=J b;omega⟩
     . omega
 . rcases m b hb with hs|hs
   . exact .inl (by have:=eφ b;omega)
   . exact .inr hs
theorem RL.int_inv {k n l v vs φ} (h:RL E w F (.i k n::l) (v::vs) φ):v = .int k n/\RL E w F l vs φ:=by
 cases h with
 |scal _ _ _ _ _ h1 h2=>exact ⟨h1,h2⟩
theorem codedD [ak_] {m:M} {t:TC} (zs:List (El t)):∀ a ∈ aW_ m t zs,∃ m,a.coded m:=fun a ha=>⟨m,ec_ a ha⟩
theorem tg_ [ak_] {f:FuncId} {t:TC} {m1 m2:M} (p:m1 ≠ .v) (m:m2 ≠ .v) (h:InsM E.P f (E.eid t) t.width t.bytes) {xs ys:List (El t)} {i:Nat} (hi:i<=xs.length) (hb:(xs.length+ys.length)*t.bytes<=140737488355328) :
  eE_ E f [.sl m1 t xs,.i .i64 i,.sl m2 t ys] (.sl (M.both m1 m2) t (xs.take i++ys++xs.drop i)) [] [.o,.v,.o]:=by
 intro w F Vs φ k h1 hlow _;have low:∀ b,φ b≠0->F b/\b<w.heap.size:=k.low;obtain ⟨S,_,rfl⟩:=k.len_inv;replace k:=k.own_inv p;obtain ⟨vals,φx,φ2,hS,hx,u,k,e1⟩:=k;obtain ⟨I,_,rfl⟩:=k.len_inv;replace k:=k.int_inv;obtain ⟨rfl,k⟩:=k;obtain ⟨U,_,rfl⟩:=k.len_inv;replace k:=k.own_inv m;obtain ⟨us,φy,φ4,hU,hy,hUF,k,e3⟩:=k;obtain ⟨rfl,e4⟩:=RL.nil_inv k;have eφ:∀ b,φ b=cT_ S b+φx b+(cT_ U b+φy b):=fun b=>by rw [e1,e3,e4];omega
 refine (h w S xs.length vals U ys.length us i hS hU (fun b hb=>by have:=h1 b;have:=eφ b;omega) hi (hx.one (codedD _)) (hy.one (codedD _)) hb).mono ?_
 rintro e' w' ⟨R,rfl,Z,hg,z⟩
 have O:RL E w F (aW_ m1.sub t (xs.take i)++aW_ m1.sub t (xs.drop i)) vals φx:=by rw [<-cF_,List.take_append_drop];exact hx
 obtain ⟨va,vb,φa,φb,rfl,ha,Y,e6⟩:=O.split;have T:va.length=i*t.width:=by rw [<-ha.length,dH_,List.length_take,Nat.min_eq_left hi]
 rw [<-T,List.take_left,List.drop_left] at Z;have hz:RL E w F (aW_ m1.sub t (xs.take i)++aW_ m2.sub t ys++aW_ m1.sub t (xs.drop i)) (va++us++vb) (fun b=>φa b+φy b+φb b) :=
  (ha.append hy (ψ:=fun b=>φa b+φy b) (fun b=>rfl)).append Y (fun b=>rfl)
 have hl:(xs.take i++ys++xs.drop i).length=xs.length+ys.length:=by simp;omega
 have he:∀ b,cT_ S b+(φa b+φy b+φb b)<=φ b:=fun b=>by have:=eφ b;have:=e6 b;omega
 by_cases hd:m1 = .d/\m2 = .d
 . obtain ⟨rfl,rfl⟩:=hd
   have J:RL E w F (aW_ .d t (xs.take i++ys++xs.drop i)) (va++us++vb) (fun b=>φa b+φy b+φb b):=by rw [cF_,cF_];exact hz
   obtain ⟨φ',k1,k2⟩:=rW_ (S:=S) (R:=R) h1 low u J he (by rw [hl];exact Z) hg z;exact ⟨R,φ',rfl,k1,k2⟩
 . have V:M.both m1 m2 = .s:=by cases m1<;>cases m2<;>first|rfl|exact absurd rfl p|exact absurd rfl m|exact absurd ⟨rfl,rfl⟩ hd
   rw [V];obtain ⟨φ',k1,k2⟩:=nC_ (S:=S) (R:=R) (t:=t) (zs:=xs.take i++ys++xs.drop i) h1 low u hz (by rw [List.map_append,List.map_append,fL_,fL_,fL_,cF_,cF_]) he (by rw [hl];exact Z) hg z;exact ⟨R,φ',rfl,k1,k2⟩
theorem tv_ [ak_] {f:FuncId} {t:TC} {m:M} (p:m ≠ .v) (h:DelM E.P f (E.eid t) t.width) {xs:List (El t)} {i j:Nat} (Z:i<=j) (hj:j<=xs.length) :
  eE_ E f [.sl m t xs,.i .i64 i,.i .i64 j] (.sl (M.both m m) t (xs.take i++xs.drop j)) [] [.o,.v,.v]:=by
 intro w F Vs φ k h1 hlow _;have low:∀ b,φ b≠0->F b/\b<w.heap.size:=k.low;obtain ⟨S,_,rfl⟩:=k.len_inv;replace k:=k.own_inv p;obtain ⟨vals,φx,φ2,hS,hx,z,k,e1⟩:=k;obtain ⟨I,_,rfl⟩:=k.len_inv;replace k:=k.int_inv;obtain ⟨rfl,k⟩:=k;obtain ⟨J,_,rfl⟩:=k.len_inv;replace k:=k.int_inv;obtain ⟨rfl,k⟩:=k;obtain ⟨rfl,e4⟩:=RL.nil_inv k;have eφ:∀ b,φ b=cT_ S b+φx b:=fun b=>by rw [e1,e4];omega
 refine (h w S xs.length vals i j hS Z hj (hx.one (codedD _))).mono ?_
 rintro e' w' ⟨R,rfl,hR,hg,O⟩
 have U:RL E w F (aW_ m.sub t (xs.take i)++(aW_ m.sub t ((xs.drop i).take (j - i))++aW_ m.sub t (xs.drop j))) vals φx:=by
  rw [<-cF_,<-cF_];have:xs.drop j=(xs.drop i).drop (j - i):=by rw [List.drop_drop];congr 1;omega
  rw [this,List.take_append_drop,List.take_append_drop];exact hx
 obtain ⟨va,vc,φa,φc,rfl,ha,hc,e6⟩:=U.split;obtain ⟨vm,vb,φm,φb,rfl,hm,hb',e7⟩:=hc.split;have u:va.length=i*t.width:=by rw [<-ha.length,dH_,List.length_take,Nat.min_eq_left (by omega)]
 have V:vm.length=(j - i)*t.width:=by rw [<-hm.length,dH_,List.length_take,List.length_drop,Nat.min_eq_left (by omega)]
 have Y:(va++vm).length=j*t.width:=by rw [List.length_append,u,V,<-Nat.add_mul];congr 1;omega
 rw [<-u,List.take_left,<-Y,<-List.append_assoc,List.drop_left] at hR;have hz:RL E w F (aW_ m.sub t (xs.take i)++aW_ m.sub t (xs.drop j)) (va++vb) (fun b=>φa b+φb b):=ha.append hb' (fun b=>rfl);have hl:(xs.take i++xs.drop j).length=xs.length - (j - i):=by simp;omega
 have he:∀ b,cT_ S b+(φa b+φb b)<=φ b:=fun b=>by have:=eφ b;have:=e6 b;have:=e7 b;omega
 cases m with
 |v=>exact absurd rfl p
 |d=>
  have T:RL E w F (aW_ .d t (xs.take i++xs.drop j)) (va++vb) (fun b=>φa b+φb b):=by rw [cF_];exact hz
  obtain ⟨φ',k1,k2⟩:=rW_ (S:=S) (R:=R) h1 low z T he (by rw [hl];exact hR) hg O;exact ⟨R,φ',rfl,k1,k2⟩
 |s=>
  obtain ⟨φ',k1,k2⟩:=nC_ (S:=S) (R:=R) (t:=t) (zs:=xs.take i++xs.drop j) h1 low z hz (by rw [List.map_append,fL_,fL_,cF_]) he (by rw [hl];exact hR) hg O;exact ⟨R,φ',rfl,k1,k2⟩
theorem nDel_ok [ak_] {f:FuncId} {t:TC} {m:M} (k:m ≠ .v) (h:DelM E.P f (E.eid t) t.width) {xs r:List (El t)} {i j:Int} (hr:nDelete xs i j=some r) :
  eE_ E f [.sl m t xs,.i .i64 i,.i .i64 j] (.sl (M.both m m) t r) [] [.o,.v,.v]:=by
 unfold nDelete at hr;by_cases hc:0<=i/\i<=j/\j<=(xs.length:Int)
 . obtain ⟨p,u,z⟩:=hc
   obtain ⟨i,rfl⟩:=Int.eq_ofNat_of_zero_le p;obtain ⟨j,rfl⟩:=Int.eq_ofNat_of_zero_le (Int.le_trans p u);simp only [p,u,z,decide_true,Bool.and_true,cond_true,Option.some.injEq] at hr;subst hr;exact tv_ k h (by omega) (by omega)
 . have:(decide (0<=i)&&(decide (i<=j)&&decide (j<=(xs.length:Int))))=false:=by
    rw [Bool.eq_false_iff];intro h;simp only [Bool.and_eq_true,decide_eq_true_eq] at h;exact hc h
   rw [this] at hr;cases hr
theorem nIns_ok [ak_] {f:FuncId} {t:TC} {m1 m2:M} (m:m1 ≠ .v) (k:m2 ≠ .v) (h:InsM E.P f (E.eid t) t.width t.bytes) {xs ys r:List (El t)} {i:Int} (hr:nInsert t.bytes xs i ys=some r) :
  eE_ E f [.sl m1 t xs,.i .i64 i,.sl m2 t ys] (.sl (M.both m1 m2) t r) [] [.o,.v,.o]:=by
 unfold nInsert at hr;by_cases hc:0<=i/\i<=(xs.length:Int)
 . obtain ⟨p,u⟩:=hc
   obtain ⟨i,rfl⟩:=Int.eq_ofNat_of_zero_le p;by_cases hb:(xs.length+ys.length)*t.bytes<=140737488355328
   . simp only [p,u,hb,decide_true,Bool.and_true,cond_true,Option.some.injEq] at hr
     subst hr;exact tg_ m k h (by omega) hb
   . simp [p,u,hb] at hr
 . have:(decide (0<=i)&&decide (i<=(xs.length:Int)))=false:=by
    rw [Bool.eq_false_iff];intro h;simp only [Bool.and_eq_true,decide_eq_true_eq] at h;exact hc h
   rw [this] at hr;cases hr
end
end Go.Pi
section
namespace Go.Proofs
open Go.Shelf Go.RowKit Go.Lib Go.Pi
section
variable {P:Program}
theorem tI_ {ops:Array Oper} {o:Oper} {a:Act} {w:World} {K:Act->World->Prop} {Q:Exit->Act->World->Prop} {E:Prop}
  (p:o.guard=none) (d x:Operand) (dT sT:TypeId) (k:o.op=Op.call { callee:=Callee.builtin Builtin.append,args:=#[d,x],argTypes:=#[dT,sT] })
  (v u:Value) (hd:a.eval d=v) (hx:a.eval x=u) {v':Value} {w':World} (hr:(Builtin.append_ #[dT,sT] o.type #[v,u]).run P w = .ok v' w') (z:K (a.put o.dst v') w') :
  if Region.wanted o (yielded ops a.tmps)=true then Oper.wp P o a w K Q else E:=by
 have m:Region.wanted o (yielded ops a.tmps)=true:=by simp [Region.wanted,p]
 rw [if_pos m];unfold Oper.wp;simp [execOp,k,resolve,invoke,builtin,hd,hx,hr,Result.andThen]
 exact z
theorem sR_ (w:World) {ops:Array Oper} {iN_:List Oper} {o:Oper} {a:Act} {Q:Exit->Act->World->Prop} (k:o.guard=none) (d:Operand) (t:TypeId)
  (m:o.op = .call { callee:=.builtin .clear,args:=#[d],argTypes:=#[t] }) (v:Value) (hd:a.eval d=v) {v':Value} {w':World}
  (hr:(Builtin.clear_ #[t] o.type #[v]).run P w = .ok v' w') (h:wpList P ops Q iN_ (a.put o.dst v') w'):wpList P ops Q (o::iN_) a w :=
 wpList_plain k fun _ p=>by unfold Oper.wp execOp;simp only [m,resolve,invoke,builtin,Sem.run_bind,Sem.run_pure,Result.andThen_ok,List.map_toArray,List.map_cons,List.map_nil,hd,hr];exact p _ _ h
theorem run_clear_k (w:World) (t e ty:TypeId) (z:Value) (ht:P.underlying t=some (.slice e)) (u:∀ w,(zeroValue e).run P w = .ok z w) (g o n c:Nat) (O:0<n) (cur:Array Value) (T:TypeId) (I:w.heap[g]?=some (.cells cur T (0,0)))
  (k:o+(Builtin.zeroCells z.cells n).toList.length<=cur.size) (J:∀ v ∈ (Builtin.zeroCells z.cells n).toList,v.oneCell'=true) :
  (Builtin.clear_ #[t] ty #[.slice (some ⟨g,o,none⟩) n c]).run P w = .ok (.tuple #[]) (w.setRow g (cur.toList.take o++(Builtin.zeroCells z.cells n).toList++cur.toList.drop (o+(Builtin.zeroCells z.cells n).toList.length)).toArray):=by
 have p:=run_storeCells_at P g o T (Builtin.zeroCells z.cells n).toList 0 cur w I (by simpa using k) J;obtain ⟨m,rfl⟩:∃ m,n=m+1:=⟨n - 1,by omega⟩
 simp only [Builtin.clear_,run_underlying ht,Sem.run_bind,Result.andThen_ok,u];simp only [List.getElem?_toArray,List.getElem?_cons_zero,Sem.run_bind,run_underlying ht,Result.andThen_ok,u,p,Nat.add_zero,Sem.run_pure]
end
theorem tH_ (w:World) {P:Program} {ops:Array Oper} {iN_:List Oper} {o:Oper} {a:Act} {Q:Exit->Act->World->Prop} (k:o.guard=none) (d s:Operand) (t t':TypeId)
  (m:o.op = .call { callee:=.builtin .copy,args:=#[d,s],argTypes:=#[t,t'] }) (v u:Value) (hd:a.eval d=v) (hs:a.eval s=u) {v':Value} {w':World}
  (hr:(Builtin.copy_ #[t,t'] o.type #[v,u]).run P w = .ok v' w') (h:wpList P ops Q iN_ (a.put o.dst v') w'):wpList P ops Q (o::iN_) a w :=
 wpList_plain k fun _ p=>by unfold Oper.wp execOp;simp only [m,resolve,invoke,builtin,Sem.run_bind,Sem.run_pure,Result.andThen_ok,List.map_toArray,List.map_cons,List.map_nil,hd,hs,hr];exact p _ _ h
theorem step_copy_runI {P:Program} {ops:Array Oper} {o:Oper} {a:Act} {w:World} {K:Act->World->Prop} {Q:Exit->Act->World->Prop} {E:Prop}
  (p:o.guard=none) (d x:Operand) (dT sT:TypeId) (k:o.op=Op.call { callee:=Callee.builtin Builtin.copy,args:=#[d,x],argTypes:=#[dT,sT] })
  (v u:Value) (hd:a.eval d=v) (hx:a.eval x=u) {v':Value} {w':World} (hr:(Builtin.copy_ #[dT,sT] o.type #[v,u]).run P w = .ok v' w') (z:K (a.put o.dst v') w') :
  if Region.wanted o (yielded ops a.tmps)=true then Oper.wp P o a w K Q else E:=by
 have m:Region.wanted o (yielded ops a.tmps)=true:=by simp [Region.wanted,p]
 rw [if_pos m];unfold Oper.wp;simp [execOp,k,resolve,invoke,builtin,hd,hx,hr,Result.andThen]
 exact z
theorem run_copy_rowK {P:Program} (w:World) (dT sT ty elem:TypeId) (k g o dLen dCap:Nat) (a:Addr) (sLen sCap:Nat) (cur:Array Value) (t:TypeId) (cs:List Value)
  (z:P.underlying dT=some (.slice elem)) (hs:(P.info? elem).map (·.size)=some k)
  (J:w.heap[g]?=some (.cells cur t (0,0))) (I:cs.length=Nat.min sLen dLen*k)
  (m:∀ j v,cs[j]?=some v->w.cell? (a.add j)=some v) (p:o+cs.length<=cur.size) (O:∀ v ∈ cs,v.oneCell'=true) :
  (Builtin.copy_ #[dT,sT] ty #[.slice (some ⟨g,o,none⟩) dLen dCap,.slice (some a) sLen sCap]).run P w =
   .ok (goInt (Nat.min sLen dLen)) (w.setRow g (cur.toList.take o++cs++cur.toList.drop (o+cs.length)).toArray):=by
 have hl:=run_loadCells_list (P:=P) w a cs m;have u:=run_storeCells_at P g o t cs 0 cur w J (by simpa using p) O;cases hq:P.info? elem with
 |none=>simp [hq] at hs
 |some i=>
  have hi:i.size=k:=by simpa [hq] using hs
  simp [Builtin.copy_,run_underlying z,Builtin.lenOf,Builtin.firstCells,sizeOf,typeInfo,hq,hi,<-I,hl,u]
theorem zc_one (cs:Array Value) (h:cs.toList.all Value.oneCell'=true) (n:Nat):∀ v ∈ (Builtin.zeroCells cs n).toList,v.oneCell'=true:=by intro v k;simp only [Builtin.zeroCells,Array.toList_map,List.mem_map,Array.toList_range,List.mem_range] at k;obtain ⟨x,hx,rfl⟩:=k;have m:0<cs.size:=Nat.pos_of_mul_pos_left (by omega:0<n*cs.size);have:x % cs.size<cs.size:=Nat.mod_lt _ m;rw [getElem!_pos cs _ this];exact List.all_eq_true.1 h _ (by simp)
theorem own_low {w:World} {e:TypeId} {K:Nat} {S:Value} {n:Nat} {vals:List Value} (h:w.ownsRow 0 e K S n vals):∀ b,cT_ S b≠0->b<w.heap.size:=by
 intro b hb;rcases h.2 with ⟨rfl,_⟩|⟨g,cap,cur,rfl,_,k,_⟩
 . simp [cT_] at hb
 . have:g=b:=by simp only [cT_] at hb;exact Classical.byContradiction fun h=>hb (if_neg h)
   subst this;exact (Array.getElem?_eq_some_iff.1 k).1
theorem drow_size (w:World) (g:Nat) (A:Array Value):w.heap.size<=(w.drew.setRow g A).heap.size:=by
 have:(w.drew.setRow g A).heap.size=w.drew.heap.size:=by simp [World.setRow]
 rw [this];exact Nat.le_refl _
theorem owns1_iff {w:World} {e:TypeId} {v:Value} {n:Nat} {xs:List Value}:w.ownsRow 0 e 1 v n xs ↔
  (xs.length=n/\(v = .slice none 0 0/\n=0\/∃ g cap cur,v = .slice (some ⟨g,0,none⟩) n cap/\0<=g/\w.heap[g]?=some (.cells cur e (0,0))/\n<=cap/\cap<=maxLen/\cur.size=cap/\cur.toList.take n=xs)):=by
 unfold World.ownsRow;simp only [Nat.mul_one]
end Go.Proofs
end
section
namespace Go.Proofs
open Go.Shelf
def Tryz.lays143_ren:Go.Shelf.Ren:=⟨fun|143=>72|219=>113|217=>156|225=>157|224=>158|267=>159|266=>213|314=>214|n=>n,fun|9=>9|3=>3|4=>4|5=>5|46=>184|146=>243|51=>242|n=>n,fun|1=>0|n=>n⟩
theorem Tryz.lays143:Go.Proofs.Lays.n143 Tryz.prog Tryz.lays143_ren:={
 mixed:=by kernel_rfl
 f143:=Tryz.func72.trans (congrArg some (by kernel_rfl))
 f217:=Tryz.func156.trans (congrArg some (by kernel_rfl))
 f219:=Tryz.func113.trans (congrArg some (by kernel_rfl))
 f224:=Tryz.func158.trans (congrArg some (by kernel_rfl))
 f225:=Tryz.func157.trans (congrArg some (by kernel_rfl))
 f266:=Tryz.func213.trans (congrArg some (by kernel_rfl))
 f267:=Tryz.func159.trans (congrArg some (by kernel_rfl))
 f314:=Tryz.func214.trans (congrArg some (by kernel_rfl))
 t3:=Tryz.underlying3
 a3:=Tryz.isAgg3
 z3:=Tryz.sizeOf3
 v3:=Tryz.zeroValue3
 t4:=Tryz.underlying4
 a4:=Tryz.isAgg4
 z4:=Tryz.sizeOf4
 v4:=Tryz.zeroValue4
 t5:=Tryz.underlying5
 a5:=Tryz.isAgg5
 z5:=Tryz.sizeOf5
 v5:=Tryz.zeroValue5
 t9:=Tryz.underlying9
 a9:=Tryz.isAgg9
 z9:=Tryz.sizeOf9
 v9:=Tryz.zeroValue9
 t46:=Tryz.underlying184
 a46:=Tryz.isAgg184
 z46:=Tryz.sizeOf184
 v46:=Tryz.zeroValue184
 t51:=Tryz.underlying242
 a51:=Tryz.isAgg242
 z51:=Tryz.sizeOf242
 v51:=Tryz.zeroValue242
 t146:=Tryz.underlying243
 a146:=Tryz.isAgg243
 z146:=Tryz.sizeOf243
 v146:=Tryz.zeroValue243
 g1:=by kernel_rfl }
open Go.RowKit Go.Sort Go.Lib in
theorem Tryz.strings_Index (s sub:ByteArray) (m:Int) (w:World) (hs:s.size<4294967281) (k:w.cell? ⟨0,0,none⟩=some (.int .i64 m)) :
  Calls Tryz.prog 72 #[.string s,.string sub] w fun e w'=>e = .returned (.int .i64 (Lib.index s.data.toList sub.data.toList))/\w'=w:=Any.strings_Index Tryz.lays143 s sub m w hs k
end Go.Proofs
namespace Go.Pi
open Go.Proofs
theorem strings_Index.ok (n:Nat):strings_Index.e.Oks E (cx n) n:=fun _ _ _ _ h=>s8_ (g:=0) (fun s sep m w p k=>Tryz.strings_Index s sep m w p k) (.tail _ (.head _)) h
end Go.Pi
end
section
namespace Go.Proofs
open Go.Shelf
def Tryz.laysM171_ren:Go.Shelf.Ren:=⟨fun|171=>95|243=>137|246=>192|283=>243|284=>244|285=>245|286=>246|129=>269|317=>268|318=>270|319=>271|320=>272|337=>283|338=>284|n=>n,fun|3=>3|9=>9|2=>2|4=>4|171=>266|0=>0|53=>267|37=>22|5=>5|173=>270|212=>292|51=>242|20=>20|213=>293|46=>184|232=>309|233=>310|n=>n,fun|17=>3|18=>4|19=>5|n=>n⟩
theorem Tryz.laysM171:Go.Proofs.LaysM.n171 Tryz.prog Tryz.laysM171_ren:={
 mixed:=by kernel_rfl
 f129:=Tryz.func269.trans (congrArg some (by kernel_rfl))
 f171:=Tryz.func95.trans (congrArg some (by kernel_rfl))
 f243:=Tryz.func137.trans (congrArg some (by kernel_rfl))
 f246:=Tryz.func192.trans (congrArg some (by kernel_rfl))
 f283:=Tryz.func243.trans (congrArg some (by kernel_rfl))
 f284:=Tryz.func244.trans (congrArg some (by kernel_rfl))
 f285:=Tryz.func245.trans (congrArg some (by kernel_rfl))
 f286:=Tryz.func246.trans (congrArg some (by kernel_rfl))
 f317:=Tryz.func268.trans (congrArg some (by kernel_rfl))
 f318:=Tryz.func270.trans (congrArg some (by kernel_rfl))
 f319:=Tryz.func271.trans (congrArg some (by kernel_rfl))
 f320:=Tryz.func272.trans (congrArg some (by kernel_rfl))
 f337:=Tryz.func283.trans (congrArg some (by kernel_rfl))
 f338:=Tryz.func284.trans (congrArg some (by kernel_rfl))
 t0:=Tryz.underlying0
 a0:=Tryz.isAgg0
 z0:=Tryz.sizeOf0
 v0:=Tryz.zeroValue0
 t2:=Tryz.underlying2
 a2:=Tryz.isAgg2
 z2:=Tryz.sizeOf2
 v2:=Tryz.zeroValue2
 t3:=Tryz.underlying3
 a3:=Tryz.isAgg3
 z3:=Tryz.sizeOf3
 v3:=Tryz.zeroValue3
 t4:=Tryz.underlying4
 a4:=Tryz.isAgg4
 z4:=Tryz.sizeOf4
 v4:=Tryz.zeroValue4
 t5:=Tryz.underlying5
 a5:=Tryz.isAgg5
 z5:=Tryz.sizeOf5
 v5:=Tryz.zeroValue5
 t9:=Tryz.underlying9
 a9:=Tryz.isAgg9
 z9:=Tryz.sizeOf9
 v9:=Tryz.zeroValue9
 t20:=Tryz.underlying20
 a20:=Tryz.isAgg20
 z20:=Tryz.sizeOf20
 v20:=Tryz.zeroValue20
 t37:=Tryz.underlying22
 a37:=Tryz.isAgg22
 z37:=Tryz.sizeOf22
 v37:=Tryz.zeroValue22
 t46:=Tryz.underlying184
 a46:=Tryz.isAgg184
 z46:=Tryz.sizeOf184
 v46:=Tryz.zeroValue184
 t51:=Tryz.underlying242
 a51:=Tryz.isAgg242
 z51:=Tryz.sizeOf242
 v51:=Tryz.zeroValue242
 t53:=Tryz.underlying267
 a53:=Tryz.isAgg267
 z53:=Tryz.sizeOf267
 v53:=Tryz.zeroValue267
 t171:=Tryz.underlying266
 a171:=Tryz.isAgg266
 z171:=Tryz.sizeOf266
 v171:=Tryz.zeroValue266
 t173:=Tryz.underlying270
 a173:=Tryz.isAgg270
 z173:=Tryz.sizeOf270
 v173:=Tryz.zeroValue270
 t212:=Tryz.underlying292
 a212:=Tryz.isAgg292
 z212:=Tryz.sizeOf292
 v212:=Tryz.zeroValue292
 t213:=Tryz.underlying293
 a213:=Tryz.isAgg293
 z213:=Tryz.sizeOf293
 t232:=Tryz.underlying309
 a232:=Tryz.isAgg309
 z232:=Tryz.sizeOf309
 v232:=Tryz.zeroValue309
 t233:=Tryz.underlying310
 a233:=Tryz.isAgg310
 z233:=Tryz.sizeOf310
 v233:=Tryz.zeroValue310
 g17:=by kernel_rfl
 g18:=by kernel_rfl
 g19:=by kernel_rfl
 i0:=by kernel_rfl
 i2:=by kernel_rfl
 i3:=by kernel_rfl
 i4:=by kernel_rfl
 i5:=by kernel_rfl
 i9:=by kernel_rfl
 i20:=by kernel_rfl
 i37:=by kernel_rfl
 i46:=by kernel_rfl
 i51:=by kernel_rfl
 i53:=by kernel_rfl
 i171:=by kernel_rfl
 i173:=by kernel_rfl
 i212:=by kernel_rfl
 i232:=by kernel_rfl
 i233:=by kernel_rfl
 m17:=by kernel_rfl
 m18:=by kernel_rfl
 m19:=by kernel_rfl }
open Go.RowKit Go.Sort Go.Lib in
theorem Tryz.strconv_Itoa (n:Int) (u : -9223372036854775808<=n) (p:n<=9223372036854775807) (w:World) (m:Lib.TabIs Tryz.prog w "internal/strconv.uint64pow10" .u64 Lib.pow10Tab) :
  Calls Tryz.prog 95 #[.int .i64 n] w fun e w'=>e = .returned (.string ⟨(Lib.itoa n).toArray⟩)/\∃ k os,w'=grow (w.drewN k) os:=Any.strconv_Itoa Tryz.laysM171 n u p w m
end Go.Proofs
namespace Go.Pi
open Go.Proofs
theorem mG_:E.P.globalNamed "internal/strconv.uint64pow10" = some 3:=by kernel_rfl
theorem strconv_Itoa.ok (n:Nat):strconv_Itoa.e.Oks E (cx n) n:=fun _ _ _ _ h=>nItoa_ok (fun n m k w ht=>Tryz.strconv_Itoa n m k w ht) (.head _) mG_ h
end Go.Pi
end
section
namespace Go.Proofs
open Go.Shelf
def Tryz.laysC172_ren:Go.Shelf.Ren:=⟨fun|172=>102|244=>147|245=>148|247=>199|279=>200|280=>201|281=>202|282=>203|287=>250|316=>251|171=>95|205=>252|321=>277|322=>278|243=>137|246=>192|283=>243|284=>244|285=>245|286=>246|129=>269|317=>268|318=>270|319=>271|320=>272|337=>283|338=>284|n=>n,fun|9=>9|3=>3|75=>140|76=>141|4=>4|5=>5|167=>233|37=>22|0=>0|85=>234|2=>2|168=>236|53=>267|175=>274|46=>184|210=>277|127=>272|145=>303|143=>301|21=>21|171=>266|173=>270|212=>292|51=>242|20=>20|213=>293|232=>309|233=>310|80=>230|n=>n,fun|15=>1|16=>2|17=>3|18=>4|19=>5|n=>n⟩
theorem Tryz.laysC172:Go.Proofs.LaysC.n172 Tryz.prog Tryz.laysC172_ren:={
 mixed:=by kernel_rfl
 f129:=Tryz.func269.trans (congrArg some (by kernel_rfl))
 f171:=Tryz.func95.trans (congrArg some (by kernel_rfl))
 f172:=Tryz.func102.trans (congrArg some (by kernel_rfl))
 f205:=Tryz.func252.trans (congrArg some (by kernel_rfl))
 f243:=Tryz.func137.trans (congrArg some (by kernel_rfl))
 f244:=Tryz.func147.trans (congrArg some (by kernel_rfl))
 f245:=Tryz.func148.trans (congrArg some (by kernel_rfl))
 f246:=Tryz.func192.trans (congrArg some (by kernel_rfl))
 f247:=Tryz.func199.trans (congrArg some (by kernel_rfl))
 f279:=Tryz.func200.trans (congrArg some (by kernel_rfl))
 f280:=Tryz.func201.trans (congrArg some (by kernel_rfl))
 f281:=Tryz.func202.trans (congrArg some (by kernel_rfl))
 f282:=Tryz.func203.trans (congrArg some (by kernel_rfl))
 f283:=Tryz.func243.trans (congrArg some (by kernel_rfl))
 f284:=Tryz.func244.trans (congrArg some (by kernel_rfl))
 f285:=Tryz.func245.trans (congrArg some (by kernel_rfl))
 f286:=Tryz.func246.trans (congrArg some (by kernel_rfl))
 f287:=Tryz.func250.trans (congrArg some (by kernel_rfl))
 f316:=Tryz.func251.trans (congrArg some (by kernel_rfl))
 f317:=Tryz.func268.trans (congrArg some (by kernel_rfl))
 f318:=Tryz.func270.trans (congrArg some (by kernel_rfl))
 f319:=Tryz.func271.trans (congrArg some (by kernel_rfl))
 f320:=Tryz.func272.trans (congrArg some (by kernel_rfl))
 f321:=Tryz.func277.trans (congrArg some (by kernel_rfl))
 f322:=Tryz.func278.trans (congrArg some (by kernel_rfl))
 f337:=Tryz.func283.trans (congrArg some (by kernel_rfl))
 f338:=Tryz.func284.trans (congrArg some (by kernel_rfl))
 t0:=Tryz.underlying0
 a0:=Tryz.isAgg0
 z0:=Tryz.sizeOf0
 v0:=Tryz.zeroValue0
 t2:=Tryz.underlying2
 a2:=Tryz.isAgg2
 z2:=Tryz.sizeOf2
 v2:=Tryz.zeroValue2
 t3:=Tryz.underlying3
 a3:=Tryz.isAgg3
 z3:=Tryz.sizeOf3
 v3:=Tryz.zeroValue3
 t4:=Tryz.underlying4
 a4:=Tryz.isAgg4
 z4:=Tryz.sizeOf4
 v4:=Tryz.zeroValue4
 t5:=Tryz.underlying5
 a5:=Tryz.isAgg5
 z5:=Tryz.sizeOf5
 v5:=Tryz.zeroValue5
 t9:=Tryz.underlying9
 a9:=Tryz.isAgg9
 z9:=Tryz.sizeOf9
 v9:=Tryz.zeroValue9
 t20:=Tryz.underlying20
 a20:=Tryz.isAgg20
 z20:=Tryz.sizeOf20
 v20:=Tryz.zeroValue20
 t21:=Tryz.underlying21
 a21:=Tryz.isAgg21
 z21:=Tryz.sizeOf21
 v21:=Tryz.zeroValue21
 t37:=Tryz.underlying22
 a37:=Tryz.isAgg22
 z37:=Tryz.sizeOf22
 v37:=Tryz.zeroValue22
 t46:=Tryz.underlying184
 a46:=Tryz.isAgg184
 z46:=Tryz.sizeOf184
 v46:=Tryz.zeroValue184
 t51:=Tryz.underlying242
 a51:=Tryz.isAgg242
 z51:=Tryz.sizeOf242
 v51:=Tryz.zeroValue242
 t53:=Tryz.underlying267
 a53:=Tryz.isAgg267
 z53:=Tryz.sizeOf267
 v53:=Tryz.zeroValue267
 t75:=Tryz.underlying140
 a75:=Tryz.isAgg140
 z75:=Tryz.sizeOf140
 v75:=Tryz.zeroValue140
 t76:=Tryz.underlying141
 a76:=Tryz.isAgg141
 z76:=Tryz.sizeOf141
 v76:=Tryz.zeroValue141
 t85:=Tryz.underlying234
 a85:=Tryz.isAgg234
 z85:=Tryz.sizeOf234
 v85:=Tryz.zeroValue234
 t127:=Tryz.underlying272
 a127:=Tryz.isAgg272
 z127:=Tryz.sizeOf272
 v127:=Tryz.zeroValue272
 t143:=Tryz.underlying301
 a143:=Tryz.isAgg301
 z143:=Tryz.sizeOf301
 v143:=Tryz.zeroValue301
 t145:=Tryz.underlying303
 a145:=Tryz.isAgg303
 z145:=Tryz.sizeOf303
 v145:=Tryz.zeroValue303
 t167:=Tryz.underlying233
 a167:=Tryz.isAgg233
 z167:=Tryz.sizeOf233
 v167:=Tryz.zeroValue233
 t168:=Tryz.underlying236
 a168:=Tryz.isAgg236
 z168:=Tryz.sizeOf236
 v168:=Tryz.zeroValue236
 t171:=Tryz.underlying266
 a171:=Tryz.isAgg266
 z171:=Tryz.sizeOf266
 v171:=Tryz.zeroValue266
 t173:=Tryz.underlying270
 a173:=Tryz.isAgg270
 z173:=Tryz.sizeOf270
 v173:=Tryz.zeroValue270
 t175:=Tryz.underlying274
 a175:=Tryz.isAgg274
 z175:=Tryz.sizeOf274
 v175:=Tryz.zeroValue274
 t210:=Tryz.underlying277
 a210:=Tryz.isAgg277
 z210:=Tryz.sizeOf277
 v210:=Tryz.zeroValue277
 t212:=Tryz.underlying292
 a212:=Tryz.isAgg292
 z212:=Tryz.sizeOf292
 v212:=Tryz.zeroValue292
 t213:=Tryz.underlying293
 a213:=Tryz.isAgg293
 z213:=Tryz.sizeOf293
 t232:=Tryz.underlying309
 a232:=Tryz.isAgg309
 z232:=Tryz.sizeOf309
 v232:=Tryz.zeroValue309
 t233:=Tryz.underlying310
 a233:=Tryz.isAgg310
 z233:=Tryz.sizeOf310
 v233:=Tryz.zeroValue310
 g15:=by kernel_rfl
 g16:=by kernel_rfl
 g17:=by kernel_rfl
 g18:=by kernel_rfl
 g19:=by kernel_rfl
 t80:=Tryz.underlying230
 a80:=Tryz.isAgg230
 z80:=Tryz.sizeOf230
 v80:=Tryz.zeroValue230
 i0:=by kernel_rfl
 i2:=by kernel_rfl
 i3:=by kernel_rfl
 i4:=by kernel_rfl
 i5:=by kernel_rfl
 i9:=by kernel_rfl
 i20:=by kernel_rfl
 i21:=by kernel_rfl
 i37:=by kernel_rfl
 i46:=by kernel_rfl
 i51:=by kernel_rfl
 i53:=by kernel_rfl
 i75:=by kernel_rfl
 i76:=by kernel_rfl
 i80:=by kernel_rfl
 i85:=by kernel_rfl
 i127:=by kernel_rfl
 i143:=by kernel_rfl
 i145:=by kernel_rfl
 i167:=by kernel_rfl
 i168:=by kernel_rfl
 i171:=by kernel_rfl
 i173:=by kernel_rfl
 i175:=by kernel_rfl
 i210:=by kernel_rfl
 i212:=by kernel_rfl
 i232:=by kernel_rfl
 i233:=by kernel_rfl
 m15:=by kernel_rfl
 m16:=by kernel_rfl
 m17:=by kernel_rfl
 m18:=by kernel_rfl
 m19:=by kernel_rfl
 c0:=by kernel_rfl
 c2:=by kernel_rfl
 c3:=by kernel_rfl
 c4:=by kernel_rfl
 c5:=by kernel_rfl
 c9:=by kernel_rfl
 c20:=by kernel_rfl
 c21:=by kernel_rfl
 c37:=by kernel_rfl
 c46:=by kernel_rfl
 c51:=by kernel_rfl
 c53:=by kernel_rfl
 c75:=by kernel_rfl
 c76:=by kernel_rfl
 c80:=by kernel_rfl
 c85:=by kernel_rfl
 c127:=by kernel_rfl
 c143:=by kernel_rfl
 c145:=by kernel_rfl
 c167:=by kernel_rfl
 c168:=by kernel_rfl
 c171:=by kernel_rfl
 c173:=by kernel_rfl
 c175:=by kernel_rfl
 c210:=by kernel_rfl
 c212:=by kernel_rfl
 c213:=by kernel_rfl
 c232:=by kernel_rfl
 c233:=by kernel_rfl }
end Go.Proofs
namespace Go.Pi
open Go.Proofs
theorem atoiM:AtoiM E.P 102 1 2 5:=⟨fun s v w m k=>Any.strconv_Atoi_ok Tryz.laysC172 s m v k w,fun s ev w m k z u=>by
 cases ha:Lib.atoiAll s.data.toList
 . rename_i v;exact absurd ha (k.1 v)
 . exact (Any.strconv_Atoi_syntax Tryz.laysC172 s m ha ev w z u).mono fun e w' ⟨N,p,_,_,hb⟩=>⟨⟨_,_,p⟩,hb⟩
 . exact absurd ha k.2,fun s ev w m k z u=>(Any.strconv_Atoi_range Tryz.laysC172 s m k ev w z u).mono fun e w' ⟨N,p,_,_,hb⟩=>⟨⟨_,_,p⟩,hb⟩⟩
end Go.Pi
namespace Go.Pi
open Go.Proofs
theorem cV_.ok (n:Nat):cV_.e.Oks E (cx n) n:=fun _ _ _ _ h=>nAtoi_ok atoiM (.tail _ (.tail _ (.head _))) (.tail _ (.tail _ (.tail _ (.head _)))) h
end Go.Pi
end
section
namespace Go.Proofs
open Go.Shelf
def Tryz.lays219_ren:Go.Shelf.Ren:=⟨fun|219=>113|217=>156|225=>157|224=>158|267=>159|266=>213|314=>214|n=>n,fun|9=>9|3=>3|4=>4|5=>5|46=>184|146=>243|51=>242|n=>n,fun|1=>0|n=>n⟩
theorem Tryz.lays219:Go.Proofs.Lays.n219 Tryz.prog Tryz.lays219_ren:={
 mixed:=by kernel_rfl
 f217:=Tryz.func156.trans (congrArg some (by kernel_rfl))
 f219:=Tryz.func113.trans (congrArg some (by kernel_rfl))
 f224:=Tryz.func158.trans (congrArg some (by kernel_rfl))
 f225:=Tryz.func157.trans (congrArg some (by kernel_rfl))
 f266:=Tryz.func213.trans (congrArg some (by kernel_rfl))
 f267:=Tryz.func159.trans (congrArg some (by kernel_rfl))
 f314:=Tryz.func214.trans (congrArg some (by kernel_rfl))
 t3:=Tryz.underlying3
 a3:=Tryz.isAgg3
 z3:=Tryz.sizeOf3
 v3:=Tryz.zeroValue3
 t4:=Tryz.underlying4
 a4:=Tryz.isAgg4
 z4:=Tryz.sizeOf4
 v4:=Tryz.zeroValue4
 t5:=Tryz.underlying5
 a5:=Tryz.isAgg5
 z5:=Tryz.sizeOf5
 v5:=Tryz.zeroValue5
 t9:=Tryz.underlying9
 a9:=Tryz.isAgg9
 z9:=Tryz.sizeOf9
 v9:=Tryz.zeroValue9
 t46:=Tryz.underlying184
 a46:=Tryz.isAgg184
 z46:=Tryz.sizeOf184
 v46:=Tryz.zeroValue184
 t51:=Tryz.underlying242
 a51:=Tryz.isAgg242
 z51:=Tryz.sizeOf242
 v51:=Tryz.zeroValue242
 t146:=Tryz.underlying243
 a146:=Tryz.isAgg243
 z146:=Tryz.sizeOf243
 v146:=Tryz.zeroValue243
 g1:=by kernel_rfl }
open Go.RowKit Go.Sort Go.Lib in
theorem Tryz.stringslite_Index_one (s:ByteArray) (c:UInt8) (w:World) :
  Calls Tryz.prog 113 #[.string s,.string ⟨#[c]⟩] w fun e w'=>e = .returned (.int .i64 (Lib.indexByte s.data.toList c))/\w'=w:=Any.stringslite_Index_one Tryz.lays219 s c w
end Go.Proofs
namespace Go.Pi
open Go.Proofs
theorem ce_.ok (n:Nat):ce_.e.Oks E (cx n) n:=fun _ _ _ _ h=>nIndex_ok (fun s c w=>Tryz.stringslite_Index_one s c w) h
end Go.Pi
end
section
namespace Go.Proofs
open Go.Shelf
def Tryz.lays156_ren:Go.Shelf.Ren:=⟨fun|156=>139|165=>193|166=>194|169=>195|240=>247|241=>248|276=>273|277=>274|n=>n,fun|31=>27|9=>9|3=>3|4=>4|0=>0|20=>20|72=>228|76=>141|70=>226|37=>22|75=>140|127=>272|164=>295|5=>5|80=>230|n=>n,fun|n=>n⟩
theorem Tryz.lays156:Go.Proofs.Lays.n156 Tryz.prog Tryz.lays156_ren:={
 mixed:=by kernel_rfl
 f156:=Tryz.func139.trans (congrArg some (by kernel_rfl))
 f165:=Tryz.func193.trans (congrArg some (by kernel_rfl))
 f166:=Tryz.func194.trans (congrArg some (by kernel_rfl))
 f169:=Tryz.func195.trans (congrArg some (by kernel_rfl))
 f240:=Tryz.func247.trans (congrArg some (by kernel_rfl))
 f241:=Tryz.func248.trans (congrArg some (by kernel_rfl))
 f276:=Tryz.func273.trans (congrArg some (by kernel_rfl))
 f277:=Tryz.func274.trans (congrArg some (by kernel_rfl))
 t0:=Tryz.underlying0
 a0:=Tryz.isAgg0
 z0:=Tryz.sizeOf0
 v0:=Tryz.zeroValue0
 t3:=Tryz.underlying3
 a3:=Tryz.isAgg3
 z3:=Tryz.sizeOf3
 v3:=Tryz.zeroValue3
 t4:=Tryz.underlying4
 a4:=Tryz.isAgg4
 z4:=Tryz.sizeOf4
 v4:=Tryz.zeroValue4
 t9:=Tryz.underlying9
 a9:=Tryz.isAgg9
 z9:=Tryz.sizeOf9
 v9:=Tryz.zeroValue9
 t20:=Tryz.underlying20
 a20:=Tryz.isAgg20
 z20:=Tryz.sizeOf20
 v20:=Tryz.zeroValue20
 t31:=Tryz.underlying27
 a31:=Tryz.isAgg27
 z31:=Tryz.sizeOf27
 v31:=Tryz.zeroValue27
 t37:=Tryz.underlying22
 a37:=Tryz.isAgg22
 z37:=Tryz.sizeOf22
 v37:=Tryz.zeroValue22
 t70:=Tryz.underlying226
 a70:=Tryz.isAgg226
 z70:=Tryz.sizeOf226
 v70:=Tryz.zeroValue226
 t72:=Tryz.underlying228
 a72:=Tryz.isAgg228
 z72:=Tryz.sizeOf228
 v72:=Tryz.zeroValue228
 t75:=Tryz.underlying140
 a75:=Tryz.isAgg140
 z75:=Tryz.sizeOf140
 v75:=Tryz.zeroValue140
 t76:=Tryz.underlying141
 a76:=Tryz.isAgg141
 z76:=Tryz.sizeOf141
 v76:=Tryz.zeroValue141
 t127:=Tryz.underlying272
 a127:=Tryz.isAgg272
 z127:=Tryz.sizeOf272
 v127:=Tryz.zeroValue272
 t164:=Tryz.underlying295
 a164:=Tryz.isAgg295
 z164:=Tryz.sizeOf295
 v164:=Tryz.zeroValue295 }
theorem Tryz.Builder_Extra_156:Builder.Extra Tryz.prog Tryz.lays156_ren:={
 sizeBuilder:=by kernel_rfl
 liesBuilder:=by kernel_rfl
 t5:=Tryz.underlying5
 a5:=Tryz.isAgg5
 z5:=Tryz.sizeOf5
 v5:=Tryz.zeroValue5
 infoByte:=by kernel_rfl
 cellsByte:=by kernel_rfl
 sizeByte:=by kernel_rfl
 neB5:=by decide }
open Go.RowKit Go.Sort Go.Lib in
theorem Tryz.strings_Join_none (a:Option Addr) (c:Nat) (sep:ByteArray) (w:World) :
  Calls Tryz.prog 139 #[.slice a 0 c,.string sep] w fun e w'=>e = .returned (.string ⟨#[]⟩)/\w'=w:=Any.strings_Join_none Tryz.lays156 Tryz.Builder_Extra_156 a c sep w
open Go.RowKit Go.Sort Go.Lib in
theorem Tryz.strings_Join (bk o c:Nat) (xs:List ByteArray) (sep:ByteArray) (w:World) (k:∀ (j:Nat) x,xs[j]?=some x->w.cell? ⟨bk,o+j,none⟩=some (.string x)) (u:bk<w.heap.size) (z:xs.length<=140737488355328) (p:xs.length<=c) (m:(Lib.join (xs.map (·.data.toList)) sep.data.toList).length<=140737488355328) :
  Calls Tryz.prog 139 #[.slice (some ⟨bk,o,none⟩) xs.length c,.string sep] w fun e w'=>e = .returned (.string ⟨(Lib.join (xs.map (·.data.toList)) sep.data.toList).toArray⟩)/\Below w.heap.size w w':=Any.strings_Join Tryz.lays156 Tryz.Builder_Extra_156 bk o c xs sep w k u z p m
end Go.Proofs
namespace Go.Pi
open Go.Proofs
theorem strings_Join.ok (n:Nat):strings_Join.e.Oks E (cx n) n:=fun _ _ _ _ h=>nJoin_ok ⟨fun a c sep w=>Tryz.strings_Join_none a c sep w,fun bk o c xs sep w z u p m k=>Tryz.strings_Join bk o c xs sep w z u p m k⟩ (fun _=>rfl) h
end Go.Pi
end
section
namespace Go.Proofs
open Go.Shelf
def Tryz.lays155_ren:Go.Shelf.Ren:=⟨fun|155=>196|154=>249|138=>275|165=>193|143=>72|166=>194|197=>276|169=>195|195=>285|218=>286|240=>247|241=>248|219=>113|260=>287|276=>273|277=>274|217=>156|225=>157|224=>158|267=>159|266=>213|314=>214|n=>n,fun|9=>9|3=>3|4=>4|72=>228|0=>0|76=>141|105=>298|21=>21|5=>5|70=>226|20=>20|37=>22|75=>140|127=>272|164=>295|46=>184|119=>311|139=>314|138=>313|146=>243|51=>242|80=>230|n=>n,fun|1=>0|3=>6|4=>7|n=>n⟩
theorem Tryz.lays155:Go.Proofs.Lays.n155 Tryz.prog Tryz.lays155_ren:={
 mixed:=by kernel_rfl
 f138:=Tryz.func275.trans (congrArg some (by kernel_rfl))
 f143:=Tryz.func72.trans (congrArg some (by kernel_rfl))
 f154:=Tryz.func249.trans (congrArg some (by kernel_rfl))
 f155:=Tryz.func196.trans (congrArg some (by kernel_rfl))
 f165:=Tryz.func193.trans (congrArg some (by kernel_rfl))
 f166:=Tryz.func194.trans (congrArg some (by kernel_rfl))
 f169:=Tryz.func195.trans (congrArg some (by kernel_rfl))
 f195:=Tryz.func285.trans (congrArg some (by kernel_rfl))
 f197:=Tryz.func276.trans (congrArg some (by kernel_rfl))
 f217:=Tryz.func156.trans (congrArg some (by kernel_rfl))
 f218:=Tryz.func286.trans (congrArg some (by kernel_rfl))
 f219:=Tryz.func113.trans (congrArg some (by kernel_rfl))
 f224:=Tryz.func158.trans (congrArg some (by kernel_rfl))
 f225:=Tryz.func157.trans (congrArg some (by kernel_rfl))
 f240:=Tryz.func247.trans (congrArg some (by kernel_rfl))
 f241:=Tryz.func248.trans (congrArg some (by kernel_rfl))
 f260:=Tryz.func287.trans (congrArg some (by kernel_rfl))
 f266:=Tryz.func213.trans (congrArg some (by kernel_rfl))
 f267:=Tryz.func159.trans (congrArg some (by kernel_rfl))
 f276:=Tryz.func273.trans (congrArg some (by kernel_rfl))
 f277:=Tryz.func274.trans (congrArg some (by kernel_rfl))
 f314:=Tryz.func214.trans (congrArg some (by kernel_rfl))
 t0:=Tryz.underlying0
 a0:=Tryz.isAgg0
 z0:=Tryz.sizeOf0
 v0:=Tryz.zeroValue0
 t3:=Tryz.underlying3
 a3:=Tryz.isAgg3
 z3:=Tryz.sizeOf3
 v3:=Tryz.zeroValue3
 t4:=Tryz.underlying4
 a4:=Tryz.isAgg4
 z4:=Tryz.sizeOf4
 v4:=Tryz.zeroValue4
 t5:=Tryz.underlying5
 a5:=Tryz.isAgg5
 z5:=Tryz.sizeOf5
 v5:=Tryz.zeroValue5
 t9:=Tryz.underlying9
 a9:=Tryz.isAgg9
 z9:=Tryz.sizeOf9
 v9:=Tryz.zeroValue9
 t20:=Tryz.underlying20
 a20:=Tryz.isAgg20
 z20:=Tryz.sizeOf20
 v20:=Tryz.zeroValue20
 t21:=Tryz.underlying21
 a21:=Tryz.isAgg21
 z21:=Tryz.sizeOf21
 v21:=Tryz.zeroValue21
 t37:=Tryz.underlying22
 a37:=Tryz.isAgg22
 z37:=Tryz.sizeOf22
 v37:=Tryz.zeroValue22
 t46:=Tryz.underlying184
 a46:=Tryz.isAgg184
 z46:=Tryz.sizeOf184
 v46:=Tryz.zeroValue184
 t51:=Tryz.underlying242
 a51:=Tryz.isAgg242
 z51:=Tryz.sizeOf242
 v51:=Tryz.zeroValue242
 t70:=Tryz.underlying226
 a70:=Tryz.isAgg226
 z70:=Tryz.sizeOf226
 v70:=Tryz.zeroValue226
 t72:=Tryz.underlying228
 a72:=Tryz.isAgg228
 z72:=Tryz.sizeOf228
 v72:=Tryz.zeroValue228
 t75:=Tryz.underlying140
 a75:=Tryz.isAgg140
 z75:=Tryz.sizeOf140
 v75:=Tryz.zeroValue140
 t76:=Tryz.underlying141
 a76:=Tryz.isAgg141
 z76:=Tryz.sizeOf141
 v76:=Tryz.zeroValue141
 t105:=Tryz.underlying298
 a105:=Tryz.isAgg298
 z105:=Tryz.sizeOf298
 v105:=Tryz.zeroValue298
 t119:=Tryz.underlying311
 a119:=Tryz.isAgg311
 z119:=Tryz.sizeOf311
 t127:=Tryz.underlying272
 a127:=Tryz.isAgg272
 z127:=Tryz.sizeOf272
 v127:=Tryz.zeroValue272
 t138:=Tryz.underlying313
 a138:=Tryz.isAgg313
 z138:=Tryz.sizeOf313
 v138:=Tryz.zeroValue313
 t139:=Tryz.underlying314
 a139:=Tryz.isAgg314
 z139:=Tryz.sizeOf314
 v139:=Tryz.zeroValue314
 t146:=Tryz.underlying243
 a146:=Tryz.isAgg243
 z146:=Tryz.sizeOf243
 v146:=Tryz.zeroValue243
 t164:=Tryz.underlying295
 a164:=Tryz.isAgg295
 z164:=Tryz.sizeOf295
 v164:=Tryz.zeroValue295
 g1:=by kernel_rfl
 g3:=by kernel_rfl
 g4:=by kernel_rfl }
theorem Tryz.Builder_Extra_155:Builder.Extra Tryz.prog Tryz.lays155_ren:={
 sizeBuilder:=by kernel_rfl
 liesBuilder:=by kernel_rfl
 t5:=Tryz.underlying5
 a5:=Tryz.isAgg5
 z5:=Tryz.sizeOf5
 v5:=Tryz.zeroValue5
 infoByte:=by kernel_rfl
 cellsByte:=by kernel_rfl
 sizeByte:=by kernel_rfl
 neB5:=by decide }
open Go.RowKit Go.Sort Go.Lib in
theorem Tryz.strings_ReplaceAll (s old new:ByteArray) (m:Int) (w:World) (hs:s.size<4294967281) (p:w.cell? ⟨0,0,none⟩=some (.int .i64 m)) (u:1<=old.size) (k:s.size+Lib.countB s old*new.size<=140737488355328) :
  Calls Tryz.prog 196 #[.string s,.string old,.string new] w fun e w'=>
   e = .returned (.string ⟨(Lib.replaceAll s.data.toList old.data.toList new.data.toList).toArray⟩)/\Below w.heap.size w w':=Any.strings_ReplaceAll Tryz.lays155 Tryz.Builder_Extra_155 s old new m w hs p u k
end Go.Proofs
namespace Go.Pi
open Go.Proofs
theorem strings_ReplaceAll.ok (n:Nat):strings_ReplaceAll.e.Oks E (cx n) n:=fun _ _ _ _ h=>nRepl_ok (g:=0) (fun s old new m w z u p k=>Tryz.strings_ReplaceAll s old new m w z u p k) (.tail _ (.head _)) h
end Go.Pi
end
section
namespace Go.Proofs
open Go.Shelf
def Tryz.lays146_ren:Go.Shelf.Ren:=⟨fun|146=>254|221=>279|268=>288|138=>275|143=>72|195=>285|197=>276|218=>286|219=>113|260=>287|217=>156|225=>157|224=>158|267=>159|266=>213|314=>214|n=>n,fun|9=>9|31=>27|3=>3|4=>4|0=>0|105=>298|21=>21|5=>5|46=>184|119=>311|139=>314|138=>313|146=>243|51=>242|n=>n,fun|1=>0|3=>6|4=>7|n=>n⟩
theorem Tryz.lays146:Go.Proofs.Lays.n146 Tryz.prog Tryz.lays146_ren:={
 mixed:=by kernel_rfl
 f138:=Tryz.func275.trans (congrArg some (by kernel_rfl))
 f143:=Tryz.func72.trans (congrArg some (by kernel_rfl))
 f146:=Tryz.func254.trans (congrArg some (by kernel_rfl))
 f195:=Tryz.func285.trans (congrArg some (by kernel_rfl))
 f197:=Tryz.func276.trans (congrArg some (by kernel_rfl))
 f217:=Tryz.func156.trans (congrArg some (by kernel_rfl))
 f218:=Tryz.func286.trans (congrArg some (by kernel_rfl))
 f219:=Tryz.func113.trans (congrArg some (by kernel_rfl))
 f221:=Tryz.func279.trans (congrArg some (by kernel_rfl))
 f224:=Tryz.func158.trans (congrArg some (by kernel_rfl))
 f225:=Tryz.func157.trans (congrArg some (by kernel_rfl))
 f260:=Tryz.func287.trans (congrArg some (by kernel_rfl))
 f266:=Tryz.func213.trans (congrArg some (by kernel_rfl))
 f267:=Tryz.func159.trans (congrArg some (by kernel_rfl))
 f268:=Tryz.func288.trans (congrArg some (by kernel_rfl))
 f314:=Tryz.func214.trans (congrArg some (by kernel_rfl))
 t0:=Tryz.underlying0
 a0:=Tryz.isAgg0
 z0:=Tryz.sizeOf0
 v0:=Tryz.zeroValue0
 t3:=Tryz.underlying3
 a3:=Tryz.isAgg3
 z3:=Tryz.sizeOf3
 v3:=Tryz.zeroValue3
 t4:=Tryz.underlying4
 a4:=Tryz.isAgg4
 z4:=Tryz.sizeOf4
 v4:=Tryz.zeroValue4
 t5:=Tryz.underlying5
 a5:=Tryz.isAgg5
 z5:=Tryz.sizeOf5
 v5:=Tryz.zeroValue5
 t9:=Tryz.underlying9
 a9:=Tryz.isAgg9
 z9:=Tryz.sizeOf9
 v9:=Tryz.zeroValue9
 t21:=Tryz.underlying21
 a21:=Tryz.isAgg21
 z21:=Tryz.sizeOf21
 v21:=Tryz.zeroValue21
 t31:=Tryz.underlying27
 a31:=Tryz.isAgg27
 z31:=Tryz.sizeOf27
 v31:=Tryz.zeroValue27
 t46:=Tryz.underlying184
 a46:=Tryz.isAgg184
 z46:=Tryz.sizeOf184
 v46:=Tryz.zeroValue184
 t51:=Tryz.underlying242
 a51:=Tryz.isAgg242
 z51:=Tryz.sizeOf242
 v51:=Tryz.zeroValue242
 t105:=Tryz.underlying298
 a105:=Tryz.isAgg298
 z105:=Tryz.sizeOf298
 v105:=Tryz.zeroValue298
 t119:=Tryz.underlying311
 a119:=Tryz.isAgg311
 z119:=Tryz.sizeOf311
 t138:=Tryz.underlying313
 a138:=Tryz.isAgg313
 z138:=Tryz.sizeOf313
 v138:=Tryz.zeroValue313
 t139:=Tryz.underlying314
 a139:=Tryz.isAgg314
 z139:=Tryz.sizeOf314
 v139:=Tryz.zeroValue314
 t146:=Tryz.underlying243
 a146:=Tryz.isAgg243
 z146:=Tryz.sizeOf243
 v146:=Tryz.zeroValue243
 g1:=by kernel_rfl
 g3:=by kernel_rfl
 g4:=by kernel_rfl }
open Go.RowKit Go.Sort Go.Lib in
theorem Tryz.strings_Split (s sep:ByteArray) (m:Int) (w:World) (hs:s.size<4294967281) (k:w.cell? ⟨0,0,none⟩=some (.int .i64 m)) (p:1<=sep.size) :
  Calls Tryz.prog 254 #[.string s,.string sep] w fun e w'=>
   e = .returned (.slice (some ⟨w.heap.size,0,none⟩) (Lib.countB s sep+1) (Lib.countB s sep+1))/\w'=w.alloc (.cells ((Lib.splitB sep 0 (Lib.countB s sep) s).map Value.string).toArray 9):=Any.strings_Split Tryz.lays146 (by kernel_rfl) s sep m w hs k p
end Go.Proofs
namespace Go.Pi
open Go.Proofs
theorem strings_Split.ok (n:Nat):strings_Split.e.Oks E (cx n) n:=fun _ _ _ _ h=>nSplit_ok (g:=0) (T:=9) (fun s sep m w u p k=>Tryz.strings_Split s sep m w u p k) (.tail _ (.head _)) rfl (fun _ _=>rfl) rfl h
end Go.Pi
end
namespace Go.Pi
section
open Go.Proofs
theorem zer:zl ents=zr ents:=by kernel_rfl
theorem fcts:factL E.P ents ents=factR ents:=by kernel_rfl
theorem cxok (n nt:Nat) (a:AllE E n ents):CxOk E (cx n nt):=⟨ttOk,tcOk,u8Ok,KE_ok fcts a⟩
theorem allOk:∀ n,AllE E n ents
 |0=>all0 zer
 |n+1=>allS_ok (fun nt=>cxok n nt (allOk n)) (fun _=>KE_par) (show AllS E (cx n) n ents from ⟨laws_FnCut.ok n,gh_.ok n,dG_.ok n,de_.ok n,ek_.ok n,cU_.ok n,ad_.ok n,dk_.ok n,b8_.ok n,bZ_.ok n,fq_.ok n,c5_.ok n,bH_.ok n,bE_.ok n,bu_.ok n,cl_.ok n,cu_.ok n,cd_.ok n,ao_.ok n,ac_.ok n,bd_.ok n,ei_.ok n,br_.ok n,en_.ok n,dw_.ok n,bw_.ok n,aV_.ok n,c3_.ok n,bR_.ok n,df_.ok n,aN_.ok n,d5_.ok n,dF_.ok n,dq_.ok n,c7_.ok n,dL_.ok n,bo_.ok n,cO_.ok n,dM_.ok n,d4_.ok n,bh_.ok n,a4_.ok n,aJ_.ok n,eb_.ok n,cL_.ok n,aT_.ok n,cD_.ok n,strings_Index.ok n,b5_.ok n,aQ_.ok n,eg_.ok n,aj_.ok n,dj_.ok n,bF_.ok n,aD_.ok n,d2_.ok n,bJ_.ok n,dt_.ok n,dg_.ok n,cI_.ok n,bP_.ok n,dE_.ok n,db_.ok n,cb_.ok n,aq_.ok n,cW_.ok n,strconv_Itoa.ok n,be_.ok n,eo_.ok n,aO_.ok n,d3_.ok n,cS_.ok n,dv_.ok n,cV_.ok n,dO_.ok n,cN_.ok n,b3_.ok n,as_.ok n,aE_.ok n,bT_.ok n,d0_.ok n,dn_.ok n,a6_.ok n,dC_.ok n,ce_.ok n,dU_.ok n,aM_.ok n,a3_.ok n,b6_.ok n,dX_.ok n,eh_.ok n,do_.ok n,ef_.ok n,dd_.ok n,c2_.ok n,bD_.ok n,bA_.ok n,eH_.ok n,dy_.ok n,aU_.ok n,bM_.ok n,cz_.ok n,aS_.ok n,cy_.ok n,b1_.ok n,strings_Join.ok n,dp_.ok n,bW_.ok n,em_.ok n,bz_.ok n,aF_.ok n,bV_.ok n,eB_.ok n,a2_.ok n,bL_.ok n,d6_.ok n,c1_.ok n,cj_.ok n,aH_.ok n,a0_.ok n,a5_.ok n,dx_.ok n,bK_.ok n,bb_.ok n,aB_.ok n,el_.ok n,bO_.ok n,aR_.ok n,cn_.ok n,bf_.ok n,a9_.ok n,dB_.ok n,eX_.ok n,bv_.ok n,ck_.ok n,e5_.ok n,b0_.ok n,b7_.ok n,eY_.ok n,fk_.ok n,di_.ok n,e0_.ok n,aA_.ok n,b9_.ok n,ag_.ok n,strings_ReplaceAll.ok n,bn_.ok n,cr_.ok n,bx_.ok n,c6_.ok n,av_.ok n,an_.ok n,ap_.ok n,ew_.ok n,bG_.ok n,aG_.ok n,dV_.ok n,bm_.ok n,cm_.ok n,cC_.ok n,bU_.ok n,bY_.ok n,dA_.ok n,bS_.ok n,dh_.ok n,da_.ok n,cc_.ok n,bN_.ok n,b4_.ok n,eC_.ok n,aL_.ok n,aI_.ok n,cq_.ok n,bX_.ok n,bp_.ok n,au_.ok n,ed_.ok n,ct_.ok n,strings_Split.ok n,dW_.ok n,eI_.ok n,cB_.ok n,dc_.ok n,dz_.ok n,aK_.ok n,ai_.ok n,trivial⟩)
end
inductive Kd where
 |i (k:IntKind)
 |b
 |s
 |sl (t:TC)
def kdsL (P:Program) (rec_:TypeId->Option (List Kd)):List Field->Nat->Option (List Kd)
 |[],_=>some []
 |f::fs,off=>cond (Nat.beq f.offset off) (match rec_ f.type with
  |some ks=>cond (Nat.beq (P.cellsOf f.type) ks.length) (match kdsL P rec_ fs (off+ks.length) with
   |some r=>some (ks++r)
   |none=>none) none
  |none=>none) none
def kds (P:Program) (eQ_:TypeId->Option TC):Nat->TypeId->Option (List Kd)
 |0,_=>none
 |d+1,T=>match P.underlying T with
  |some (.int k)=>some [.i k]
  |some .bool=>some [.b]
  |some .string=>some [.s]
  |some (.slice e)=>match eQ_ e with
   |some t=>some [.sl t]
   |none=>none
  |some (.struct fs)=>match kdsL P (kds P eQ_ d) fs.toList 0 with
   |some ks=>cond (Nat.beq (P.cellsOf T) ks.length) (some ks) none
   |none=>none
  |_=>none
inductive Good [ah_]:AV->Prop
 |i (k n):(Lit.int k n).wf=true->Good (.i k n)
 |b (q):Good (.b q)
 |s (l):l.length<=maxLen->Good (.s l)
 |sl (t xs):xs.length<=maxLen->(∀ x ∈ xs,∀ c ∈ ah_.enc .v t x,Good c)->Good (.sl .v t xs)
def KindOk:Kd->AV->Prop
 |.i k,a=>∃ n,a = .i k n
 |.b,a=>∃ q,a = .b q
 |.s,a=>∃ l,a = .s l
 |.sl t,a=>∃ xs,a = .sl .v t xs
def la_:List Kd->List AV->Prop
 |[],[]=>True
 |k::ks,a::l=>KindOk k a/\la_ ks l
 |_,_=>False
section
variable {H:Type} {enc:TypeId × Value->H} {P:Program} {w:World} {spare:Nat->Bool}
def qJ_ (enc:TypeId × Value->H) (P:Program) (w:World) (spare:Nat->Bool) (eid:TC->TypeId) (F:Nat):Kd->Value->Prop
 |.i k,v=>∃ n,v = .int k n/\(Lit.int k n).wf=true
 |.b,v=>∃ q,v = .bool q
 |.s,v=>∃ s:ByteArray,v = .string s/\s.size<=maxLen
 |.sl t,v=>v = .slice none 0 0\/∃ (a:Addr) (len cap N:Nat),v = .slice (some a) len cap/\len<=cap/\cap<=maxLen/\N<F /\
   ∀ i,i<len->∃ cs x,w.cells? 0 (a.add (i*P.cellsOf (eid t))) (P.cellsOf (eid t))=some cs/\DataW.trod enc P w 0 spare true N (eid t) cs=some x
def fw_ (enc:TypeId × Value->H) (P:Program) (w:World) (spare:Nat->Bool) (eid:TC->TypeId) (F:Nat):List Kd->List Value->Prop
 |[],[]=>True
 |k::ks,v::vs=>qJ_ enc P w spare eid F k v/\fw_ enc P w spare eid F ks vs
 |_,_=>False
theorem qJ_.mono {eid:TC->TypeId} {F F':Nat} (m:F<=F') {k:Kd} {v:Value} (h:qJ_ enc P w spare eid F k v):qJ_ enc P w spare eid F' k v:=by
 cases k with
 |sl t=>
  rcases h with h|⟨a,len,cap,N,J,I,z,u,p⟩
  . exact .inl h
  . exact .inr ⟨a,len,cap,N,J,I,z,Nat.lt_of_lt_of_le u m,p⟩
 |_=>exact h
theorem fw_.mono {eid:TC->TypeId} {F F':Nat} (m:F<=F'):∀ {ks:List Kd} {vs:List Value},fw_ enc P w spare eid F ks vs->fw_ enc P w spare eid F' ks vs
 |[],[],_=>trivial
 |k::ks,v::vs,h=>⟨h.1.mono m,fw_.mono m h.2⟩
 |[],_::_,h=>h.elim
 |_::_,[],h=>h.elim
theorem fw_.append {eid:TC->TypeId} {F:Nat}:∀ {ks:List Kd} {vs:List Value} {ks':List Kd} {vs':List Value},fw_ enc P w spare eid F ks vs->fw_ enc P w spare eid F ks' vs'->fw_ enc P w spare eid F (ks++ks') (vs++vs')
 |[],[],_,_,_,h=>h
 |k::ks,v::vs,_,_,h,h'=>⟨h.1,fw_.append h.2 h'⟩
 |[],_::_,_,_,h,_=>h.elim
 |_::_,[],_,_,h,_=>h.elim
theorem nZ_ {eQ_:TypeId->Option TC} {eid:TC->TypeId} {n:Nat} {rec_:TypeId->Option (List Kd)} {cs:List Value} (k:∀ T ks cs x,rec_ T=some ks->DataW.trod enc P w 0 spare true n T cs=some x->fw_ enc P w spare eid n ks cs) :
  ∀ (fs:List Field) (off:Nat) (ks:List Kd),kdsL P rec_ fs off=some ks->(∀ f ∈ fs,∃ x,DataW.trod enc P w 0 spare true n f.type ((cs.drop f.offset).take (P.cellsOf f.type))=some x)->off+ks.length=cs.length->fw_ enc P w spare eid n ks (cs.drop off)
 |[],off,ks,h,_,hl=>by simp only [kdsL,Option.some.injEq] at h;subst h;rw [List.drop_eq_nil_of_le (by simp at hl;omega)];trivial
 |f::fs,off,ks,h,hx,hl=>by
  simp only [kdsL] at h;obtain ⟨J,p⟩:=cs_ h;have J:=c8_.1 J;cases hr:rec_ f.type with
  |none=>rw [hr] at p;cases p
  |some k1=>
   rw [hr] at p;obtain ⟨I,m⟩:=cs_ p;have I:=c8_.1 I;cases z:kdsL P rec_ fs (off+k1.length) with
   |none=>rw [z] at m;cases m
   |some r=>
    rw [z] at m;simp only [Option.some.injEq] at m;subst m;obtain ⟨x,u⟩:=hx f (List.mem_cons_self ..);have O:=k _ _ _ _ hr u;have U:=nZ_ (eQ_:=eQ_) k fs (off+k1.length) r z (fun g S=>hx g (List.mem_cons_of_mem _ S)) (by simp at hl;omega);rw [J,I] at O;have:cs.drop off=(cs.drop off).take k1.length++cs.drop (off+k1.length):=by rw [<-List.drop_drop,List.take_append_drop]
    rw [this];exact O.append U
theorem oh_ {eQ_:TypeId->Option TC} {eid:TC->TypeId} (p:∀ e t,eQ_ e=some t->eid t=e):∀ (d F:Nat) (T:TypeId) (ks:List Kd) (cs:List Value) (x:DataW H × List MemPlace),kds P eQ_ d T=some ks->DataW.trod enc P w 0 spare true F T cs=some x->fw_ enc P w spare eid F ks cs
 |0,F,T,ks,cs,x,m,h=>by cases m
 |d+1,F,T,ks,cs,x,m,h=>by
  simp only [kds] at m;cases z:P.underlying T with
  |none=>rw [z] at m;cases m
  |some u=>
   rw [z] at m;cases u<;>simp only at m<;>(try (cases m;done))
   case bool=>
    cases m;obtain ⟨q,rfl,_⟩:=DataW.trod_bool z h;exact ⟨⟨q,rfl⟩,trivial⟩
   case int k=>
    cases m;obtain ⟨n,rfl,_,hw⟩:=DataW.trod_int z h;exact ⟨⟨n,rfl,hw⟩,trivial⟩
   case string=>
    cases m;obtain ⟨s,rfl,_,hs⟩:=DataW.trod_string z h;exact ⟨⟨s,rfl,hs⟩,trivial⟩
   case slice e=>
    cases hc:eQ_ e with
    |none=>rw [hc] at m;cases m
    |some t=>
     rw [hc] at m;cases m;have Z:=p e t hc;rcases DataW.trod_slice z h with ⟨rfl,_⟩|⟨a,len,cap,elems,iN_,n,hF,rfl,_,_,hl,hm,Y,V,_,_⟩
     . exact ⟨.inl rfl,trivial⟩
     . refine ⟨.inr ⟨a,len,cap,n,rfl,hl,hm,by omega,fun i hi => ?_⟩,trivial⟩
       have J:=V i hi;rw [List.getElem?_eq_getElem (by omega)] at J;rw [Option.bind_eq_some_iff] at J;obtain ⟨cs,k1,k2⟩:=J;exact ⟨cs,_,by rw [Z];exact k1,by rw [Z];exact k2⟩
   case struct fs=>
    obtain ⟨xs,n,hF,_,hcl,S,hx⟩:=DataW.trod_struct z h;cases I:kdsL P (kds P eQ_ d) fs.toList 0 with
    |none=>rw [I] at m;cases m
    |some ks'=>
     rw [I] at m;obtain ⟨J,h2⟩:=cs_ m;have J:=c8_.1 J;cases h2;subst hF;have:=nZ_ (eQ_:=eQ_) (eid:=eid) (n:=n) (cs:=cs) (fun T ks cs x k1 k2=>oh_ p d n T ks cs x k1 k2) fs.toList 0 ks I (fun f hf=>by
      obtain ⟨i,hi⟩:=List.getElem?_of_mem hf;have O:fs[i]?=some f:=by simpa using hi
      have h3:=hx i f O;have U:i<xs.length:=by rw [S];exact (Array.getElem?_eq_some_iff.1 O).1
      rw [List.getElem?_eq_getElem U] at h3;exact ⟨_,h3⟩) (by omega)
     exact (this.mono (Nat.le_succ n))
end
section
variable [ah_]
open ah_
variable {H:Type} {enc':TypeId × Value->H} {E:Env} {w:World} {spare:Nat->Bool}
abbrev NoF:Nat->Prop:=fun _=>False
omit [ah_] in
theorem l3_:∀ {ks:List Kd} {l c:List AV},la_ ks l->sims .v l c->c=l
 |[],[],[],_,_=>rfl
 |k::ks,a::l,b::c,h,hs=>by have e:=l3_ h.2 hs.2;subst e;have p:=h.1;have m:=hs.1;cases k<;>obtain ⟨x,rfl⟩:=p<;>simp only [AV.sim] at m<;>rw [m]
 |[],[],_::_,_,h=>h.elim
 |[],_::_,_,h,_=>h.elim
 |_::_,[],_,h,_=>h.elim
 |_::_,_::_,[],_,h=>h.elim
structure mZ_ (E:Env) (eQ_:TypeId->Option TC) (kinds:TC->List Kd) (d:Nat):Prop where
 codeOk:∀ e t,eQ_ e=some t->E.eid t=e
 kdsOk:∀ t,kds E.P eQ_ d (E.eid t)=some (kinds t)
 dec:∀ t l,la_ (kinds t) l->∃ y,dec t l=some y
 cells:∀ t,E.P.cellsOf (E.eid t)=t.width
theorem pI_ [ak_] {t:TC} {N:Nat} (m:∀ cs x,DataW.trod enc' E.P w 0 spare true N (E.eid t) cs=some x->∃ y:El t,RL E w NoF (enc .v t y) cs (fun _=>0)/\∀ c ∈ enc .v t y,Good c) {b o:Nat} (z:E.P.cellsOf (E.eid t)=t.width) :
  ∀ len,(∀ i,i<len->∃ cs x,w.cells? 0 ((⟨b,o,none⟩:Addr).add (i*E.P.cellsOf (E.eid t))) (E.P.cellsOf (E.eid t))=some cs/\DataW.trod enc' E.P w 0 spare true N (E.eid t) cs=some x) ->
  ∃ (xs:List (El t)) (vals:List Value),xs.length=len/\vals.length=len*t.width/\RL E w NoF (aW_ .v t xs) vals (fun _=>0)/\w.rangeAt b o vals/\∀ x ∈ xs,∀ c ∈ enc .v t x,Good c
 |0,_=>⟨[],[],rfl,by simp,RL.nil (fun _=>0) fun _=>rfl,fun j v h=>by simp at h,fun x hx=>by cases hx⟩
 |len+1,h=>by
  obtain ⟨xs,vals,T,S,O,J,I⟩:=pI_ m z len fun i hi=>h i (by omega);obtain ⟨cs,x,k1,k2⟩:=h len (Nat.lt_succ_self _);obtain ⟨y,j1,j2⟩:=m cs x k2;obtain ⟨_,hl,hc⟩:=World.cells?_some k1;rw [z] at hl hc;refine ⟨xs++[y],vals++cs,by simp [T],by rw [List.length_append,S,hl];exact (Nat.succ_mul _ _).symm,?_,fun j v k => ?_,fun x hx => ?_⟩
  . rw [cF_]
    refine RL.append O (φ':=fun _=>0) ?_ (fun b=>rfl);simpa [aW_] using j1
  . by_cases p:j<vals.length
    . rw [List.getElem?_append_left p] at k
      exact J j v k
    . rw [List.getElem?_append_right (by omega)] at k
      have u:j - vals.length<t.width:=by rw [<-hl];exact (List.getElem?_eq_some_iff.1 k).1
      have:=hc (j - vals.length) u;rw [Addr.add_mid,Addr.add_mid,k] at this;rw [<-this]
      congr 2
      omega
  . rcases List.mem_append.1 hx with hx|hx
    . exact I x hx
    . rw [List.mem_singleton] at hx;subst hx;exact j2
theorem cell_open [ak_] {eQ_:TypeId->Option TC} {kinds:TC->List Kd} {d:Nat} (T:mZ_ E eQ_ kinds d) {F:Nat} (ih:∀ N,N<F->∀ t cs x,DataW.trod enc' E.P w 0 spare true N (E.eid t) cs=some x->∃ y:El t,RL E w NoF (enc .v t y) cs (fun _=>0)/\∀ c ∈ enc .v t y,Good c) {k:Kd} {v:Value} (h:qJ_ enc' E.P w spare E.eid F k v) :
  ∃ a,KindOk k a/\RL E w NoF [a] [v] (fun _=>0)/\Good a:=by
 cases k with
 |i k=>obtain ⟨n,rfl,O⟩:=h;exact ⟨.i k n,⟨n,rfl⟩,.scal _ _ _ _ _ rfl (.nil _ fun _=>rfl),.i _ _ O⟩
 |b=>obtain ⟨q,rfl⟩:=h;exact ⟨.b q,⟨q,rfl⟩,.scal _ _ _ _ _ rfl (.nil _ fun _=>rfl),.b _⟩
 |s=>
  obtain ⟨s,rfl,hs⟩:=h;refine ⟨.s s.data.toList,⟨_,rfl⟩,.scal _ _ _ _ _ ?_ (.nil _ fun _=>rfl),.s _ ?_⟩
  . show Value.string s = .string ⟨s.data.toList.toArray⟩
    simp
  . rw [Array.length_toList];exact hs
 |sl t=>
  rcases h with rfl|⟨a,len,cap,N,rfl,hl,Y,U,u⟩
  . exact ⟨.sl .v t [],⟨_,rfl⟩,.view t [] none 0 0 [] (fun _=>0) _ _ _ ⟨rfl,Nat.le_refl _⟩ (.nil _ fun _=>rfl) (fun _=>rfl) (fun S=>by omega) (.nil _ fun _=>rfl),.sl _ _ (Nat.zero_le _) (fun x hx=>by cases hx)⟩
  . cases len with
    |zero=>exact ⟨.sl .v t [],⟨_,rfl⟩,.view t [] (some a) 0 cap [] (fun _=>0) _ _ _ ⟨rfl,hl⟩ (.nil _ fun _=>rfl) (fun _=>rfl) (fun S=>by omega) (.nil _ fun _=>rfl),.sl _ _ (Nat.zero_le _) (fun x hx=>by cases hx)⟩
    |succ len=>
     have z:=T.cells t;have p:0<t.width:=ak_.pos t;obtain ⟨cs0,x0,k1,_⟩:=u 0 (Nat.succ_pos _);obtain ⟨_,I,J⟩:=World.cells?_some k1;have m:=J 0 (by rw [z];exact p);rw [List.getElem?_eq_getElem (by rw [I,z];exact p)] at m;have ha:a.spot=none:=by
      have V:(a.add (0*E.P.cellsOf (E.eid t))).add 0=a:=by simp [Addr.add]
      rw [V] at m;unfold World.cell? at m;split at m
      . cases hs:a.spot with
        |none=>rfl
        |some q=>simp [hs] at m
      . cases m
     obtain ⟨b,o,sp⟩:=a;simp only at ha;subst ha;have hb:b<w.heap.size:=World.cells?_block k1 (by rw [z];exact p) |> fun h=>by simpa [Addr.add] using h
     obtain ⟨xs,vals,e1,e2,e3,e4,e5⟩:=pI_ (ih N U t) z (len+1) u;refine ⟨.sl .v t xs,⟨_,rfl⟩,?_,.sl _ _ (by omega) e5⟩;exact .view t xs (some ⟨b,o,none⟩) (len+1) cap vals (fun _=>0) _ _ _ ⟨e1.symm,hl⟩ e3 (fun _=>rfl) (fun _=>⟨b,o,rfl,e4,hb,fun h=>h⟩) (.nil _ fun _=>rfl)
theorem kJ_ [ak_] {eQ_:TypeId->Option TC} {kinds:TC->List Kd} {d:Nat} (m:mZ_ E eQ_ kinds d) {F:Nat} (ih:∀ N,N<F->∀ t cs x,DataW.trod enc' E.P w 0 spare true N (E.eid t) cs=some x->∃ y:El t,RL E w NoF (enc .v t y) cs (fun _=>0)/\∀ c ∈ enc .v t y,Good c) :
  ∀ {ks:List Kd} {vs:List Value},fw_ enc' E.P w spare E.eid F ks vs->∃ l,la_ ks l/\RL E w NoF l vs (fun _=>0)/\∀ c ∈ l,Good c
 |[],[],_=>⟨[],trivial,.nil _ fun _=>rfl,fun c hc=>by cases hc⟩
 |k::ks,v::vs,h=>by
  obtain ⟨a,z,u,p⟩:=cell_open m ih h.1;obtain ⟨l,k1,k2,k3⟩:=kJ_ m ih h.2;refine ⟨a::l,⟨z,k1⟩,RL.cons u k2 (fun b=>rfl),fun c hc => ?_⟩;rcases List.mem_cons.1 hc with rfl|hc
  . exact p
  . exact k3 c hc
 |[],_::_,h=>h.elim
 |_::_,[],h=>h.elim
theorem el_open [ak_] {eQ_:TypeId->Option TC} {kinds:TC->List Kd} {d:Nat} (k:mZ_ E eQ_ kinds d):∀ (F:Nat) (t:TC) (cs:List Value) (x:DataW H × List MemPlace),DataW.trod enc' E.P w 0 spare true F (E.eid t) cs=some x ->
  ∃ y:El t,RL E w NoF (enc .v t y) cs (fun _=>0)/\∀ c ∈ enc .v t y,Good c:=by
 intro F;induction F using Nat.strongRecOn with
 |_ F ih=>
  intro t cs x h;have O:=oh_ k.codeOk d F _ _ _ _ (k.kdsOk t) h;obtain ⟨l,p,J,I⟩:=kJ_ k ih O;obtain ⟨y,u⟩:=k.dec t l p;have z:=ak_.dec .v t l y u;have m:=l3_ p z;exact ⟨y,by rw [m];exact J,by rw [m];exact I⟩
theorem arg_open [ak_] {eQ_:TypeId->Option TC} {kinds:TC->List Kd} {d:Nat} (k:mZ_ E eQ_ kinds d) {T:TypeId} {ks:List Kd} (m:kds E.P eQ_ d T=some ks) {v:Value} {dd:DataW H} {ps:List MemPlace} (h:DataW.Trod enc' E.P w 0 spare true T v dd ps) :
  ∃ l,la_ ks l/\RL E w NoF l v.cells.toList (fun _=>0)/\∀ c ∈ l,Good c:=by
 obtain ⟨F,p⟩:=h;exact kJ_ k (fun N _=>el_open k N) (oh_ k.codeOk d F T ks _ _ m p)
end
section
open Go.RowKit
variable [ah_]
open ah_
omit [ah_] in
theorem du_ {k:Kd} {ks:List Kd} {l:List AV} (h:la_ (k::ks) l):∃ a l',l=a::l'/\KindOk k a/\la_ ks l':=by
 cases l with
 |nil=>exact h.elim
 |cons a l=>exact ⟨a,l,rfl,h.1,h.2⟩
omit [ah_] in
theorem d1_ {l:List AV} (h:la_ [] l):l=[]:=by
 cases l with
 |nil=>rfl
 |cons a l=>exact h.elim
def codeL (eid:TC->TypeId):List TC->TypeId->Option TC
 |[],_=>none
 |t::ts,e=>cond (Nat.beq (eid t) e) (some t) (codeL eid ts e)
omit [ah_] in
theorem sE_ {eid:TC->TypeId} {e:TypeId} {t:TC}:∀ ts,codeL eid ts e=some t->eid t=e
 |[],h=>by cases h
 |u::ts,h=>by
  simp only [codeL] at h;cases hb:Nat.beq (eid u) e with
  |true=>rw [hb] at h;cases h;exact c8_.1 hb
  |false=>rw [hb] at h;exact sE_ ts h
theorem law_true [ak_] {E:Env} {f:FuncId} {avs:List AV} {outs:List AV} {ps:List PS} (h:eE_ E f avs (.b true) outs ps) {w:World} (m:Glob E w NoF) {Vs:List Value} (hr:RL E w NoF avs Vs (fun _=>0)) :
  Calls E.P f Vs.toArray w fun e W'=>e = .returned (.bool true)/\Below w.heap.size w W':=by
 refine (h w NoF Vs _ hr (fun _=>Nat.zero_le _) (fun b hb=>hb.elim) m).mono fun e W' ⟨V,φ',u,z,_,_,e1,e2,e3,e4,e5⟩=>⟨?_,e1,e2,e3,e4,fun k p=>e5 k p rfl⟩
 cases z with
 |scal a v l vs φ hs _=>rw [u,show V = .bool true from hs]
theorem ag_open {E:Env} {w:World} {l:List AV} {cs:Array Value} (h:RL E w NoF l (Value.agg cs).cells.toList (fun _=>0)) {l':List AV} {vs:List Value} (h':RL E w NoF l' vs (fun _=>0)) :
  RL E w NoF (.ag l::l') (.agg cs::vs) (fun _=>0):=by
 have:=RL.ag (E:=E) (w:=w) (F:=NoF) l cs.toList (fun _=>0) l' vs (fun _=>0) (fun _=>0) h h' (fun b=>rfl);simpa using this
end
section
open Go.Proofs Go.Proofs.YtmgcfhlcdhlafaaGreatDoor
open Go.ChangeShapes Go.WideShapes Go.ChangeAt Go.RowKit
def eQ_:TypeId->Option TC:=codeL eid [.u8,.str,.int,.iJson,.iOp,.iRow,.s_iRow,.iCond,.iKid,.iMut,.iChange,.iEvent]
def kinds:TC->List Kd
 |.u8=>[.i .u8]
 |.str=>[.s]
 |.int=>[.i .i64]
 |.iJson=>[.i .i64,.i .i64,.s,.sl .iJson,.sl .str]
 |.iOp=>[.i .i64,.sl .str,.i .i64,.i .i64,.s,.sl .iJson,.sl .str]
 |.iRow=>[.i .i64,.sl .int]
 |.s_iRow=>[.sl .iRow]
 |.iCond=>[.i .i64,.i .i64,.i .i64]
 |.iKid=>[.i .i64,.i .i64]
 |.iMut=>[.i .i64,.i .i64,.i .i64,.sl .int]
 |.iChange=>[.i .i64,.b,.b,.i .i64,.sl .int,.i .i64,.sl .int]
 |.iEvent=>[.i .i64,.i .i64,.i .i64,.i .i64,.i .i64,.s,.sl .iJson,.sl .str,.sl .iOp]
theorem kindsOk:mZ_ E eQ_ kinds 12 where
 codeOk:=fun e t h=>sE_ _ h
 kdsOk:=by intro t;cases t<;>kernel_rfl
 cells:=by intro t;cases t<;>kernel_rfl
 dec:=by
  intro t l h;cases t with
  |u8=>
   iterate 1 (replace h:=du_ h;obtain ⟨_,_,rfl,⟨_,rfl⟩,h⟩:=h)
   replace h:=d1_ h;subst h;exact ⟨_,rfl⟩
  |str=>
   iterate 1 (replace h:=du_ h;obtain ⟨_,_,rfl,⟨_,rfl⟩,h⟩:=h)
   replace h:=d1_ h;subst h;exact ⟨_,rfl⟩
  |int=>
   iterate 1 (replace h:=du_ h;obtain ⟨_,_,rfl,⟨_,rfl⟩,h⟩:=h)
   replace h:=d1_ h;subst h;exact ⟨_,rfl⟩
  |iJson=>
   iterate 5 (replace h:=du_ h;obtain ⟨_,_,rfl,⟨_,rfl⟩,h⟩:=h)
   replace h:=d1_ h;subst h;exact ⟨_,rfl⟩
  |iOp=>
   iterate 7 (replace h:=du_ h;obtain ⟨_,_,rfl,⟨_,rfl⟩,h⟩:=h)
   replace h:=d1_ h;subst h;exact ⟨_,rfl⟩
  |iRow=>
   iterate 2 (replace h:=du_ h;obtain ⟨_,_,rfl,⟨_,rfl⟩,h⟩:=h)
   replace h:=d1_ h;subst h;exact ⟨_,rfl⟩
  |s_iRow=>
   iterate 1 (replace h:=du_ h;obtain ⟨_,_,rfl,⟨_,rfl⟩,h⟩:=h)
   replace h:=d1_ h;subst h;exact ⟨_,rfl⟩
  |iCond=>
   iterate 3 (replace h:=du_ h;obtain ⟨_,_,rfl,⟨_,rfl⟩,h⟩:=h)
   replace h:=d1_ h;subst h;exact ⟨_,rfl⟩
  |iKid=>
   iterate 2 (replace h:=du_ h;obtain ⟨_,_,rfl,⟨_,rfl⟩,h⟩:=h)
   replace h:=d1_ h;subst h;exact ⟨_,rfl⟩
  |iMut=>
   iterate 4 (replace h:=du_ h;obtain ⟨_,_,rfl,⟨_,rfl⟩,h⟩:=h)
   replace h:=d1_ h;subst h;exact ⟨_,rfl⟩
  |iChange=>
   iterate 7 (replace h:=du_ h;obtain ⟨_,_,rfl,⟨_,rfl⟩,h⟩:=h)
   replace h:=d1_ h;subst h;exact ⟨_,rfl⟩
  |iEvent=>
   iterate 9 (replace h:=du_ h;obtain ⟨_,_,rfl,⟨_,rfl⟩,h⟩:=h)
   replace h:=d1_ h;subst h;exact ⟨_,rfl⟩
namespace laws_FnCut
theorem own:ownKnob Tryz.prog.godebug=none:=by kernel_rfl
theorem laidOut:laidOutB Tryz.prog=true:=by kernel_rfl
def sX_:DataW Unit->ByteArray
 |.iface _ (.ptr (.agg [.lit (.string l)]))=>⟨l.toArray⟩
 |_=>ByteArray.empty
def tab1:DataW Unit->List Value
 |.lit (.int k n)=>[Value.int k n]
 |_=>[]
def tab2:DataW Unit->List Value
 |.agg l=>l.flatMap tab1
 |d=>tab1 d
def fR_:DataW Unit->Array Value
 |.agg l=>(l.flatMap tab2).toArray
 |_ => #[]
def Pure:Prop:=∀ (o:List Int),(∀ c ∈ ([.sl .v .u8 o]:List AV),Good c)->∃ n,Go.Pi.laws_FnCut n o=some true
noncomputable def low:Nat:=(World.holding Tryz.prog default ⟨#[],#[],[]⟩).heap.size
noncomputable def p0_ (os:Os):World :=
 let w0:=World.holding Tryz.prog os ⟨#[.cells #[.string (sX_ Rows.laid_strconv_ErrRange)] 303,.cells #[.string (sX_ Rows.laid_strconv_ErrSyntax)] 303],#[],[]⟩
 let put:=fun (h:Array Obj) (g:Nat) (cs:Array Value)=>h.modify g fun
  |.cells _ t frozen=>.cells cs t frozen
  |o=>o
 { w0 with heap:=put (put (put (put (put (put (put (w0.heap) 4 (fR_ Rows.laid_math_bits_deBruijn32tab)) 5 (fR_ Rows.laid_math_bits_deBruijn64tab)) 3 (fR_ Rows.laid_internal_strconv_uint64pow10)) 7 (fR_ Rows.laid_unicode_utf8_acceptRanges)) 2 (#[.iface 301 (.pointer (some ⟨low+0,0,none⟩))])) 1 (#[.iface 301 (.pointer (some ⟨low+1,0,none⟩))])) 6 (fR_ Rows.laid_unicode_utf8_first) }
theorem oP_ (os:Os) (args:Array Value):laidMet Tryz.prog Rows.fnCutRow.laid ((p0_ os).forCall (fun _ _=>0) ⟨#[],args,[]⟩).memory :=
 laidMet_of_run' 8 (by kernel_rfl) (by kernel_rfl)
theorem lifted (z:Pure) (os:Os) (started:os.Started) (H:Type) (enc:TypeId × Value->H) :
  ReturnsInHanded {} Tryz.checked os 5 .any (fun w args=>(Rows.fnCutSpec.pre enc Tryz.prog Tryz.f5 Rows.fnCutRow.domain false w args/\laidMet Tryz.prog Rows.fnCutRow.laid w)/\sizedMet enc Tryz.prog Tryz.f5 (OpenSpec.ofChange Rows.fnCutSpec) false w args) (Rows.fnCutSpec.post enc Tryz.prog Tryz.f5 false true false false):=by
 refine returnsInHanded_of_calls own started (by kernel_rfl) (ChangeSpec.witness_at (enc:=enc) (C:=Tryz.checked) (os:=os) (X:=fun w _=>laidMet Tryz.prog Rows.fnCutRow.laid w) false (p0_ os) #[.slice none 0 0] 8 rfl (by kernel_rfl) (by kernel_rfl) (by kernel_rfl) (by kernel_rfl) (by kernel_rfl) (oP_ os _)) ?_;intro w0 tape inp _ S _ hok U _;obtain ⟨_,_,_,fn',J,_,_,_,_,u⟩:=hok;obtain rfl:fn'=Tryz.f5:=Option.some.inj (J.symm.trans Tryz.func5);obtain ⟨⟨⟨ds,gs,before,O,V⟩,Y⟩,hz⟩:=U;have Z:=DataW.Whole.of_heap (w':=w0.forCall tape inp) (by rfl) O;have hL:laidMet Tryz.prog Rows.fnCutRow.laid (w0.forCall tape inp):=Y.of_heap (by rfl);clear O Y hz J V;generalize w0.forCall tape inp=W at S u Z hL ⊢;generalize inp.args=args at u Z ⊢;generalize w0.heap.size=base at u
 suffices hgo:Calls Tryz.prog 5 args W fun e W'=>∃ v,e = .returned v/\Rows.fnCutSpec.post enc Tryz.prog Tryz.f5 false true false false W args v W' from hgo.mono fun e W' ⟨v,he,z⟩=>by subst he;exact ChangeSpec.post_blind z
 have I:∀ (j:Nat) t v,Tryz.f5.params[j]?=some t->args[j]?=some v->Value.okWide Tryz.prog W .any base t v:=u;have hW':=Z;obtain ⟨p,q,hA0,hV,rfl,hfz,hnd⟩:=Z;have hA:DataW.TrodAll enc Tryz.prog W 0 (fun _=>true) true Tryz.f5.params.toList args.toList ds p:=hA0;rw [Tryz.params5] at hA I;obtain ⟨v0,vs0,d0,ds0,p0,q0,hargs,rfl,rfl,h0,r0⟩:=trodAll_cons hA;obtain ⟨rfl,rfl,rfl⟩:=trodAll_nil r0;obtain rfl:args = #[v0]:=by cases args;simp_all
 obtain ⟨rfl,rfl⟩:=trodVars_none hV;obtain ⟨c0,len0,cap0,rfl⟩:=okWide_slice Tryz.underlying22 (I 0 22 v0 rfl rfl);have lt0:∀ x ∈ p0,x.block<W.heap.size:=by obtain ⟨m,hm⟩:=h0;exact DataW.trod_lt m _ _ _ hm
 obtain ⟨l0,k0,e0,g0⟩:=arg_open kindsOk (T:=22) (ks:=[.sl .u8]) (by kernel_rfl) h0;replace k0:=du_ k0;obtain ⟨_,_,rfl,⟨z0,rfl⟩,k0⟩:=k0;replace k0:=d1_ k0;subst k0;have hT:Lib.TabIs Tryz.prog W "internal/strconv.uint64pow10" .u64 Lib.pow10Tab:=Lib.tabIs_of_head (t:=292) (e:=267) (n:=20) mG_ (by kernel_rfl) (by kernel_rfl) (by kernel_rfl) (by kernel_rfl) (by kernel_rfl) (show laidMet Tryz.prog ((_,Lib.tabData .u64 Lib.pow10Tab)::_) W from hL.tail.tail)
 obtain ⟨mx,hmx⟩:=cell_of_shapedOpen_int (g:=0) (t:=3) (k:=.i64) (zero:=#[.int .i64 0]) S (by decide +kernel) (by kernel_rfl) rfl (by kernel_rfl) (by kernel_rfl) (by kernel_rfl);have hgl:Glob E W NoF:=fun p z=>by
  rcases List.mem_cons.1 z with rfl|z
  . obtain ⟨T,fr,h⟩:=tab_glob hT mG_;exact ⟨⟨_,T,fr,h,rfl⟩,fun h=>h.elim⟩
  rcases List.mem_cons.1 z with rfl|z
  . exact ⟨int_glob hmx,fun h=>h.elim⟩
  rcases List.mem_cons.1 z with rfl|z
  . exact ⟨sw_ (d:=.ptr (.agg [.lit (.string (sX_ Rows.laid_strconv_ErrSyntax).data.toList)])) (show laidMet Tryz.prog (("strconv.ErrSyntax", .iface "*errors.errorString" (.ptr (.agg [.lit (.string (sX_ Rows.laid_strconv_ErrSyntax).data.toList)])))::_) W from hL.tail.tail.tail.tail.tail) (by kernel_rfl) (by kernel_rfl),fun h=>h.elim⟩
  rcases List.mem_singleton.1 z with rfl;exact ⟨sw_ (d:=.ptr (.agg [.lit (.string (sX_ Rows.laid_strconv_ErrRange).data.toList)])) (show laidMet Tryz.prog (("strconv.ErrRange", .iface "*errors.errorString" (.ptr (.agg [.lit (.string (sX_ Rows.laid_strconv_ErrRange).data.toList)])))::_) W from hL.tail.tail.tail.tail) (by kernel_rfl) (by kernel_rfl),fun h=>h.elim⟩
 obtain ⟨n,hn⟩:=z z0 g0;refine (law_true ((AllE.get (e:=laws_FnCut.e) 0 (allOk n) (by kernel_rfl)) (z0,()) _ hn) hgl (RL.cons e0 (.nil _ fun _=>rfl) (fun b=>rfl))).mono fun e W' ⟨he,bel⟩ => ?_;subst he;exact ⟨_,rfl,_,_,_,[],_,[],hW',trodAll_mk1 (shut_bool Tryz.underlying4 _),(trodAll_cons_mk (Below.trod laidOut (by kernel_rfl) (of_decide_eq_true (by kernel_rfl)) h0 bel lt0) trodAll_mk0),rfl,bel.frame _,fun h=>by cases h⟩
theorem jf0:(Rows.fnCutRow.wf (OpenSpec.ofChange Rows.fnCutSpec))=true:=by kernel_rfl
theorem jf1:(laidOutB Tryz.prog)=true:=by kernel_rfl
theorem jf2:(mapsRowed Tryz.prog)=true:=by kernel_rfl
theorem jf3:(Tryz.f5.params.all (Tryz.prog.readableRec ·))=true:=by kernel_rfl
theorem jf4:(namedTie Tryz.prog Rows.fnCutRow.named Rows.fnCutSpec.vars)=true:=by kernel_rfl
theorem jf5:((Rows.fnCutRow.stops == []))=true:=by kernel_rfl
theorem jf6:((Tryz.prog.stops == []))=true:=by kernel_rfl
theorem jf7:((Rows.fnCutRow.knobs == []))=true:=by kernel_rfl
theorem jf8:((Tryz.prog.stopKnobs == []))=true:=by kernel_rfl
theorem jf9:((Rows.fnCutRow.inPlace == Tryz.prog.inPlace 5))=true:=by kernel_rfl
theorem jf10:((Rows.fnCutRow.unfollowed == Tryz.prog.unfollowed 5))=true:=by kernel_rfl
theorem jf11:((Rows.fnCutRow.recurses == Tryz.prog.recurses 5))=true:=by kernel_rfl
theorem jf12:((Rows.fnCutRow.named == Tryz.prog.varsNamed 5))=true:=by kernel_rfl
theorem jf13:((Rows.fnCutRow.maps == (Tryz.f5.params.toList++Rows.fnCutSpec.plain.varTypes Tryz.prog).any (Tryz.prog.mapsRec ·)))=true:=by kernel_rfl
theorem jf14:((Rows.fnCutRow.ifaces == (Tryz.f5.params.toList++Rows.fnCutSpec.plain.varTypes Tryz.prog).any (Tryz.prog.ifacesRec ·)))=true:=by kernel_rfl
theorem jf15:((Rows.fnCutRow.mapsOut == Tryz.prog.mapsAmong Tryz.f5.resultTypes.toList))=true:=by kernel_rfl
theorem jf16:((Rows.fnCutRow.loops == (Tryz.f5.params.toList++Rows.fnCutSpec.plain.varTypes Tryz.prog).any (Tryz.prog.loopsFrom ·)))=true:=by kernel_rfl
theorem jf17:((Rows.fnCutRow.wideKeys == (Tryz.f5.params.toList++Rows.fnCutSpec.plain.varTypes Tryz.prog++Tryz.f5.resultTypes.toList).any (Tryz.prog.wideKeysFrom ·)))=true:=by kernel_rfl
theorem jf18:(Rows.fnCutSpec.vars.all (Tryz.prog.varReadable ·))=true:=by kernel_rfl
theorem jf19:(Tryz.f5.resultTypes.all (fun t=>Tryz.prog.readableRec t&&decide (t<Tryz.prog.types.size)))=true:=by kernel_rfl
theorem jf20:((Rows.fnCutRow.ifacesOut == Tryz.f5.resultTypes.toList.any (Tryz.prog.ifacesRec ·)))=true:=by kernel_rfl
theorem jf21:((Rows.fnCutRow.loopsOut == Tryz.f5.resultTypes.toList.any (Tryz.prog.loopsFrom ·)))=true:=by kernel_rfl
theorem jf22:((Rows.fnCutRow.plainKeys == Tryz.prog.plainKeys))=true:=by kernel_rfl
theorem jf23:(Rows.fnCutRow.shortTexts.isNone)=true:=by kernel_rfl
theorem jf24:(Tryz.prog.stopsHeard)=true:=by kernel_rfl
theorem jf25:(Tryz.prog.mayEnter)=true:=by kernel_rfl
theorem jf26:((Rows.fnCutRow.lifted == Tryz.prog.liftsFinal))=true:=by kernel_rfl
theorem jf27:((Tryz.prog.make == some Rows.fnCutRow.make))=true:=by kernel_rfl
theorem jf28:((Rows.fnCutRow.kinds == (if Rows.fnCutRow.domain.isEmpty then [] else Tryz.f5.params.toList.map fun t=>match Tryz.prog.underlying t with|some (.int k)=>some k|_=>none)))=true:=by kernel_rfl
theorem jf29:((Rows.fnCutRow.pinned == Rows.fnCutRow.pinnedBy))=true:=by kernel_rfl
theorem jf30:((Rows.fnCutRow.veiled == (Tryz.f5.params.toList++Rows.fnCutSpec.plain.varTypes Tryz.prog++Tryz.f5.resultTypes.toList).any (Tryz.prog.veiledRec ·)))=true:=by kernel_rfl
theorem jf31:(Rows.fnCutRow.veiledFits Tryz.prog Tryz.f5.params.toList (Tryz.f5.params.toList++Rows.fnCutSpec.plain.varTypes Tryz.prog++Tryz.f5.resultTypes.toList))=true:=by kernel_rfl
theorem jl_ {a b:Bool} (h:a=true) (k:b=true):(a&&b)=true:=by rw [h,k];rfl
theorem facts:joinedFacts Tryz.pinned.checked.prog 5 Tryz.f5 Rows.fnCutSpec Rows.fnCutRow=true:=(jl_ (jl_ (jl_ (jl_ (jl_ (jl_ (jl_ (jl_ (jl_ (jl_ (jl_ (jl_ (jl_ (jl_ (jl_ (jl_ (jl_ (jl_ (jl_ (jl_ (jl_ (jl_ (jl_ (jl_ (jl_ (jl_ (jl_ (jl_ (jl_ (jl_ (jl_ jf0 jf1) jf2) jf3) jf4) jf5) jf6) jf7) jf8) jf9) jf10) jf11) jf12) jf13) jf14) jf15) jf16) jf17) jf18) jf19) jf20) jf21) jf22) jf23) jf24) jf25) jf26) jf27) jf28) jf29) jf30) jf31)
theorem over (k:Pure):Rows.fnCutRow.holds Tryz.pinned (OpenSpec.ofChange Rows.fnCutSpec) :=
 OpenClaim.holds_of_wide 5 Tryz.f5 rfl rfl rfl rfl rfl rfl rfl ⟨rfl,rfl,rfl,rfl,rfl⟩ rfl rfl rfl rfl rfl (by kernel_rfl) Tryz.func5 facts
  (of_decide_eq_true (by kernel_rfl)) (by unfold Func.isWrapper;first|(rw [if_pos (by decide +kernel)];kernel_rfl)|(rw [if_neg (by decide +kernel)];exact ⟨rfl,rfl⟩))
  (fun os started H enc _=>lifted k os started H enc)
end laws_FnCut
theorem laws_FnCut.card (m:laws_FnCut.Pure):Rows.FnCutCardSaid :=
 Claim7.holds_tied_plain_at .later [] [.data,.data,.data,.data,.sentinel,.sentinel,.pinned] true (true, "731b7772da27f61403887da7ecfe18ed66ccaf2196a907d38826c3c3cd6f3b07") true
  (laws_FnCut.over m) (fun _ h=>by cases h) (by kernel_rfl) (fun _ h=>by cases h) fnCut_row_tie rfl ⟨rfl,rfl⟩ (by kernel_rfl) rfl
  (fun f fn u k=>by
    obtain rfl:f=5:=Option.some.inj ((show Tryz.prog.funcNamed "loop.example/g00198/laws.FnCut" = some 5 by kernel_rfl).symm.trans u) |>.symm;obtain rfl:fn=Tryz.f5:=(Option.some.inj (Tryz.func5.symm.trans k)).symm;exact ⟨by kernel_rfl,fun j t ht=>by
     rw [Tryz.params5] at ht;have p:t ∈ ([22]:List TypeId):=List.mem_of_getElem? (show ([22]:List TypeId)[j]?=some t by simpa using ht);have:=List.all_eq_true.1 (show ([22]:List TypeId).all (fun t => !Tryz.prog.wantsStandIn t)=true by kernel_rfl) t p;exact (by simpa using this:Tryz.prog.wantsStandIn t=false)⟩)
  (by kernel_rfl)
end
section
variable {α β:Type}
def Ev (f:Nat->Nat->Option α) (v:α):Prop:=∃ M,∀ n N,M<=n->M<=N->f n N=some v
theorem ae_ {v w:α}:Ev (fun _ _=>some v) w↔v=w :=
 ⟨fun ⟨M,h⟩=>Option.some.inj (h M M (Nat.le_refl _) (Nat.le_refl _)),fun h=>⟨0,fun _ _ _ _=>by rw [h]⟩⟩
theorem dK_ {f:Nat->Nat->Option α} {v w:α} (h:Ev f v):Ev f w↔v=w:=by
 constructor
 . rintro ⟨M',h'⟩
   obtain ⟨M,h⟩:=h;have a:=h (max M M') (max M M') (by omega) (by omega);have b:=h' (max M M') (max M M') (by omega) (by omega);rw [a] at b;exact Option.some.inj b
 . rintro rfl;exact h
theorem ab_ {f:Nat->Nat->Option α} {a:α} (h:Ev f a) {g:Nat->Nat->α->Option β} {v:β}:Ev (fun n N=>(f n N).bind (g n N)) v↔Ev (fun n N=>g n N a) v:=by
 obtain ⟨M,h⟩:=h;constructor
 . rintro ⟨M',h'⟩
   refine ⟨max M M',fun n N m k => ?_⟩;have:=h' n N (by omega) (by omega);simp only [h n N (by omega) (by omega),Option.bind_some] at this;exact this
 . rintro ⟨M',h'⟩
   refine ⟨max M M',fun n N m k => ?_⟩;simp only [h n N (by omega) (by omega),Option.bind_some];exact h' n N (by omega) (by omega)
theorem dI_ {v:α}:Ev (fun _ _=>none) v↔False:=by
 simp only [iff_false]
 rintro ⟨M,h⟩
 cases h M M (Nat.le_refl _) (Nat.le_refl _)
theorem al_ {c:Bool} {f g:Nat->Nat->Option α} {v:α}:Ev (fun n N=>cond c (f n N) (g n N)) v↔(c=true->Ev f v)/\(c=false->Ev g v):=by cases c<;>simp
theorem bc_ {i:Int} {len:Nat} {f:Nat->Nat->Option α} {v:α}:Ev (fun n N=>inB i len (f n N)) v↔(0<=i/\i<(len:Int))/\Ev f v:=by unfold inB;rw [al_,al_];by_cases m:0<=i<;>by_cases k:i<(len:Int)<;>simp [m,k,dI_]
theorem am_ {f:Nat->Nat->Option α} {v:α} (h:Ev (fun n N=>f (n+1) N) v):Ev f v:=by
 obtain ⟨M,h⟩:=h;refine ⟨M+1,fun n N p k => ?_⟩;obtain ⟨m,rfl⟩:∃ m,n=m+1:=⟨n - 1,by omega⟩
 exact h m N (by omega) (by omega)
theorem cX_ {f:Nat->Nat->Option α} {v:α} (h:Ev f v):Ev (fun n _=>f n n) v:=by obtain ⟨M,h⟩:=h;exact ⟨M,fun n N k m=>h n n k k⟩
theorem a8_ {f:Nat->Nat->Option α} {v:α} (h:Ev (fun n N=>f n (N+1)) v):Ev f v:=by
 obtain ⟨M,h⟩:=h;refine ⟨M+1,fun n N p k => ?_⟩;obtain ⟨m,rfl⟩:∃ m,N=m+1:=⟨N - 1,by omega⟩
 exact h n m (by omega) (by omega)
theorem ev_ex {f:Nat->Option α} {v:α} (h:Ev (fun n _=>f n) v):∃ n,f n=some v:=by obtain ⟨M,h⟩:=h;exact ⟨M,h M M (Nat.le_refl _) (Nat.le_refl _)⟩
end
abbrev cf_:Nat:=9223372036854775807
theorem W_id {n:Int} (h : -9223372036854775808<=n) (h':n<9223372036854775808):W n=n:=by show IntKind.i64.wrap n=n;rw [IntKind.wrap_i64];omega
theorem W_up {i:Nat} {len:Nat} (h:i<len) (hl:len<=cf_):W ((i:Int)+1)=((i+1:Nat):Int):=by rw [W_id (by omega) (by simp only [cf_] at hl;omega)];omega
theorem ds_ {α:Type} (d:α) {a:List α} {i:Nat} (h:i<a.length):a.drop i=a.getD i d::a.drop (i+1):=by rw [List.drop_eq_getElem_cons h,List.getD_eq_getElem?_getD,List.getElem?_eq_getElem h];rfl
theorem sz_ {α:Type} {a:List α} {i:Nat} (h:a.length<=i):a.drop i=[]:=List.drop_eq_nil_of_le h
theorem b2_ {α:Type} (d:α) {a:List α} {i:Nat} (h:i<a.length):a.getD i d ∈ a:=by rw [List.getD_eq_getElem?_getD,List.getElem?_eq_getElem h];exact List.getElem_mem h
theorem cd_.turn4 {n N k}:cd_.loop4 n k (N+1)=cd_.step4 n k (cd_.loop4 n k N):=rfl
theorem a4_.turn4 {n N k}:a4_.loop4 n k (N+1)=a4_.step4 n k (a4_.loop4 n k N):=rfl
theorem aJ_.turn4 {n N k}:aJ_.loop4 n k (N+1)=aJ_.step4 n k (aJ_.loop4 n k N):=rfl
theorem b8_.turn4 {n N k}:b8_.loop4 n k (N+1)=b8_.step4 n k (b8_.loop4 n k N):=rfl
theorem bZ_.turn5 {n N k}:bZ_.loop5 n k (N+1)=bZ_.step5 n k (bZ_.loop5 n k N):=rfl
theorem cI_.turn3 {n N k}:cI_.loop3 n k (N+1)=cI_.step3 n k (cI_.loop3 n k N):=rfl
theorem bP_.turn5 {n N k}:bP_.loop5 n k (N+1)=bP_.step5 n k (bP_.loop5 n k N):=rfl
theorem ac_.turn20 {n N k0 k1}:ac_.loop20 n k0 k1 (N+1)=ac_.step20 n k0 k1 (ac_.loop20 n k0 k1 N):=rfl
theorem ac_.turn28 {n N k0 k1}:ac_.loop28 n k0 k1 (N+1)=ac_.step28 n k0 k1 (ac_.loop28 n k0 k1 N):=rfl
theorem aM_.turn4 {n N k}:aM_.loop4 n k (N+1)=aM_.step4 n k (aM_.loop4 n k N):=rfl
theorem a5_.turn3 {n N k}:a5_.loop3 n k (N+1)=a5_.step3 n k (a5_.loop3 n k N):=rfl
theorem bb_.turn4 {n N k}:bb_.loop4 n k (N+1)=bb_.step4 n k (bb_.loop4 n k N):=rfl
theorem cm_.turn3 {n N k}:cm_.loop3 n k (N+1)=cm_.step3 n k (cm_.loop3 n k N):=rfl
theorem bm_.turn5 {n N k}:bm_.loop5 n k (N+1)=bm_.step5 n k (bm_.loop5 n k N):=rfl
theorem bK_.turn6 {n N k}:bK_.loop6 n k (N+1)=bK_.step6 n k (bK_.loop6 n k N):=rfl
theorem a3_.turn4 {n N k}:a3_.loop4 n k (N+1)=a3_.step4 n k (a3_.loop4 n k N):=rfl
theorem aQ_.turn4 {n N k}:aQ_.loop4 n k (N+1)=aQ_.step4 n k (aQ_.loop4 n k N):=rfl
theorem aj_.turn7 {n N k}:aj_.loop7 n k (N+1)=aj_.step7 n k (aj_.loop7 n k N):=rfl
theorem aj_.turn16 {n N k}:aj_.loop16 n k (N+1)=aj_.step16 n k (aj_.loop16 n k N):=rfl
theorem cq_.turn6 {n N k}:cq_.loop6 n k (N+1)=cq_.step6 n k (cq_.loop6 n k N):=rfl
theorem b7_.turn3 {n N k}:b7_.loop3 n k (N+1)=b7_.step3 n k (b7_.loop3 n k N):=rfl
theorem bD_.turn6 {n N k}:bD_.loop6 n k (N+1)=bD_.step6 n k (bD_.loop6 n k N):=rfl
theorem aB_.turn7 {n N k}:aB_.loop7 n k (N+1)=aB_.step7 n k (aB_.loop7 n k N):=rfl
theorem aB_.turn16 {n N k}:aB_.loop16 n k (N+1)=aB_.step16 n k (aB_.loop16 n k N):=rfl
theorem bU_.turn3 {n N k}:bU_.loop3 n k (N+1)=bU_.step3 n k (bU_.loop3 n k N):=rfl
theorem bY_.turn5 {n N k}:bY_.loop5 n k (N+1)=bY_.step5 n k (bY_.loop5 n k N):=rfl
theorem bO_.turn8 {n N k}:bO_.loop8 n k (N+1)=bO_.step8 n k (bO_.loop8 n k N):=rfl
theorem aR_.turn5 {n N k}:aR_.loop5 n k (N+1)=aR_.step5 n k (aR_.loop5 n k N):=rfl
theorem b6_.turn8 {n N k}:b6_.loop8 n k (N+1)=b6_.step8 n k (b6_.loop8 n k N):=rfl
theorem b0_.turn4 {n N k}:b0_.loop4 n k (N+1)=b0_.step4 n k (b0_.loop4 n k N):=rfl
theorem cc_.turn3 {n N k}:cc_.loop3 n k (N+1)=cc_.step3 n k (cc_.loop3 n k N):=rfl
theorem bf_.turn4 {n N k}:bf_.loop4 n k (N+1)=bf_.step4 n k (bf_.loop4 n k N):=rfl
theorem aV_.turn7 {n N k}:aV_.loop7 n k (N+1)=aV_.step7 n k (aV_.loop7 n k N):=rfl
theorem bS_.turn4 {n N k}:bS_.loop4 n k (N+1)=bS_.step4 n k (bS_.loop4 n k N):=rfl
theorem b9_.turn3 {n N k}:b9_.loop3 n k (N+1)=b9_.step3 n k (b9_.loop3 n k N):=rfl
theorem ag_.turn6 {n N k}:ag_.loop6 n k (N+1)=ag_.step6 n k (ag_.loop6 n k N):=rfl
theorem aS_.turn23 {n N k0 k1}:aS_.loop23 n k0 k1 (N+1)=aS_.step23 n k0 k1 (aS_.loop23 n k0 k1 N):=rfl
theorem cn_.turn4 {n N k}:cn_.loop4 n k (N+1)=cn_.step4 n k (cn_.loop4 n k N):=rfl
theorem aq_.turn6 {n N k0 k1}:aq_.loop6 n k0 k1 (N+1)=aq_.step6 n k0 k1 (aq_.loop6 n k0 k1 N):=rfl
theorem aq_.turn14 {n N k0 k1}:aq_.loop14 n k0 k1 (N+1)=aq_.step14 n k0 k1 (aq_.loop14 n k0 k1 N):=rfl
theorem bN_.turn3 {n N k}:bN_.loop3 n k (N+1)=bN_.step3 n k (bN_.loop3 n k N):=rfl
theorem b4_.turn3 {n N k}:b4_.loop3 n k (N+1)=b4_.step3 n k (b4_.loop3 n k N):=rfl
theorem bv_.turn5 {n N k}:bv_.loop5 n k (N+1)=bv_.step5 n k (bv_.loop5 n k N):=rfl
theorem cB_.turn3 {n N k}:cB_.loop3 n k (N+1)=cB_.step3 n k (cB_.loop3 n k N):=rfl
theorem aL_.turn3 {n N k}:aL_.loop3 n k (N+1)=aL_.step3 n k (aL_.loop3 n k N):=rfl
theorem aL_.turn11 {n N k}:aL_.loop11 n k (N+1)=aL_.step11 n k (aL_.loop11 n k N):=rfl
theorem br_.turn4 {n N k0 k1}:br_.loop4 n k0 k1 (N+1)=br_.step4 n k0 k1 (br_.loop4 n k0 k1 N):=rfl
theorem aI_.turn5 {n N k}:aI_.loop5 n k (N+1)=aI_.step5 n k (aI_.loop5 n k N):=rfl
theorem aI_.turn13 {n N k}:aI_.loop13 n k (N+1)=aI_.step13 n k (aI_.loop13 n k N):=rfl
theorem ck_.turn4 {n N k}:ck_.loop4 n k (N+1)=ck_.step4 n k (ck_.loop4 n k N):=rfl
theorem cy_.turn6 {n N k}:cy_.loop6 n k (N+1)=cy_.step6 n k (cy_.loop6 n k N):=rfl
theorem aF_.turn10 {n N k}:aF_.loop10 n k (N+1)=aF_.step10 n k (aF_.loop10 n k N):=rfl
theorem aF_.turn4 {n N k}:aF_.loop4 n k (N+1)=aF_.step4 n k (aF_.loop4 n k N):=rfl
theorem bz_.turn4 {n N k}:bz_.loop4 n k (N+1)=bz_.step4 n k (bz_.loop4 n k N):=rfl
theorem aO_.turn17 {n N k0 k1}:aO_.loop17 n k0 k1 (N+1)=aO_.step17 n k0 k1 (aO_.loop17 n k0 k1 N):=rfl
theorem a9_.turn4 {n N k}:a9_.loop4 n k (N+1)=a9_.step4 n k (a9_.loop4 n k N):=rfl
theorem bA_.turn4 {n N k}:bA_.loop4 n k (N+1)=bA_.step4 n k (bA_.loop4 n k N):=rfl
theorem aD_.turn5 {n N k}:aD_.loop5 n k (N+1)=aD_.step5 n k (aD_.loop5 n k N):=rfl
theorem bF_.turn12 {n N k}:bF_.loop12 n k (N+1)=bF_.step12 n k (bF_.loop12 n k N):=rfl
theorem aU_.turn4 {n N k}:aU_.loop4 n k (N+1)=aU_.step4 n k (aU_.loop4 n k N):=rfl
theorem as_.turn5 {n N k}:as_.loop5 n k (N+1)=as_.step5 n k (as_.loop5 n k N):=rfl
theorem bR_.turn4 {n N k}:bR_.loop4 n k (N+1)=bR_.step4 n k (bR_.loop4 n k N):=rfl
theorem aT_.turn4 {n N k}:aT_.loop4 n k (N+1)=aT_.step4 n k (aT_.loop4 n k N):=rfl
theorem bu_.turn11 {n N k}:bu_.loop11 n k (N+1)=bu_.step11 n k (bu_.loop11 n k N):=rfl
theorem av_.turn4 {n N k}:av_.loop4 n k (N+1)=av_.step4 n k (av_.loop4 n k N):=rfl
theorem ap_.turn3 {n N k}:ap_.loop3 n k (N+1)=ap_.step3 n k (ap_.loop3 n k N):=rfl
theorem an_.turn7 {n N k0 k1}:an_.loop7 n k0 k1 (N+1)=an_.step7 n k0 k1 (an_.loop7 n k0 k1 N):=rfl
theorem aA_.turn3 {n N k}:aA_.loop3 n k (N+1)=aA_.step3 n k (aA_.loop3 n k N):=rfl
theorem au_.turn3 {n N k}:au_.loop3 n k (N+1)=au_.step3 n k (au_.loop3 n k N):=rfl
theorem bM_.turn7 {n N k0 k1}:bM_.loop7 n k0 k1 (N+1)=bM_.step7 n k0 k1 (bM_.loop7 n k0 k1 N):=rfl
theorem b1_.turn4 {n N k}:b1_.loop4 n k (N+1)=b1_.step4 n k (b1_.loop4 n k N):=rfl
theorem be_.turn4 {n N k0 k1}:be_.loop4 n k0 k1 (N+1)=be_.step4 n k0 k1 (be_.loop4 n k0 k1 N):=rfl
theorem aG_.turn3 {n N k}:aG_.loop3 n k (N+1)=aG_.step3 n k (aG_.loop3 n k N):=rfl
theorem bd_.turn4 {n N k0 k1}:bd_.loop4 n k0 k1 (N+1)=bd_.step4 n k0 k1 (bd_.loop4 n k0 k1 N):=rfl
theorem bW_.turn4 {n N k}:bW_.loop4 n k (N+1)=bW_.step4 n k (bW_.loop4 n k N):=rfl
theorem bG_.turn7 {n N k}:bG_.loop7 n k (N+1)=bG_.step7 n k (bG_.loop7 n k N):=rfl
theorem cz_.turn3 {n N k}:cz_.loop3 n k (N+1)=cz_.step3 n k (cz_.loop3 n k N):=rfl
theorem aK_.turn6 {n N k}:aK_.loop6 n k (N+1)=aK_.step6 n k (aK_.loop6 n k N):=rfl
theorem ai_.turn6 {n N k0 k1}:ai_.loop6 n k0 k1 (N+1)=ai_.step6 n k0 k1 (ai_.loop6 n k0 k1 N):=rfl
theorem b3_.turn4 {n N k}:b3_.loop4 n k (N+1)=b3_.step4 n k (b3_.loop4 n k N):=rfl
theorem bw_.turn4 {n N k}:bw_.loop4 n k (N+1)=bw_.step4 n k (bw_.loop4 n k N):=rfl
theorem cl_.turn5 {n N k}:cl_.loop5 n k (N+1)=cl_.step5 n k (cl_.loop5 n k N):=rfl
theorem bH_.turn4 {n N k}:bH_.loop4 n k (N+1)=bH_.step4 n k (bH_.loop4 n k N):=rfl
theorem b5_.turn3 {n N k}:b5_.loop3 n k (N+1)=b5_.step3 n k (b5_.loop3 n k N):=rfl
theorem bo_.turn5 {n N k}:bo_.loop5 n k (N+1)=bo_.step5 n k (bo_.loop5 n k N):=rfl
theorem aE_.turn7 {n N k}:aE_.loop7 n k (N+1)=aE_.step7 n k (aE_.loop7 n k N):=rfl
theorem aH_.turn4 {n N k}:aH_.loop4 n k (N+1)=aH_.step4 n k (aH_.loop4 n k N):=rfl
theorem a0_.turn8 {n N k0 k1}:a0_.loop8 n k0 k1 (N+1)=a0_.step8 n k0 k1 (a0_.loop8 n k0 k1 N):=rfl
theorem a6_.turn6 {n N k}:a6_.loop6 n k (N+1)=a6_.step6 n k (a6_.loop6 n k N):=rfl
theorem bh_.turn7 {n N k}:bh_.loop7 n k (N+1)=bh_.step7 n k (bh_.loop7 n k N):=rfl
theorem ad_.turn20 {n N k}:ad_.loop20 n k (N+1)=ad_.step20 n k (ad_.loop20 n k N):=rfl
theorem ad_.turn5 {n N k}:ad_.loop5 n k (N+1)=ad_.step5 n k (ad_.loop5 n k N):=rfl
theorem cu_.turn8 {n N k}:cu_.loop8 n k (N+1)=cu_.step8 n k (cu_.loop8 n k N):=rfl
theorem bE_.turn4 {n N k}:bE_.loop4 n k (N+1)=bE_.step4 n k (bE_.loop4 n k N):=rfl
theorem laws_FnCut.turn12 {n N k}:laws_FnCut.loop12 n k (N+1)=laws_FnCut.step12 n k (laws_FnCut.loop12 n k N):=rfl
def io_ (p:Nat->Bool):Nat->Nat->Bool
 |0,_=>true
 |d+1,i=>p i&&io_ p d (i+1)
def iO_ (p:Nat->Bool) (len:Nat):Bool:=io_ p len 0
theorem e8_ (L:Nat->Nat->Nat->Option Bool) (p:Nat->Bool) {len:Nat} {v:Bool}
  (h:∀ i w,i<len->Ev (fun n N=>L n N (i+1)) w->Ev (fun n N=>L n (N+1) i) (p i&&w)) (m:Ev (fun n N=>L n (N+1) len) v) :
  Ev (fun n _=>L n n 0) (iO_ p len&&v):=by
 have k:∀ d i,d+i=len->Ev (fun n N=>L n N i) (io_ p d i&&v):=by
  intro d;induction d with
  |zero=>
   intro i hd;obtain rfl:i=len:=by omega
   simpa [io_] using a8_ (f:=fun n N=>L n N i) m
  |succ d ih=>
   intro i hd;have:=h i _ (by omega) (ih (i+1) (by omega));rw [<-Bool.and_assoc] at this;exact a8_ (f:=fun n N=>L n N i) this
 exact cX_ (f:=fun n N=>L n N 0) (k len 0 (by omega))
theorem gj_ {α:Type} {f:Nat->Nat->Option α} {v w:α} (h:Ev f v) (e:v=w):Ev f w:=e ▸ h
def inn (x lo hi:Int):Bool:=decide (lo<=x)&&decide (x<=hi)
theorem jh_ {x lo hi:Int}:inn x lo hi=true↔lo<=x/\x<=hi:=by simp [inn]
theorem l1In_ev {x lo hi:Int}:Ev (fun n _=>cb_ n x lo hi) (inn x lo hi):=by
 refine am_ ?_;simp only [cb_,al_,ae_,inn]
 grind
theorem po_ {x lo hi:Int}:Ev (fun n _=>aN_ n x lo hi) (inn x lo hi):=by
 refine am_ ?_;simp only [aN_,al_,ae_,inn]
 grind
section
variable {β:Type} {x lo hi:Int} {g:Nat->Nat->Bool->Option β} {v:β}
theorem fX_:Ev (fun n N=>(cb_ n x lo hi).bind (g n N)) v↔Ev (fun n N=>g n N (inn x lo hi)) v:=ab_ l1In_ev
theorem gI_:Ev (fun n N=>(aN_ n x lo hi).bind (g n N)) v↔Ev (fun n N=>g n N (inn x lo hi)) v:=ab_ po_
theorem isNum_b:Ev (fun n N=>(bp_ n x).bind (g n N)) v↔Ev (fun n N=>g n N (inn x (-1000000000) 1000000000)) v :=
 ab_ (am_ (by simp only [bp_,gI_,ae_]))
end
theorem cE_ {i len:Nat} (h:i<len):decide ((i:Int)<(len:Int))=true:=by simp;omega
theorem co_ {len:Nat}:decide ((len:Int)<(len:Int))=false:=by simp
theorem ch_ {i len:Nat} (h:i<len):((0:Int)<=(i:Int)/\(i:Int)<(len:Int))↔True:=by simp;omega
abbrev cap:Nat:=1048576
def eF_ {α:Type} (f:α->Nat):List α->Nat
 |[]=>0
 |x::xs=>f x+eF_ f xs
def fS_ {α:Type} (f:α->Nat) (l:List α):Nat:=l.length+eF_ f l
def pV_ {α:Type} (P:α->Prop) (l:List α):Prop:=l.length<=cf_/\∀ x ∈ l,P x
def szI (_:Int):Nat:=0
def szB (s:Bs):Nat:=s.length
def lenI (_:Int):Prop:=True
def lenB (s:Bs):Prop:=s.length<=cf_
theorem jy_ {α:Type} (f:α->Nat) (d:α) {a:List α} {i:Nat} (h:i<a.length):eF_ f (a.drop i)=f (a.getD i d)+eF_ f (a.drop (i+1)):=by rw [ds_ d h];rfl
theorem i5_ {α:Type} (f:α->Nat) {a:List α} {x:α} (h:x ∈ a):f x<=eF_ f a:=by
 induction a with
 |nil=>cases h
 |cons y a ih=>
  simp only [eF_];rcases List.mem_cons.1 h with rfl|h
  . omega
  . have:=ih h;omega
theorem W_dn {i:Nat} (h:i<=cf_):W ((i:Int) - 1)=(i:Int) - 1:=by rw [W_id (by omega) (by simp only [cf_] at h;omega)]
theorem ls_ {i:Nat}:((i:Int) - 1).toNat=i - 1:=by omega
theorem gP_ {x lo hi:Int} (h:inn x lo hi=true):lo<=x/\x<=hi:=jh_.1 h
def gR_ {α:Type} (s:Nat->α->α) (v:α):Nat->Nat->α
 |0,_=>v
 |d+1,i=>s i (gR_ s v d (i+1))
theorem mK_ {α:Type} (L:Nat->Nat->Nat->Option α) (s:Nat->α->α) {len:Nat} {v:α}
  (h:∀ i w,i<len->Ev (fun n N=>L n N (i+1)) w->Ev (fun n N=>L n (N+1) i) (s i w)) (m:Ev (fun n N=>L n (N+1) len) v) :
  Ev (fun n _=>L n n 0) (gR_ s v len 0):=by
 have k:∀ d i,d+i=len->Ev (fun n N=>L n N i) (gR_ s v d i):=by
  intro d;induction d with
  |zero=>
   intro i hd;obtain rfl:i=len:=by omega
   exact a8_ (f:=fun n N=>L n N i) m
  |succ d ih=>
   intro i hd;exact a8_ (f:=fun n N=>L n N i) (h i _ (by omega) (ih (i+1) (by omega)))
 exact cX_ (f:=fun n N=>L n N 0) (k len 0 (by omega))
theorem ba_ {α:Type} {n b:Nat} {f:Nat->Nat->Option α} {v:α}:Ev (fun m N=>bk_ n b (f m N)) v↔n*b<=140737488355328/\Ev f v:=by unfold bk_;rw [al_];by_cases h:n*b<=140737488355328<;>simp [h,dI_]
theorem qn_ {α β γ:Type} (d:α) (a:List α) (f:α->β) (L:Nat->Nat->Nat->List β->Option γ) (v:γ)
  (p:∀ i s,i<a.length->s.length=i->∀ F,Ev (fun n N=>L n N (i+1) (s++[f (a.getD i d)])) F->Ev (fun n N=>L n (N+1) i s) F)
  (m:Ev (fun n N=>L n (N+1) a.length (a.map f)) v):Ev (fun n _=>L n n 0 []) v:=by
 have k:∀ j i,j+i=a.length->Ev (fun n N=>L n N i ((a.take i).map f)) v:=by
  intro j;induction j with
  |zero=>
   intro i hi;have:i=a.length:=by omega
   subst this;rw [List.take_of_length_le (Nat.le_refl _)];exact a8_ m
  |succ j ih=>
   intro i hi;refine a8_ (p i _ (by omega) (by simp;omega) _ ?_);have:=ih (i+1) (by omega);rw [List.take_add_one,List.map_append] at this;have e:a[i]?.toList=[a.getD i d]:=by rw [List.getD_eq_getElem?_getD,List.getElem?_eq_getElem (by omega)];rfl
   rw [e] at this;exact this
 have:=k a.length 0 (by omega);exact cX_ (f:=fun n N=>L n N 0 []) this
abbrev fj_:Nat:=1073741824
theorem eO_ {α γ:Type} (S:Nat->α) (len:Nat) (L:Nat->Nat->Nat->α->Option γ) (v:γ)
  (p:∀ i,i<len->∀ F,Ev (fun n N=>L n N (i+1) (S (i+1))) F->Ev (fun n N=>L n (N+1) i (S i)) F)
  (m:Ev (fun n N=>L n (N+1) len (S len)) v):Ev (fun n _=>L n n 0 (S 0)) v:=by
 have k:∀ j i,j+i=len->Ev (fun n N=>L n N i (S i)) v:=by
  intro j;induction j with
  |zero=>
   intro i hi;have:i=len:=by omega
   subst this;exact a8_ m
  |succ j ih=>exact fun i hi=>a8_ (p i (by omega) _ (ih (i+1) (by omega)))
 exact cX_ (f:=fun n N=>L n N 0 (S 0)) (k len 0 (by omega))
theorem cH_ {α:Type} (d:α) {a:List α} {i:Nat} (h:i<a.length):a.take (i+1)=a.take i++[a.getD i d]:=by rw [List.take_add_one,List.getD_eq_getElem?_getD,List.getElem?_eq_getElem h];rfl
theorem gQ_ {α:Type} (d:α) (P:α->Bool):∀ (rows:List α),gR_ (fun i (x:Int)=>cond (P (rows.getD i d)) (i:Int) x) (-1) rows.length 0=if rows.findIdx P<rows.length then (rows.findIdx P:Int) else -1:=by
 intro rows;have I:∀ j i,j+i=rows.length->(∀ k,k<i->P (rows.getD k d)=false)->gR_ (fun i (x:Int)=>cond (P (rows.getD i d)) (i:Int) x) (-1) j i=if rows.findIdx P<rows.length then (rows.findIdx P:Int) else -1:=by
  intro j;induction j with
  |zero=>
   intro i hi u;have:¬ rows.findIdx P<rows.length:=by intro h;have O:=List.findIdx_getElem (w:=h);have m:=u _ (show rows.findIdx P<i by omega);rw [List.getD_eq_getElem?_getD,List.getElem?_eq_getElem h] at m;simp only [Option.getD_some] at m;rw [O] at m;cases m
   rw [if_neg this];rfl
  |succ j ih=>
   intro i hi u;simp only [gR_];cases z:P (rows.getD i d) with
   |true=>
    have p:i<rows.length:=by omega
    rw [List.getD_eq_getElem?_getD,List.getElem?_eq_getElem p] at z;have e:rows.findIdx P=i:=by
     apply Nat.le_antisymm
     . exact Nat.le_of_not_lt fun h=>by have:=List.not_of_lt_findIdx h;rw [Option.getD_some] at z;rw [z] at this;cases this
     . exact Nat.le_of_not_lt fun h=>by
        have m:=u _ h;have hl:rows.findIdx P<rows.length:=by omega
        rw [List.getD_eq_getElem?_getD,List.getElem?_eq_getElem hl] at m;rw [Option.getD_some,List.findIdx_getElem (w:=hl)] at m;cases m
    rw [e,if_pos p];rfl
   |false=>
    rw [cond_false];exact ih (i+1) (by omega) fun k J=>by
     by_cases e:k=i
     . subst e;exact z
     . exact u k (by omega)
 exact I rows.length 0 (by omega) fun k u=>by omega
theorem dQ_ {α:Type} {lo hi:Int} {len:Nat} {f:Nat->Nat->Option α} {v:α}:Ev (fun n N=>f6_ lo hi len (f n N)) v↔(0<=lo/\lo<=hi/\hi<=(len:Int))/\Ev f v:=by unfold f6_;simp only [al_,dI_];by_cases p:0<=lo<;>by_cases m:lo<=hi<;>by_cases k:hi<=(len:Int)<;>simp [p,m,k]
theorem fc_ {p:Nat->Bool} {len:Nat}:iO_ p len=true↔∀ i,i<len->p i=true:=by
 have u:∀ d i,d+i=len->(io_ p d i=true↔∀ k,i<=k->k<len->p k=true):=by
  intro d;induction d with
  |zero=>intro i hi;simp only [io_,true_iff];intro k z m;omega
  |succ d ih=>
   intro i hi;simp only [io_,Bool.and_eq_true,ih (i+1) (by omega)];constructor
   . rintro ⟨z,m⟩ k J I
     by_cases e:k=i
     . subst e;exact z
     . exact m k (by omega) I
   . exact fun h=>⟨h i (Nat.le_refl _) (by omega),fun k z m=>h k (by omega) m⟩
 have:=u len 0 (by omega);unfold iO_;rw [this];exact ⟨fun h i hi=>h i (Nat.zero_le _) hi,fun h i _ hi=>h i hi⟩
section
variable {α β σ:Type}
def Ans (f:Nat->Nat->Option α) (Q:α->Prop):Prop:=∃ v,Ev f v/\Q v
theorem ans_ev {f:Nat->Nat->Option α} {v:α} (h:Ev f v) {Q:α->Prop}:Ans f Q↔Q v :=
 ⟨fun ⟨w,m,k⟩=>(dK_ h).1 m ▸ k,fun hq=>⟨v,h,hq⟩⟩
theorem aX_ {v:α} {Q:α->Prop}:Ans (fun _ _=>some v) Q↔Q v:=ans_ev (ae_.2 rfl)
theorem sI_ {Q:α->Prop}:Ans (fun _ _=>none) Q↔False :=
 ⟨fun ⟨_,h,_⟩=>dI_.1 h,fun h=>h.elim⟩
theorem bg_ {f:Nat->Nat->Option α} {a:α} (h:Ev f a) {g:Nat->Nat->α->Option β} {Q:β->Prop}:Ans (fun n N=>(f n N).bind (g n N)) Q↔Ans (fun n N=>g n N a) Q:=by unfold Ans;simp only [ab_ h]
theorem az_ {f:Nat->Nat->Option α} {P:α->Prop} (h:Ans f P) {g:Nat->Nat->α->Option β} {Q:β->Prop} (k:∀ v,P v->Ans (fun n N=>g n N v) Q):Ans (fun n N=>(f n N).bind (g n N)) Q:=by obtain ⟨v,p,m⟩:=h;exact (bg_ p).2 (k v m)
theorem bj_ {c:Bool} {f g:Nat->Nat->Option α} {Q:α->Prop}:Ans (fun n N=>cond c (f n N) (g n N)) Q↔(c=true->Ans f Q)/\(c=false->Ans g Q):=by cases c<;>simp
theorem eN_ {i:Int} {len:Nat} {f:Nat->Nat->Option α} {Q:α->Prop}:Ans (fun n N=>inB i len (f n N)) Q↔(0<=i/\i<(len:Int))/\Ans f Q:=by unfold Ans;simp only [bc_];exact ⟨fun ⟨v,⟨p,m⟩,k⟩=>⟨p,v,m,k⟩,fun ⟨p,v,m,k⟩=>⟨v,⟨p,m⟩,k⟩⟩
theorem d7_ {n b:Nat} {f:Nat->Nat->Option α} {Q:α->Prop}:Ans (fun m N=>bk_ n b (f m N)) Q↔n*b<=140737488355328/\Ans f Q:=by unfold Ans;simp only [ba_];exact ⟨fun ⟨v,⟨u,p⟩,k⟩=>⟨u,v,p,k⟩,fun ⟨u,v,p,k⟩=>⟨v,⟨u,p⟩,k⟩⟩
theorem lC_ {lo hi:Int} {len:Nat} {f:Nat->Nat->Option α} {Q:α->Prop}:Ans (fun n N=>f6_ lo hi len (f n N)) Q↔(0<=lo/\lo<=hi/\hi<=(len:Int))/\Ans f Q:=by unfold Ans;simp only [dQ_];exact ⟨fun ⟨v,⟨p,m⟩,k⟩=>⟨p,v,m,k⟩,fun ⟨p,v,m,k⟩=>⟨v,⟨p,m⟩,k⟩⟩
theorem ci_ {f:Nat->Nat->Option α} {Q:α->Prop} (h:Ans (fun n N=>f (n+1) N) Q):Ans f Q :=
 let ⟨v,h1,h2⟩:=h;⟨v,am_ h1,h2⟩
theorem cA_ {f:Nat->Nat->Option α} {Q:α->Prop} (h:Ans (fun n N=>f n (N+1)) Q):Ans f Q :=
 let ⟨v,h1,h2⟩:=h;⟨v,a8_ h1,h2⟩
theorem eu_ {f:Nat->Nat->Option α} {Q:α->Prop} (h:Ans f Q):Ans (fun n _=>f n n) Q :=
 let ⟨v,h1,h2⟩:=h;⟨v,cX_ h1,h2⟩
theorem gk_ (L:Nat->Nat->σ->Option α) (m:σ->Nat) (I:σ->Prop) (Q:α->Prop)
  (h:∀ s,I s->(∀ s',I s'->m s'<m s->Ans (fun n N=>L n N s') Q)->Ans (fun n N=>L n (N+1) s) Q):∀ s,I s->Ans (fun n _=>L n n s) Q:=by
 have p:∀ k s,m s<k->I s->Ans (fun n N=>L n N s) Q:=by
  intro k;induction k with
  |zero=>intro s J;omega
  |succ k ih=>exact fun s J z=>cA_ (h s z fun s' u O=>ih s' (by omega) u)
 exact fun s z=>eu_ (f:=fun n N=>L n N s) (p _ s (Nat.lt_succ_self _) z)
end
theorem aY_ (j:aa_):aa_.re j=j:=by cases j;rfl
def jo_ (s:Bs):Bool:=iO_ (fun i=>inn ((s.getD i 0).toNat:Int) 32 126) s.length&&decide ((s.length:Int)<=60)
theorem sH_ (b:UInt8):W ((b.toNat:Int))=(b.toNat:Int):=W_id (by omega) (by have:=b.toNat_lt;omega)
theorem gW_ {s:Bs} (hs:s.length<=cf_):Ev (fun n _=>b9_ n s) (jo_ s):=by
 refine am_ ?_;simp only [b9_];refine e8_ (fun n N i=>b9_.loop3 n (fun B1=>(some (decide ((B1.length:Int)<=60)))) N s (i:Int)) _ (fun i w hi ih => ?_) ?_
 . simp only [b9_.turn3,b9_.step3,Int.toNat_natCast,al_,bc_,ae_,W_up hi hs,dK_ ih,cE_ hi,ch_ hi]
   clear ih;simp only [inn];by_cases m:(((s.getD i 0).toNat:Nat):Int)<32<;>by_cases k:(((s.getD i 0).toNat:Nat):Int) > 126<;>simp [m,k]<;>(intros;omega)
 . simp only [b9_.turn3,b9_.step3,co_,cond_false,ae_]
theorem g3_ {s:Bs} (hs:s.length<=cf_):Ev (fun n _=>aA_ n s) (jo_ s):=by
 refine am_ ?_;simp only [aA_];refine e8_ (fun n N i=>aA_.loop3 n (fun B1=>(some (decide ((B1.length:Int)<=60)))) N s (s.length:Int) (i:Int)) _ (fun i w hi ih => ?_) ?_
 . simp only [aA_.turn3,aA_.step3,Int.toNat_natCast,al_,bc_,gI_,sH_,ae_,W_up hi hs,dK_ ih,cE_ hi,ch_ hi]
   clear ih
   grind
 . simp only [aA_.turn3,aA_.step3,co_,cond_false,ae_]
def lenNs (c:Nat) (l:List Bs):Prop:=l.length<=c/\∀ x ∈ l,x.length<=c
theorem jW_ {c:Nat} {l:List Bs} (h:lenNs c l) (i:Nat):(l.getD i []).length<=c:=by
 by_cases hi:i<l.length
 . exact h.2 _ (b2_ [] hi)
 . rw [List.getD_eq_getElem?_getD,List.getElem?_eq_none (by omega)];exact Nat.zero_le _
def lb_ (l:List Bs):Bool:=iO_ (fun i=>jo_ (l.getD i [])&&(decide (i=0)||Op.bytesLess (l.getD (i - 1) []) (l.getD i []))) l.length
theorem mB_ {l:List Bs} (h:lenNs cf_ l):Ev (fun n _=>au_ n l) (lb_ l):=by
 refine am_ ?_;simp only [au_];refine gj_ (e8_ (fun n N i=>au_.loop3 n (some true) N l l (l.length:Int) (i:Int)) (fun i=>jo_ (l.getD i [])&&(decide (i=0)||Op.bytesLess (l.getD (i - 1) []) (l.getD i []))) (len:=l.length) (v:=true) (fun i w hi ih => ?_) ?_) (by rw [Bool.and_true];rfl)
 . simp only [au_.turn3,au_.step3,Int.toNat_natCast,W_up hi h.1,W_dn (i:=i) (by have:=h.1;omega),ls_,al_,bc_,ab_ (g3_ (jW_ h i)),ae_,dK_ ih,cE_ hi,ch_ hi]
   clear ih
   repeat' (first|apply And.intro|intro _)
   all_goals (try rw [Bool.eq_iff_iff])
   all_goals (try simp only [Bool.not_eq_true',Bool.not_eq_false',decide_eq_true_eq,decide_eq_false_iff_not,Bool.and_eq_true,Bool.or_eq_true,Bool.and_eq_false_iff,Bool.or_eq_false_iff] at *)
   all_goals grind
 . simp only [au_.turn3,au_.step3,co_,cond_false,ae_]
def rD_ (j:aa_):Bool:=cond (j.kind != 5) ((j.names.length:Int) == 0) (lb_ j.names&&((j.names.length:Int) == (j.list.length:Int)))
theorem lR_ {j:aa_} (h:lenNs cf_ j.names):Ev (fun n _=>ag_ n j) (rD_ j):=by
 refine am_ ?_;have hl:Ev (fun n _=>ag_.loop6 n (fun B2 B3 B4 B5 B6=>(some ((B6.length:Int) == (B5.length:Int)))) n 0 j.kind j.n_ j.s j.list j.names) (lb_ j.names&&((j.names.length:Int) == (j.list.length:Int))):=by
  refine e8_ (fun n N i=>ag_.loop6 n (fun B2 B3 B4 B5 B6=>(some ((B6.length:Int) == (B5.length:Int)))) N (i:Int) j.kind j.n_ j.s j.list j.names) _ (fun i w hi ih => ?_) ?_
  . simp only [ag_.turn6,ag_.step6,Int.toNat_natCast,W_up hi h.1,W_dn (i:=i) (by have:=h.1;omega),ls_,al_,bc_,ab_ (gW_ (jW_ h i)),ae_,dK_ ih,cE_ hi,ch_ hi]
    clear ih
    repeat' (first|apply And.intro|intro _)
    all_goals (try rw [Bool.eq_iff_iff])
    all_goals (try simp only [Bool.not_eq_true',Bool.not_eq_false',decide_eq_true_eq,decide_eq_false_iff_not,Bool.and_eq_true,Bool.or_eq_true,Bool.and_eq_false_iff,Bool.or_eq_false_iff] at *)
    all_goals grind
  . simp only [ag_.turn6,ag_.step6,co_,cond_false,ae_]
 simp only [ag_,al_,ae_,dK_ hl,rD_];cases (j.kind != 5)<;>simp
def bi (l:Bs):List Int:=l.map fun c=>((c.toNat:Nat):Int)
theorem kg_ (l:Bs):hS_ (bi l)=l:=by unfold hS_ bi;rw [List.map_map];refine (List.map_congr_left fun c _ => ?_).trans (List.map_id l);simp
theorem k9_ (l:Bs):(bi l).length=l.length:=List.length_map _
theorem bi_app (a b:Bs):bi (a++b)=bi a++bi b:=List.map_append
theorem k8_ (c:UInt8) (k:Nat) (d:UInt8) (hd:d.toNat=k):(((c.toNat:Nat):Int) == (k:Int))=decide (c=d):=by
 by_cases h:c=d
 . subst h;rw [hd];simp
 . rw [decide_eq_false h,beq_eq_false_iff_ne]
   intro e;exact h (UInt8.toNat_inj.1 (by omega))
theorem byte34 (c:UInt8):(((c.toNat:Nat):Int) == 34)=decide (c=34):=k8_ c 34 34 rfl
theorem byte92 (c:UInt8):(((c.toNat:Nat):Int) == 92)=decide (c=92):=k8_ c 92 92 rfl
theorem byte126 (c:UInt8):(((c.toNat:Nat):Int) == 126)=decide (c=126):=k8_ c 126 126 rfl
theorem byte47 (c:UInt8):(((c.toNat:Nat):Int) == 47)=decide (c=47):=k8_ c 47 47 rfl
theorem gi_ (f:UInt8->Bs) (h:∀ c,(f c).length<=2):∀ s:Bs,(s.flatMap f).length<=2*s.length
 |[]=>Nat.le_refl _
 |c::s=>by have:=gi_ f h s;have:=h c;simp only [List.flatMap_cons,List.length_append,List.length_cons];omega
theorem qj_ (f:UInt8->Bs) {s:Bs} {i:Nat} (h:i<s.length):(s.take (i+1)).flatMap f=(s.take i).flatMap f++f (s.getD i 0):=by rw [cH_ 0 h,List.flatMap_append];simp
def fT_ (c:UInt8):Bs:=if c=34\/c=92 then [92,c] else [c]
theorem jJ_ (c:UInt8):(fT_ c).length<=2:=by unfold fT_;split<;>simp
def dr_ (s:Bs):Bs:=34::s.flatMap fT_++[34]
theorem gp_ (s:Bs):(dr_ s).length<=2*s.length+2:=by have:=gi_ fT_ jJ_ s;simp only [dr_,List.cons_append,List.length_cons,List.length_append,List.length_nil];omega
theorem q2 (o:Bs) (c:UInt8):bi (34::(o++[92,c]))=(bi (34::o)++[92])++[((c.toNat:Nat):Int)]:=by simp [bi]
theorem q1 (o:Bs) (c:UInt8):bi (34::(o++[c]))=bi (34::o)++[((c.toNat:Nat):Int)]:=by simp [bi]
theorem qEnd (o:Bs):hS_ (bi (34::o)++[34])=34::o++[34]:=by
 have:bi (34::o)++[34]=bi (34::o++[34]):=by simp [bi]
 rw [this,kg_]
theorem hW_ {s:Bs} (hs:s.length<=1000000):Ev (fun n _=>bz_ n s) (dr_ s):=by
 refine am_ ?_;have ht:s.length<=cf_:=by simp only [cf_];omega
 simp only [bz_];have:=eO_ (fun i=>bi (34::(s.take i).flatMap fT_)) s.length (fun n N i (o:List Int)=>bz_.loop4 n (fun B1=>(bk_ (B1.length+([34]:List Int).length) 1 (some (hS_ (B1++([34]:List Int)))))) N s (i:Int) o) (dr_ s) (fun i hi F k => ?_) ?_
 . exact this
 . have hl:=gi_ fT_ jJ_ (s.take i)
   rw [List.length_take] at hl;rw [qj_ fT_ hi] at k;generalize (s.take i).flatMap fT_=o at k hl ⊢;have hb:=k9_ (34::o);simp only [List.length_cons] at hb;simp only [bz_.turn4,bz_.step4,Int.toNat_natCast,W_up hi ht,al_,bc_,ba_,cE_ hi,ch_ hi,byte34,byte92];generalize s.getD i 0=c at k ⊢;unfold fT_ at k;by_cases p:c=34
   . rw [if_pos (.inl p),q2] at k
     simp only [p,decide_true] at k ⊢
     repeat' (first|apply And.intro|intro _)
     all_goals (first|contradiction|exact k|trivial|(simp [hb];omega))
   . by_cases m:c=92
     . rw [if_pos (.inr m),q2] at k
       simp only [m,decide_true] at k ⊢
       repeat' (first|apply And.intro|intro _)
       all_goals (first|contradiction|exact k|trivial|(simp [hb];omega))
     . rw [if_neg (fun h=>h.elim p m),q1] at k
       simp only [p,m,decide_false] at k ⊢
       repeat' (first|apply And.intro|intro _)
       all_goals (first|contradiction|exact k|trivial|(simp [hb];omega))
 . have hl:=gi_ fT_ jJ_ s
   have hb:=k9_ (34::s.flatMap fT_);simp only [List.length_cons] at hb;simp only [bz_.turn4,bz_.step4,co_,cond_false,ba_,List.take_length,ae_,qEnd];exact ⟨by simp only [hb,List.length_cons,List.length_nil];omega,rfl⟩
theorem iY_ {s:Bs} (hs:s.length<=1000000):Ev (fun n _=>b1_ n s) (dr_ s):=by
 refine am_ ?_;have ht:s.length<=cf_:=by simp only [cf_];omega
 simp only [b1_];have:=eO_ (fun i=>bi (34::(s.take i).flatMap fT_)) s.length (fun n N i (o:List Int)=>b1_.loop4 n (fun B1=>(bk_ (B1.length+([34]:List Int).length) 1 (some (hS_ (B1++([34]:List Int)))))) N s (s.length:Int) (i:Int) o) (dr_ s) (fun i hi F k => ?_) ?_
 . exact this
 . have hl:=gi_ fT_ jJ_ (s.take i)
   rw [List.length_take] at hl;rw [qj_ fT_ hi] at k;generalize (s.take i).flatMap fT_=o at k hl ⊢;have hb:=k9_ (34::o);simp only [List.length_cons] at hb;simp only [b1_.turn4,b1_.step4,Int.toNat_natCast,W_up hi ht,al_,bc_,ba_,cE_ hi,ch_ hi,byte34,byte92];generalize s.getD i 0=c at k ⊢;unfold fT_ at k;by_cases p:c=34
   . rw [if_pos (.inl p),q2] at k
     simp only [p,decide_true] at k ⊢
     repeat' (first|apply And.intro|intro _)
     all_goals (first|contradiction|exact k|trivial|(simp [hb];omega))
   . by_cases m:c=92
     . rw [if_pos (.inr m),q2] at k
       simp only [m,decide_true] at k ⊢
       repeat' (first|apply And.intro|intro _)
       all_goals (first|contradiction|exact k|trivial|(simp [hb];omega))
     . rw [if_neg (fun h=>h.elim p m),q1] at k
       simp only [p,m,decide_false] at k ⊢
       repeat' (first|apply And.intro|intro _)
       all_goals (first|contradiction|exact k|trivial|(simp [hb];omega))
 . have hl:=gi_ fT_ jJ_ s
   have hb:=k9_ (34::s.flatMap fT_);simp only [List.length_cons] at hb;simp only [b1_.turn4,b1_.step4,co_,cond_false,ba_,List.take_length,ae_,qEnd];exact ⟨by simp only [hb,List.length_cons,List.length_nil];omega,rfl⟩
theorem gn_ (a b:UInt8) (l:Bs):Lib.index (b::l) [a]=if a=b then 0 else if Lib.index l [a] = -1 then -1 else Lib.index l [a]+1:=by
 rw [Lib.index];have:List.isPrefixOf [a] (b::l)=decide (a=b):=by simp only [List.isPrefixOf,Bool.and_true];exact Bool.eq_iff_iff.2 (by simp)
 rw [this];by_cases h:a=b
 . rw [decide_eq_true h,if_pos rfl,if_pos h]
 . rw [decide_eq_false h,if_neg (by simp),if_neg h]
   by_cases k:Lib.index l [a] = -1
   . rw [k,if_pos rfl,if_pos (by decide)]
   . rw [if_neg k,if_neg (by simpa using k)]
theorem qY_ {a b:UInt8} (h:a≠b) (new l:Bs):∀ k,Lib.replaceK [a] new k (b::l)=b::Lib.replaceK [a] new k l
 |0=>rfl
 |k+1=>by
  rw [Lib.replaceK,Lib.replaceK,gn_,if_neg h];by_cases m:Lib.index l [a] = -1
  . rw [if_pos m,if_pos (by decide),m,if_pos (by decide)]
  . have:=Lib.index_ge l [a]
    obtain ⟨i,hi⟩:∃ i:Nat,Lib.index l [a]=i:=⟨(Lib.index l [a]).toNat,by omega⟩
    rw [if_neg m,if_neg (by rw [hi];simp<;>omega),if_neg (by rw [hi];simp<;>omega),hi,show ((i:Int)+1).toNat=i+1 by omega,show ((i:Int)).toNat=i by omega];rfl
theorem qZ_ (a:UInt8) (new l:Bs) (k:Nat):Lib.replaceK [a] new (k+1) (a::l)=new++Lib.replaceK [a] new k l:=by rw [Lib.replaceK,gn_,if_pos rfl,if_neg (by decide)];rfl
theorem h6_ (a:UInt8) (new:Bs):∀ (s:Bs) (k:Nat),s.count a<=k->Lib.replaceK [a] new k s=s.flatMap fun c=>if c=a then new else [c]
 |[],0,_=>rfl
 |[],k+1,_=>by rw [Lib.replaceK];have:Lib.index [] [a] = -1:=rfl;rw [this,if_pos (by decide)];rfl
 |b::l,k,h=>by
  by_cases e:b=a
  . subst e
    rw [List.count_cons_self] at h;obtain ⟨k,rfl⟩:∃ m,k=m+1:=⟨k - 1,by omega⟩
    rw [qZ_,h6_ b new l k (by omega),List.flatMap_cons,if_pos rfl]
  . rw [List.count_cons_of_ne e] at h
    rw [qY_ (fun h=>e h.symm),h6_ a new l k h,List.flatMap_cons,if_neg e];rfl
theorem hy_ (a:UInt8):∀ (s:Bs) (f:Nat),s.length<f->Lib.countFrom [a] f s=s.count a
 |[],f+1,_=>by rw [Lib.countFrom];have:Lib.index [] [a] = -1:=rfl;rw [this,if_pos (by decide)];rfl
 |b::l,f+1,h=>by
  have hl:l.length<f:=by simpa using h
  by_cases e:a=b
  . subst e
    rw [List.count_cons_self,Lib.countFrom,gn_,if_pos rfl,if_neg (by decide)];show 1+Lib.countFrom [a] f l=_;rw [hy_ a l f hl];omega
  . rw [List.count_cons_of_ne (fun h=>e h.symm),<-hy_ a l (f+1) (by omega),Lib.countFrom,Lib.countFrom,gn_,if_neg e]
    by_cases k:Lib.index l [a] = -1
    . rw [if_pos k,if_pos (by decide),k,if_pos (by decide)]
    . have:=Lib.index_ge l [a]
      obtain ⟨i,hi⟩:∃ i:Nat,Lib.index l [a]=i:=⟨(Lib.index l [a]).toNat,by omega⟩
      rw [if_neg k,if_neg (by rw [hi];simp<;>omega),if_neg (by rw [hi];simp<;>omega),hi,show ((i:Int)+1).toNat=i+1 by omega,show ((i:Int)).toNat=i by omega];rfl
theorem mQ_ (a:UInt8) (s:Bs):Lib.count s [a]=s.count a:=hy_ a s _ (Nat.lt_succ_self _)
theorem nj_ (a:UInt8) (new s:Bs) (k:([a] == new)=false):Lib.replaceAll s [a] new=s.flatMap fun c=>if c=a then new else [c]:=by unfold Lib.replaceAll Lib.replace Lib.replaceNum;rw [k,if_neg (by simp),if_pos (.inl (by decide)),mQ_];exact h6_ a new s _ (Nat.le_refl _)
theorem j5_ {a b c:UInt8} {s:Bs} (hs:s.length<=1000000) (k:([a] == [b,c])=false):Ev (fun n _=>strings_ReplaceAll n s [a] [b,c]) (s.flatMap fun x=>if x=a then [b,c] else [x]):=by refine am_ ?_;have:=List.count_le_length (a:=a) (l:=s);simp only [strings_ReplaceAll,gt_,mQ_,nj_ a [b,c] s k,al_,ae_,dI_];refine ⟨fun _=>trivial,fun h => ?_⟩;have e1:decide (s.length<4294967281)=true:=decide_eq_true (by omega);have e2:decide (1<=[a].length)=true:=rfl;have e3:decide (s.length+List.count a s*[b,c].length<=140737488355328)=true:=decide_eq_true (by simp only [List.length_cons,List.length_nil];omega);rw [e1,e2,e3] at h;cases h
def gG_ (c:UInt8):Bs:=if c=126 then [126,48] else if c=47 then [126,49] else [c]
theorem rK_ (c:UInt8):(gG_ c).length<=2:=by
 unfold gG_;split
 . simp
 . split<;>simp
theorem wesc_two (s:Bs):((s.flatMap fun x=>if x=126 then [126,48] else [x]).flatMap fun x=>if x=47 then [126,49] else [x])=s.flatMap gG_:=by
 induction s with
 |nil=>rfl
 |cons c s ih=>
  rw [List.flatMap_cons,List.flatMap_append,ih,List.flatMap_cons]
  congr 1
  unfold gG_;by_cases m:c=126
  . subst m;rfl
  . by_cases k:c=47
    . subst k;rfl
    . rw [if_neg m,if_neg m,if_neg k];simp [k]
def FWay (w:List Bs):Bs:=w.flatMap fun s=>47::s.flatMap gG_
theorem rL_ {w:List Bs} {i:Nat} (h:i<w.length):FWay (w.take (i+1))=FWay (w.take i)++(47::(w.getD i []).flatMap gG_):=by unfold FWay;rw [cH_ [] h,List.flatMap_append];simp
theorem pf_ {w:List Bs} {c:Nat} (h:∀ s ∈ w,s.length<=c):(FWay w).length<=w.length*(2*c+1):=by
 induction w with
 |nil=>exact Nat.zero_le _
 |cons s w ih=>
  have p:=gi_ gG_ rK_ s;have m:=h s (List.mem_cons_self ..);have k:=ih fun x hx=>h x (List.mem_cons_of_mem _ hx);have e:FWay (s::w)=(47::s.flatMap gG_)++FWay w:=rfl;rw [e,List.length_append,List.length_cons,List.length_cons,Nat.add_mul];omega
theorem rQ_ {w:List Bs} {c:Nat} (h:∀ s ∈ w,s.length<=c) (i:Nat):∀ s ∈ w.take i,s.length<=c:=fun s hs=>h s (List.mem_of_mem_take hs)
theorem ie_ {w:List Bs} (u:w.length<=6) (hs:∀ s ∈ w,s.length<=60):Ev (fun n _=>bW_ n w) (FWay w):=by
 refine am_ ?_;have ht:w.length<=cf_:=by simp only [cf_];omega
 simp only [bW_];have:=eO_ (fun i=>FWay (w.take i)) w.length (fun n N i (o:Bs)=>bW_.loop4 n (fun B3=>(some B3)) N o w (w.length:Int) (i:Int)) (FWay w) (fun i hi F k => ?_) ?_
 . exact this
 . have I:=hs _ (b2_ [] hi)
   have p:=gi_ gG_ rK_ (w.getD i []);have m:=pf_ (rQ_ hs i);rw [List.length_take] at m;rw [rL_ hi] at k;have r1:=j5_ (a:=126) (b:=126) (c:=48) (s:=w.getD i []) (by omega) (by decide);have z:=gi_ (fun x=>if x=126 then [126,48] else [x]) (fun c=>by split<;>simp) (w.getD i []);have r2:=j5_ (a:=47) (b:=126) (c:=49) (s:=(w.getD i []).flatMap fun x=>if x=126 then [126,48] else [x]) (by omega) (by decide);rw [wesc_two] at r2;generalize FWay (w.take i)=o at k m ⊢;simp only [bW_.turn4,bW_.step4,Int.toNat_natCast,W_up hi ht,al_,bc_,dI_,cE_ hi,ch_ hi,ab_ r1,ab_ r2];generalize (w.getD i []).flatMap gG_=e at k p ⊢;have e2:([47]:Bs)++e=47::e:=rfl;rw [e2];refine ⟨fun _=>⟨trivial,fun _=>⟨fun _=>k,fun h => ?_⟩,fun h => ?_⟩,fun h=>(by cases h)⟩
   . have h:=of_decide_eq_false h
     simp only [List.length_cons] at h;omega
   . have h:=of_decide_eq_false h
     simp only [List.length_cons,List.length_nil] at h;omega
 . simp only [bW_.turn4,bW_.step4,co_,cond_false,List.take_length,ae_]
theorem jR_ {α:Type} {i len:Nat} {x:Option α} (h:i<len):inB (i:Int) len x=x:=by unfold inB;rw [decide_eq_true (by omega),decide_eq_true (by omega)];rfl
theorem jH_ {α:Type} {n b:Nat} {x:Option α} (h:n*b<=140737488355328):bk_ n b x=x:=by unfold bk_;rw [decide_eq_true h];rfl
theorem o3_ {α:Type} {f g:Nat->Nat->Option α} {v:α} (M:Nat) (h:∀ n N,M<=n->f n N=g n N) (k:Ev g v):Ev f v:=by obtain ⟨M',hM⟩:=k;exact ⟨max M M',fun n N p m=>by rw [h n N (by omega)];exact hM n N (by omega) (by omega)⟩
theorem pq_ (n:Nat) (k2:List Bs->Int->List Int->Option Bs) {w:List Bs} {i:Nat} (hi:i<w.length) (hl:(w.getD i []).length<=1000000):∀ (d j m:Nat) (o:List Int),j+d=(w.getD i []).length->d<m->o.length+2*d<=100000000 ->
  aF_.loop10 n k2 m w (i:Int) (j:Int) o=k2 w (i:Int) (o++bi (((w.getD i []).drop j).flatMap gG_))
 |0,j,m+1,o,hj,_,_=>by
  have e:(j:Int)=((w.getD i []).length:Int):=by omega
  have e2:(w.getD i []).drop j=[]:=List.drop_eq_nil_of_le (by omega);rw [aF_.turn10,aF_.step10,Int.toNat_natCast,jR_ hi,e,co_,e2];simp [bi]
 |d+1,j,m+1,o,hj,hm,ho=>by
  have k:j<(w.getD i []).length:=by omega
  have ih:=fun o=>pq_ n k2 hi hl d (j+1) m o (by omega) (by omega);have e1:(w.getD i []).drop j=(w.getD i []).getD j 0::(w.getD i []).drop (j+1):=ds_ 0 k;rw [aF_.turn10,aF_.step10,Int.toNat_natCast,Int.toNat_natCast,jR_ hi,jR_ hi,jR_ hi,jR_ k,jR_ k,cE_ k,W_up k (show (w.getD i []).length<=cf_ by simp only [cf_];omega),byte126,byte47,e1,List.flatMap_cons,bi_app,<-List.append_assoc];generalize (w.getD i []).getD j 0=c;rw [jH_ (by simp;omega),jH_ (by simp;omega),jH_ (by simp;omega)];unfold gG_;by_cases p:c=126
  . rw [decide_eq_true p,if_pos p]
    exact ih _ (by simp;omega)
  . by_cases u:c=47
    . rw [decide_eq_false p,decide_eq_true u,if_neg p,if_pos u]
      exact ih _ (by simp;omega)
    . rw [decide_eq_false p,decide_eq_false u,if_neg p,if_neg u]
      exact ih _ (by simp;omega)
theorem lS_ {w:List Bs} (p:w.length<=6) (hs:∀ s ∈ w,s.length<=60):Ev (fun n _=>aF_ n w) (FWay w):=by
 refine am_ ?_;have ht:w.length<=cf_:=by simp only [cf_];omega
 simp only [aF_];have:=eO_ (fun i=>bi (FWay (w.take i))) w.length (fun n N i (o:List Int)=>aF_.loop4 n (fun B4=>(some (hS_ B4))) N w (i:Int) o) (FWay w) (fun i hi F k => ?_) ?_
 . exact this
 . have z:=hs _ (b2_ [] hi)
   have m:=pf_ (rQ_ hs i);rw [List.length_take] at m;rw [rL_ hi] at k;generalize FWay (w.take i)=o at k m ⊢;have hb:=k9_ o;simp only [aF_.turn4,aF_.step4,cE_ hi,cond_true,ba_];refine ⟨by simp [hb];omega,o3_ 61 (fun n N u=>pq_ n _ hi (by omega) (w.getD i []).length 0 n _ (by omega) (by omega) (by simp only [hb,List.length_append,List.length_cons,List.length_nil];omega)) ?_⟩;simp only [W_up hi ht,List.drop_zero];have e:bi (o++47::(w.getD i []).flatMap gG_)=bi o++([47]:List Int)++bi ((w.getD i []).flatMap gG_):=by simp [bi]
   rw [e] at k;exact k
 . simp only [aF_.turn4,aF_.step4,co_,cond_false,List.take_length,ae_,kg_]
theorem my_ (k:Int):k=0\/k=1\/k=2\/k=3\/k=4\/k=5\/(k≠0/\k≠1/\k≠2/\k≠3/\k≠4/\k≠5):=by omega
theorem oL_ {α:Type} (l:List α):decide (l.length=0) = !decide ((l.length:Int) > 0):=by
 by_cases hz:l.length=0
 . rw [hz];rfl
 . rw [decide_eq_false hz,decide_eq_true (show (l.length:Int) > 0 by omega)];rfl
def FOwnK (j:aa_):Bool :=
 cond (j.kind == 1) (inn j.n_ 0 1) (cond (j.kind == 2) (inn j.n_ (-1000000000) 1000000000) (cond (j.kind == 3) (jo_ j.s) (cond (j.kind == 5) (((j.names.length:Int) == (j.list.length:Int))&&lb_ j.names) ((j.kind == 0)||(j.kind == 4)))))
def FOwn (j:aa_):Bool :=
 (decide (j.list.length=0)||((j.kind == 4)||(j.kind == 5)))&&((decide (j.names.length=0)||(j.kind == 5))&&(((j.n_ == 0)||((j.kind == 1)||(j.kind == 2)))&&(((j.s == [])||(j.kind == 3))&&FOwnK j)))
def lenJ1 (j:aa_):Prop:=j.s.length<=cf_/\lenNs cf_ j.names
theorem oW_ {j:aa_} (h:lenJ1 j):Ev (fun n _=>e0_ n j) (FOwn j):=by
 refine am_ ?_;simp only [e0_,al_,gI_,isNum_b,ab_ (g3_ h.1),ab_ (mB_ h.2),ae_];unfold FOwn FOwnK;have e1:=oL_ j.list;have e2:=oL_ j.names;rw [e1,e2];generalize decide ((j.list.length:Int) > 0)=a;generalize decide ((j.names.length:Int) > 0)=b;generalize (j.s == [])=c;have e3:(j.n_ != 0) = !(j.n_ == 0):=rfl;rw [e3];generalize hd:(j.n_ == 0)=d;generalize jo_ j.s=ft;generalize lb_ j.names=fn;generalize ((j.names.length:Int) == (j.list.length:Int))=eq;rcases my_ j.kind with k|k|k|k|k|k|⟨k0,k1,k2,k3,k4,k5⟩
 all_goals (first|simp only [k]|simp only [beq_eq_false_iff_ne.2 k0,beq_eq_false_iff_ne.2 k1,beq_eq_false_iff_ne.2 k2,beq_eq_false_iff_ne.2 k3,beq_eq_false_iff_ne.2 k4,beq_eq_false_iff_ne.2 k5,bne])
 all_goals (cases a<;>cases b<;>cases c<;>cases d<;>simp)
 all_goals (cases eq<;>simp)
def bI_:Nat->aa_->Nat
 |0,_=>401
 |d+1,j=>cond (FOwn j) (min 401 (1+eF_ (bI_ d) j.list)) 401
theorem FSize_le:∀ (d:Nat) (j:aa_),bI_ d j<=401
 |0,_=>Nat.le_refl _
 |d+1,j=>by simp only [bI_];cases FOwn j<;>simp only [cond_true,cond_false]<;>omega
def fx_:Nat->aa_->Prop
 |0,_=>True
 |d+1,j=>lenJ1 j/\j.list.length<=cf_/\∀ x ∈ j.list,fx_ d x
theorem getD_json {d:Nat} {l:List aa_} (h:∀ x ∈ l,fx_ d x) {i:Nat} (hi:i<l.length):fx_ d (l.getD i aa_.dflt):=h _ (b2_ _ hi)
theorem iX_:∀ (d:Nat) (j:aa_),d<=1000->fx_ d j->Ev (fun n _=>bM_ n j (d:Int)) (bI_ d j:Int)
 |0,j,_,_=>by refine am_ ?_;simp only [bM_,al_,ae_];exact ⟨fun _=>rfl,fun h=>by simp at h⟩
 |d+1,j,hd,h=>by
  refine am_ ?_;have J:W (((d+1:Nat):Int) - 1)=(d:Int):=by rw [W_id (by omega) (by omega)];omega
  simp only [bM_,aY_,al_,ab_ (oW_ h.1),ae_,bI_];refine ⟨fun hc=>by have:=of_decide_eq_true hc;omega,fun _ => ?_⟩;cases O:FOwn j with
  |false=>exact ⟨fun _=>rfl,fun h=>by cases h⟩
  |true=>
   refine ⟨fun h=>(by cases h),fun _ => ?_⟩;have ht:=h.2.1;have p:∀ (k i s:Nat),k+i=j.list.length->s<=400->Ev (fun n N=>bM_.loop7 n (bM_ n) (fun B3=>some B3) N ((d+1:Nat):Int) (s:Int) j.list (j.list.length:Int) (i:Int)) ((min 401 (s+eF_ (bI_ d) (j.list.drop i)):Nat):Int):=by
    intro k;induction k with
    |zero=>
     intro i s hi hs;have:i=j.list.length:=by omega
     subst this;refine a8_ ?_;simp only [bM_.turn7,bM_.step7,co_,cond_false,ae_,List.drop_length,eF_];omega
    |succ k ih=>
     intro i s hi hs;have m:i<j.list.length:=by omega
     refine a8_ ?_;have hc:=iX_ d (j.list.getD i aa_.dflt) (by omega) (getD_json h.2.2 m);have I:=FSize_le d (j.list.getD i aa_.dflt);have z:W ((s:Int)+(bI_ d (j.list.getD i aa_.dflt):Int))=((s+bI_ d (j.list.getD i aa_.dflt):Nat):Int):=by rw [W_id (by omega) (by omega)];omega
     simp only [bM_.turn7,bM_.step7,aY_,Int.toNat_natCast,J,W_up m ht,al_,bc_,cE_ m,ch_ m,ab_ hc,z,ae_];rw [jy_ (bI_ d) aa_.dflt m];refine ⟨fun _=>⟨trivial,fun u => ?_,fun u => ?_⟩,fun h=>(by cases h)⟩
     . have:=of_decide_eq_true u;omega
     . have:=of_decide_eq_false u
       rw [show s+(bI_ d (j.list.getD i aa_.dflt)+eF_ (bI_ d) (j.list.drop (i+1)))=(s+bI_ d (j.list.getD i aa_.dflt))+eF_ (bI_ d) (j.list.drop (i+1)) by omega];exact ih (i+1) _ (by omega) (by omega)
   have:=p j.list.length 0 1 (by omega) (by omega);rw [List.drop_zero] at this;exact cX_ (f:=fun n N=>bM_.loop7 n (bM_ n) (fun B3=>some B3) N ((d+1:Nat):Int) 1 j.list (j.list.length:Int) 0) this
def cM_ (j:aa_):Bool:=decide (bI_ 6 j<=400)
theorem eK_ {j:aa_} (h:fx_ 6 j):Ev (fun n _=>db_ n j) (cM_ j):=by
 refine am_ ?_;have e:Ev (fun n _=>bM_ n j 6) (bI_ 6 j:Int):=iX_ 6 j (by omega) h;simp only [db_,aY_,ab_ e,ae_,cM_];by_cases hq:bI_ 6 j<=400
 . rw [decide_eq_true hq,decide_eq_true (by omega)]
 . rw [decide_eq_false hq,decide_eq_false (by omega)]
def Great (d:Nat) (j:aa_):Prop:=∃ v:Nat,v<=401+401*d/\min 401 v=bI_ d j/\Ev (fun n _=>aS_ n j (d:Int)) (v:Int)
theorem tj_ {d:Nat} {l:List aa_} (hd:d<=1000) (ht:l.length<=cf_) (ih:∀ x ∈ l,Great d x) (kd nn:Int) (s:Bs) (ns:List Bs) :
  ∃ w:Nat,w<=401+401*(d+1)/\min 401 w=min 401 (1+eF_ (bI_ d) l)/\∀ (K:Nat->aS_.K23_1) (F:Int),Ev (fun n N=>K n 401 (w:Int) kd nn s l ns) F->Ev (fun n _=>aS_.loop23 n (aS_ n) (K n) n ((d+1:Nat):Int) 401 1 0 kd nn s l ns) F:=by
 have U:W (((d+1:Nat):Int) - 1)=(d:Int):=by rw [W_id (by omega) (by omega)];omega
 have z:∀ (k i m:Nat),k+i=l.length->m<=401+401*(d+1)->∃ w:Nat,w<=401+401*(d+1)/\min 401 w=min 401 (m+eF_ (bI_ d) (l.drop i))/\∀ (K:Nat->aS_.K23_1) (F:Int),Ev (fun n N=>K n 401 (w:Int) kd nn s l ns) F ->
   Ev (fun n N=>aS_.loop23 n (aS_ n) (K n) N ((d+1:Nat):Int) 401 (m:Int) (i:Int) kd nn s l ns) F:=by
  intro k;induction k with
  |zero=>
   intro i m hi O;have:i=l.length:=by omega
   subst this;refine ⟨m,O,by simp [eF_],fun K F u=>a8_ ?_⟩;simp only [aS_.turn23,aS_.step23,co_,cond_false];exact u
  |succ k ihk=>
   intro i m hi O;have p:i<l.length:=by omega
   by_cases V:m<=400
   . obtain ⟨v,T,J,I⟩:=ih _ (b2_ aa_.dflt p)
     have S:W ((m:Int)+(v:Int))=((m+v:Nat):Int):=by rw [W_id (by omega) (by omega)];omega
     obtain ⟨w,a1,a2,a3⟩:=ihk (i+1) (m+v) (by omega) (by omega);refine ⟨w,a1,?_,fun K F u=>a8_ ?_⟩
     . rw [a2,jy_ (bI_ d) aa_.dflt p,<-J];omega
     . simp only [aS_.turn23,aS_.step23,aY_,Int.toNat_natCast,U,W_up p ht,al_,bc_,cE_ p,ch_ p,ab_ I,S]
       exact ⟨fun _=>⟨fun _=>⟨trivial,a3 K F u⟩,fun h=>by have:=of_decide_eq_false h;omega⟩,fun h=>(by cases h)⟩
   . refine ⟨m,O,by omega,fun K F u=>a8_ ?_⟩
     simp only [aS_.turn23,aS_.step23,Int.toNat_natCast,al_,cE_ p];exact ⟨fun _=>⟨fun h=>by have:=of_decide_eq_true h;omega,fun _=>u⟩,fun h=>(by cases h)⟩
 obtain ⟨w,a1,a2,a3⟩:=z l.length 0 1 (by omega) (by omega);rw [List.drop_zero] at a2;exact ⟨w,a1,a2,fun K F u=>cX_ (f:=fun n N=>aS_.loop23 n (aS_ n) (K n) N ((d+1:Nat):Int) 401 1 0 kd nn s l ns) (a3 K F u)⟩
theorem ej_ (j:aa_):aa_.mk j.kind j.n_ j.s j.list j.names=j:=by cases j;rfl
theorem hX_:∀ (d:Nat) (j:aa_),d<=1000->fx_ d j->Great d j
 |0,j,_,_=>by refine ⟨401,by omega,rfl,am_ ?_⟩;simp only [aS_,al_,ae_];exact ⟨fun _=>rfl,fun h=>by simp at h⟩
 |d+1,j,hd,h=>by
  obtain ⟨w,w1,w2,w3⟩:=tj_ (d:=d) (l:=j.list) (by omega) h.2.1 (fun x hx=>hX_ d x (by omega) (h.2.2 x hx)) j.kind j.n_ j.s j.names;have hz:((((d+1:Nat):Int)) == 0)=false:=by simp;omega
  have m:=lR_ (j:=j) h.1.2;obtain ⟨v,I⟩:∃ v:Nat,v=cond (FOwn j) (cond ((j.kind == 4)||(j.kind == 5)) w 1) 401:=⟨_,rfl⟩
  refine ⟨v,?_,?_,am_ ?_⟩
  . rw [I];cases FOwn j<;>cases ((j.kind == 4)||(j.kind == 5))<;>simp only [cond_true,cond_false]<;>omega
  . rw [I]
    simp only [bI_];cases u:FOwn j with
    |false=>rfl
    |true=>
     cases k:((j.kind == 4)||(j.kind == 5)) with
     |true=>simp only [cond_true];exact w2
     |false=>
      have:j.list=[]:=by unfold FOwn at u;rw [k,Bool.or_false] at u;simp only [Bool.and_eq_true,decide_eq_true_eq] at u;exact List.eq_nil_of_length_eq_zero u.1
      rw [this];rfl
  . have z:=gW_ (s:=j.s) h.1.1
    have e1:=oL_ j.list;have e2:=oL_ j.names;have e4:((j.names.length:Int) == 0) = !decide ((j.names.length:Int) > 0):=by
     by_cases hz:j.names.length=0
     . rw [hz];rfl
     . rw [beq_eq_false_iff_ne.2 (show (j.names.length:Int)≠0 by omega),decide_eq_true (show (j.names.length:Int) > 0 by omega)];rfl
    subst I;unfold FOwn FOwnK;unfold rD_ at m;rw [e1,e2];rw [e4] at m;simp only [aS_,aY_,hz,cond_false,al_,fX_,ab_ z,ab_ m,ae_,bne];rcases my_ j.kind with k|k|k|k|k|k|⟨k0,k1,k2,k3,k4,k5⟩
    case inr.inr.inr.inr.inl=>
     have p:aa_.mk 4 j.n_ j.s j.list j.names=j:=by rw [<-k];exact ej_ j
     rw [k] at w3;simp only [k,Int.reduceBEq,Int.reduceLT,Int.reduceLE,Int.reduceNeg,ge_iff_le,gt_iff_lt,decide_true,decide_false,Bool.not_false,Bool.not_true,Bool.or_true,Bool.true_or,Bool.or_false,Bool.false_or,Bool.and_true,Bool.true_and,Bool.not_not,forall_const,reduceCtorEq,false_implies,true_and,and_true,implies_true,cond_true,cond_false] at m ⊢;refine w3 _ _ ?_;simp only [p,al_,ab_ m,ae_,Int.reduceBEq,Int.reduceLT,Int.reduceLE,Int.reduceNeg,ge_iff_le,gt_iff_lt,decide_true,decide_false,Bool.not_false,Bool.not_true,Bool.or_true,Bool.true_or,Bool.or_false,Bool.false_or,Bool.and_true,Bool.true_and,Bool.not_not,forall_const,reduceCtorEq,false_implies,true_and,and_true,implies_true,cond_true,cond_false];clear m w3 z e1 e2 e4 p;generalize decide (0<(j.names.length:Int))=b;generalize (j.s == [])=c;generalize hd:(j.n_ == 0)=dd;cases b<;>cases c<;>cases dd<;>simp
    case inr.inr.inr.inr.inr.inl=>
     have p:aa_.mk 5 j.n_ j.s j.list j.names=j:=by rw [<-k];exact ej_ j
     rw [k] at w3;simp only [k,Int.reduceBEq,Int.reduceLT,Int.reduceLE,Int.reduceNeg,ge_iff_le,gt_iff_lt,decide_true,decide_false,Bool.not_false,Bool.not_true,Bool.or_true,Bool.true_or,Bool.or_false,Bool.false_or,Bool.and_true,Bool.true_and,Bool.not_not,forall_const,reduceCtorEq,false_implies,true_and,and_true,implies_true,cond_true,cond_false] at m ⊢;refine w3 _ _ ?_;simp only [p,al_,ab_ m,ae_,Int.reduceBEq,Int.reduceLT,Int.reduceLE,Int.reduceNeg,ge_iff_le,gt_iff_lt,decide_true,decide_false,Bool.not_false,Bool.not_true,Bool.or_true,Bool.true_or,Bool.or_false,Bool.false_or,Bool.and_true,Bool.true_and,Bool.not_not,forall_const,reduceCtorEq,false_implies,true_and,and_true,implies_true,cond_true,cond_false];clear m w3 z e1 e2 e4 p;generalize lb_ j.names=fn;generalize ((j.names.length:Int) == (j.list.length:Int))=eq;generalize (j.s == [])=c;generalize hd:(j.n_ == 0)=dd;cases fn<;>cases eq<;>cases c<;>cases dd<;>simp
    case inr.inr.inr.inr.inr.inr=>
     simp only [beq_eq_false_iff_ne.2 k0,beq_eq_false_iff_ne.2 k1,beq_eq_false_iff_ne.2 k2,beq_eq_false_iff_ne.2 k3,beq_eq_false_iff_ne.2 k4,beq_eq_false_iff_ne.2 k5,Int.reduceBEq,Int.reduceLT,Int.reduceLE,Int.reduceNeg,ge_iff_le,gt_iff_lt,decide_true,decide_false,Bool.not_false,Bool.not_true,Bool.or_true,Bool.true_or,Bool.or_false,Bool.false_or,Bool.and_true,Bool.true_and,Bool.not_not,forall_const,reduceCtorEq,false_implies,true_and,and_true,implies_true,cond_true,cond_false,Bool.and_false,Bool.false_and];rfl
    all_goals (
     simp only [k,Int.reduceBEq,Int.reduceLT,Int.reduceLE,Int.reduceNeg,ge_iff_le,gt_iff_lt,decide_true,decide_false,Bool.not_false,Bool.not_true,Bool.or_true,Bool.true_or,Bool.or_false,Bool.false_or,Bool.and_true,Bool.true_and,Bool.not_not,forall_const,reduceCtorEq,false_implies,true_and,and_true,implies_true,cond_true,cond_false];clear m w3 z e1 e2 e4;generalize decide (0<(j.names.length:Int))=b;generalize decide (0<(j.list.length:Int))=a;generalize (j.s == [])=c;generalize hd:(j.n_ == 0)=dd;generalize inn j.n_ 0 1=i1;generalize inn j.n_ (-1000000000) 1000000000=i2;generalize jo_ j.s=ft;cases a<;>cases b<;>cases c<;>cases dd<;>cases i1<;>cases i2<;>cases ft<;>simp)
theorem dD_ {j:aa_} (h:fx_ 6 j):Ev (fun n _=>cW_ n j) (cM_ j):=by
 refine am_ ?_;obtain ⟨v,v1,v2,v3⟩:=hX_ 6 j (by omega) h;have e:Ev (fun n _=>aS_ n j 6) (v:Int):=v3;simp only [cW_,aY_,ab_ e,ae_,cM_];by_cases hq:bI_ 6 j<=400
 . rw [decide_eq_true hq,decide_eq_true (by omega)]
 . rw [decide_eq_false hq,decide_eq_false (by omega)]
def digs (u:Nat):Bs:=if u=0 then [] else Lib.decDigits u
theorem digs_step {u:Nat} (h:u≠0):digs u=digs (u / 10)++[UInt8.ofNat (48+u % 10)]:=by
 unfold digs;rw [if_neg h,Lib.decDigits];by_cases k:u<10
 . rw [dif_pos k,if_pos (by omega),Nat.mod_eq_of_lt k];rfl
 . rw [dif_neg k,if_neg (by omega)]
theorem sA_ {d:Nat} (h:d<10):hS_ ([(IntKind.u8.wrap (W (48+(d:Int))))]:List Int)=[UInt8.ofNat (48+d)]:=by
 have e1:W (48+(d:Int))=((48+d:Nat):Int):=by rw [W_id (by omega) (by omega)];omega
 rw [e1];have e2:IntKind.u8.wrap (((48+d:Nat):Int))=((48+d:Nat):Int):=by
  have:d=0\/d=1\/d=2\/d=3\/d=4\/d=5\/d=6\/d=7\/d=8\/d=9:=by omega
  rcases this with rfl|rfl|rfl|rfl|rfl|rfl|rfl|rfl|rfl|rfl<;>rfl
 rw [e2];rfl
theorem c4_ {x:Int} (h0 : -9223372036854775808<=x) (h1:x<=9223372036854775807):Ev (fun n _=>aV_ n x) (Lib.itoa x):=by
 refine am_ ?_;simp only [aV_,al_,ae_];refine ⟨fun h => ?_,fun h => ?_⟩
 . have:x=0:=by simpa using h
   subst this;unfold Lib.itoa;rw [if_neg (by decide)];show _=Lib.decDigits 0;rw [Lib.decDigits_one (by decide)];rfl
 have Z:x≠0:=by simpa using h
 have O:∀ (k:Nat) (y:Int) (out:Bs),y.natAbs<10 ^ k -> -9223372036854775808<=y->y<=9223372036854775807->out.length+k<=100 ->
   Ev (fun n N=>aV_.loop7 n (fun B3 B4=>(cond B3 (cond (decide ([45].length+B4.length<=9223372036854775807)) (some (([45]:Bs)++B4)) none) (some B4))) N y (decide (x<0)) out) (cond (decide (x<0)) ([45]++(digs y.natAbs++out)) (digs y.natAbs++out)):=by
  intro k;induction k with
  |zero=>
   intro y out S _ _ ho;have:y=0:=by simp at S;omega
   subst this;refine a8_ ?_;simp only [aV_.turn7,aV_.step7,bne_self_eq_false,cond_false,al_,ae_,dI_];refine ⟨fun hb=>⟨fun _=>by rw [hb];rfl,fun hc=>by have:=of_decide_eq_false hc;simp at this;omega⟩,fun hb=>by rw [hb];rfl⟩
  |succ k ih=>
   intro y out S Y V ho;by_cases hz:y=0
   . subst hz
     refine a8_ ?_;simp only [aV_.turn7,aV_.step7,bne_self_eq_false,cond_false,al_,ae_,dI_];refine ⟨fun hb=>⟨fun _=>by rw [hb];rfl,fun hc=>by have:=of_decide_eq_false hc;simp at this;omega⟩,fun hb=>by rw [hb];rfl⟩
   . have hm:(Int.tmod y 10).natAbs=y.natAbs % 10:=by rw [Int.natAbs_tmod];rfl
     have hd:(Int.tdiv y 10).natAbs=y.natAbs / 10:=by rw [Int.natAbs_tdiv];rfl
     have hW:W (Int.tdiv y 10)=Int.tdiv y 10:=W_id (by omega) (by omega);have u:y.natAbs % 10<10:=Nat.mod_lt _ (by decide);have U:(Int.tdiv y 10).natAbs<10 ^ k:=by rw [hd];rw [Nat.pow_succ] at S;omega
     have p:=ih (Int.tdiv y 10) ([UInt8.ofNat (48+y.natAbs % 10)]++out) U (by omega) (by omega) (by simp;omega);have I:digs (Int.tdiv y 10).natAbs++([UInt8.ofNat (48+y.natAbs % 10)]++out)=digs y.natAbs++out:=by rw [hd,digs_step (show y.natAbs≠0 by omega),List.append_assoc]
     rw [I] at p;have T:(y != 0)=true:=by simpa using hz
     refine a8_ ?_;simp only [aV_.turn7,aV_.step7,T,cond_true,al_,dI_,hW];refine ⟨fun m => ?_,fun m => ?_⟩
     . have m:=of_decide_eq_true m
       have e:W (0 - Int.tmod y 10)=((y.natAbs % 10:Nat):Int):=by rw [W_id (by omega) (by omega)];omega
       rw [e,sA_ u];exact ⟨fun _=>p,fun hc=>by have:=of_decide_eq_false hc;simp at this;omega⟩
     . have m:=of_decide_eq_false m
       have e:Int.tmod y 10=((y.natAbs % 10:Nat):Int):=by omega
       rw [e,sA_ u];exact ⟨fun _=>p,fun hc=>by have:=of_decide_eq_false hc;simp at this;omega⟩
 have z:=O 19 x [] (by omega) h0 h1 (by simp);have hv:Lib.itoa x=cond (decide (x<0)) ([45]++(digs x.natAbs++[])) (digs x.natAbs++[]):=by
  unfold Lib.itoa digs;rw [if_neg (show x.natAbs≠0 by omega)];by_cases J:x<0
  . rw [if_pos J,decide_eq_true J];simp
  . rw [if_neg J,decide_eq_false J,cond_false,List.append_nil,show x.toNat=x.natAbs by omega]
 rw [hv];exact cX_ z
theorem Itoa_ev {x:Int} (m : -9223372036854775808<=x) (k:x<=9223372036854775807):Ev (fun n _=>strconv_Itoa n x) (Lib.itoa x) :=
 am_ (by simp only [strconv_Itoa,nItoa,al_,ae_,dI_];exact ⟨fun _=>trivial,fun h=>by simp at h;omega⟩)
end Go.Pi
