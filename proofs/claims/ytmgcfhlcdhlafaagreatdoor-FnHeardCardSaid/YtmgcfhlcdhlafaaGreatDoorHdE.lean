/- FnHeard: what is cut off of a drawn text leaves whoever listens with what came ahead of it: a version that was, never a later one. No condition. Text 5 of 8. -/
import Derived.Test.YtmgcfhlcdhlafaaGreatDoorHdD
import Derived.Shelf.RegionOpenPlain
import Derived.WalkKit
import Derived.Deep.RegionLaw
import Derived.Lib.Walk
import Derived.Lib.SliceRun
import Derived.Laws.CopyRow
import Derived.RowKit
import Derived.Lib.Overlaps
import Derived.Lib.AppendZerosOnto
import Derived.Laws.NewBlocks
import Derived.Laws.Externs
import Derived.Shelf.Strings.Search3
import Derived.Shelf.Strconv.AtoiAll
import Derived.Shelf.Strings.Search2
import Derived.Shelf.Strings.OnBuilder
import Derived.Shelf.Strings.Replace
import Derived.Shelf.Strings.Split
import Derived.ChangeArms
import Derived.DataReads
import Derived.ChangeOld
import Derived.Test.YtmgcfhlcdhlafaaGreatDoorRows
import Derived.ProofKit
import Derived.OpenShut
import Derived.JoinedOf
import Derived.JoinedAt
import Derived.ChangeVars
import Derived.ChangeMaps5
import Derived.Test.YtmgcfhlcdhlafaaGreatDoorTie
import Derived.Test.YtmgcfhlcdhlafaaGreatDoorCards
import Derived.IntWalk
set_option linter.unusedVariables false
set_option maxRecDepth 100000
set_option linter.unusedSimpArgs false
namespace Go.Pi
def am_.p (m:M):List Pat:=[.sl m .u8,.i .i64,.i .i64]
abbrev am_.c:Type:=(List Int)×Int×Int×Unit
def am_.of:am_.c->am_:=fun (x0,x1,x2,_)=>⟨x0,x1,x2⟩
def am_.to (s:am_):am_.c:=(s.b,s.i,s.h,())
abbrev a7_.c:Type:=(List Int)×Unit
def a7_.of:a7_.c->a7_:=fun (x0,_)=>⟨x0⟩
def a7_.to (s:a7_):a7_.c:=(s.cols,())
def TRow.p (m:M):List Pat:=[.i .i64,.sl m .int]
abbrev TRow.c:Type:=Int×(List Int)×Unit
def TRow.of:TRow.c->TRow:=fun (x0,x1,_)=>⟨x0,x1⟩
def TRow.to (s:TRow):TRow.c:=(s.id_,s.cells,())
def aA_.p (m:M):List Pat:=[.sl m .int,.i .i64,.sl m .s_iRow]
abbrev aA_.c:Type:=(List Int)×Int×(List (List TRow))×Unit
def aA_.of:aA_.c->aA_:=fun (x0,x1,x2,_)=>⟨⟨x0⟩,x1,x2⟩
def aA_.to (s:aA_):aA_.c:=(s.schema.cols,s.version,s.tables,())
def ci_.p (m:M):List Pat:=[.i .i64,.i .i64,.i .i64]
abbrev ci_.c:Type:=Int×Int×Int×Unit
def ci_.of:ci_.c->ci_:=fun (x0,x1,x2,_)=>⟨x0,x1,x2⟩
def ax_.p (m:M):List Pat:=[.i .i64,.sl m .iCond,.i .i64,.b,.i .i64,.sl m .int,.b,.i .i64,.i .i64]
abbrev ax_.c:Type:=Int×(List ci_)×Int×Bool×Int×(List Int)×Bool×Int×Int×Unit
def ax_.of:ax_.c->ax_:=fun (x0,x1,x2,x3,x4,x5,x6,x7,x8,_)=>⟨x0,x1,x2,x3,x4,x5,x6,x7,x8⟩
def ax_.to (s:ax_):ax_.c:=(s.table,s.where_,s.order,s.down,s.first,s.show_,s.kids,s.kidTable,s.kidCol,())
def TKid.p (m:M):List Pat:=[.i .i64,.i .i64]
def bF_.p (m:M):List Pat:=[.i .i64,.sl m .iCond,.i .i64,.b,.i .i64,.sl m .int,.b,.i .i64,.i .i64,.sl m .iRow,.sl m .iKid]
abbrev bF_.c:Type:=Int×(List ci_)×Int×Bool×Int×(List Int)×Bool×Int×Int×(List TRow)×(List TKid)×Unit
def bF_.of:bF_.c->bF_:=fun (x0,x1,x2,x3,x4,x5,x6,x7,x8,x9,x10,_)=>⟨⟨x0,x1,x2,x3,x4,x5,x6,x7,x8⟩,x9,x10⟩
def bF_.to (s:bF_):bF_.c:=(s.q.table,s.q.where_,s.q.order,s.q.down,s.q.first,s.q.show_,s.q.kids,s.q.kidTable,s.q.kidCol,s.rows,s.kids,())
def c1_.p (m:M):List Pat:=[.i .i64,.sl m .iCond,.i .i64,.b,.i .i64,.sl m .int,.b,.i .i64,.i .i64,.sl m .iRow,.sl m .iKid,.i .i64,.i .i64,.sl m .iCond,.i .i64,.b,.i .i64,.sl m .int,.b,.i .i64,.i .i64,.sl m .iRow,.sl m .iKid,.i .i64,.b]
abbrev c1_.c:Type:=Int×(List ci_)×Int×Bool×Int×(List Int)×Bool×Int×Int×(List TRow)×(List TKid)×Int×Int×(List ci_)×Int×Bool×Int×(List Int)×Bool×Int×Int×(List TRow)×(List TKid)×Int×Bool×Unit
def c1_.of:c1_.c->c1_:=fun (x0,x1,x2,x3,x4,x5,x6,x7,x8,x9,x10,x11,x12,x13,x14,x15,x16,x17,x18,x19,x20,x21,x22,x23,x24,_)=>⟨⟨⟨x0,x1,x2,x3,x4,x5,x6,x7,x8⟩,x9,x10⟩,x11,⟨⟨x12,x13,x14,x15,x16,x17,x18,x19,x20⟩,x21,x22⟩,x23,x24⟩
def c1_.to (s:c1_):c1_.c:=(s.view.q.table,s.view.q.where_,s.view.q.order,s.view.q.down,s.view.q.first,s.view.q.show_,s.view.q.kids,s.view.q.kidTable,s.view.q.kidCol,s.view.rows,s.view.kids,s.version,s.last.q.table,s.last.q.where_,s.last.q.order,s.last.q.down,s.last.q.first,s.last.q.show_,s.last.q.kids,s.last.q.kidTable,s.last.q.kidCol,s.last.rows,s.last.kids,s.lastVersion,s.began,())
def aa_.p (m:M):List Pat:=[.i .i64,.i .i64,.s,.sl m .iJson,.sl m .str]
abbrev aa_.c:Type:=Int×Int×Bs×(List aa_)×(List Bs)×Unit
def aa_.of:aa_.c->aa_:=fun (x0,x1,x2,x3,x4,_)=>⟨x0,x1,x2,x3,x4⟩
def aa_.to (s:aa_):aa_.c:=(s.kind,s.n_,s.s,s.list,s.names,())
def TOp.p (m:M):List Pat:=[.i .i64,.sl m .str,.i .i64,.i .i64,.s,.sl m .iJson,.sl m .str]
abbrev TOp.c:Type:=Int×(List Bs)×Int×Int×Bs×(List aa_)×(List Bs)×Unit
def TOp.of:TOp.c->TOp:=fun (x0,x1,x2,x3,x4,x5,x6,_)=>⟨x0,x1,⟨x2,x3,x4,x5,x6⟩⟩
def TOp.to (s:TOp):TOp.c:=(s.kind,s.way,s.value.kind,s.value.n_,s.value.s,s.value.list,s.value.names,())
def ar_.p (m:M):List Pat:=[.i .i64,.i .i64,.i .i64,.i .i64,.i .i64,.s,.sl m .iJson,.sl m .str,.sl m .iOp]
abbrev ar_.c:Type:=Int×Int×Int×Int×Int×Bs×(List aa_)×(List Bs)×(List TOp)×Unit
def ar_.of:ar_.c->ar_:=fun (x0,x1,x2,x3,x4,x5,x6,x7,x8,_)=>⟨x0,x1,x2,⟨x3,x4,x5,x6,x7⟩,x8⟩
def ar_.to (s:ar_):ar_.c:=(s.kind,s.version,s.base,s.doc.kind,s.doc.n_,s.doc.s,s.doc.list,s.doc.names,s.ops,())
def TMut.p (m:M):List Pat:=[.i .i64,.i .i64,.i .i64,.sl m .int]
abbrev TMut.c:Type:=Int×Int×Int×(List Int)×Unit
def TMut.of:TMut.c->TMut:=fun (x0,x1,x2,x3,_)=>⟨x0,x1,⟨x2,x3⟩⟩
def TMut.to (s:TMut):TMut.c:=(s.kind,s.table,s.row.id_,s.row.cells,())
def aX_.p (m:M):List Pat:=[.i .i64,.b,.b,.i .i64,.sl m .int,.i .i64,.sl m .int]
abbrev aX_.c:Type:=Int×Bool×Bool×Int×(List Int)×Int×(List Int)×Unit
def aX_.of:aX_.c->aX_:=fun (x0,x1,x2,x3,x4,x5,x6,_)=>⟨x0,x1,x2,⟨x3,x4⟩,⟨x5,x6⟩⟩
def aX_.to (s:aX_):aX_.c:=(s.table,s.had,s.has,s.old.id_,s.old.cells,s.new.id_,s.new.cells,())
def bf_.p (m:M):List Pat:=[.i .i64,.i .i64,.s,.sl m .iJson,.sl m .str,.i .i64,.b,.b]
abbrev bf_.c:Type:=Int×Int×Bs×(List aa_)×(List Bs)×Int×Bool×Bool×Unit
def bf_.of:bf_.c->bf_:=fun (x0,x1,x2,x3,x4,x5,x6,x7,_)=>⟨⟨x0,x1,x2,x3,x4⟩,x5,x6,x7⟩
def bf_.to (s:bf_):bf_.c:=(s.doc.kind,s.doc.n_,s.doc.s,s.doc.list,s.doc.names,s.version,s.began,s.bad,())
def aW_.p (m:M):List Pat:=[.s,.b]
abbrev aW_.c:Type:=Bs×Bool×Unit
def aW_.of:aW_.c->aW_:=fun (x0,x1,_)=>⟨x0,x1⟩
def aW_.to (s:aW_):aW_.c:=(s.wait,s.bad,())
abbrev bu_.c:Type:=Bs×Bool×Unit
def bu_.of:bu_.c->bu_:=fun (x0,x1,_)=>⟨x0,x1⟩
def bu_.to (s:bu_):bu_.c:=(s.text,s.bad,())
def be_.p (m:M):List Pat:=[.s,.i .i64,.b,.i .i64]
abbrev be_.c:Type:=Bs×Int×Bool×Int×Unit
def be_.of:be_.c->be_:=fun (x0,x1,x2,x3,_)=>⟨x0,x1,x2,x3⟩
def be_.to (s:be_):be_.c:=(s.s,s.at_,s.ok,s.left,())
def rd0:RD:=⟨Bool,[.b],fun (a0,_)=>a0,fun r=>(r,())⟩
def gG_.e:FE:=mkE rd0 8 6 1 [.sl .v .u8] [.tmp 2] [] [] [] (un1 gG_)
def od0:OD:=⟨[(0,.view .u8),(3,.k),(4,.k)],(am_.p .v),[.ext]⟩
def od1:OD:=⟨[(0,.view .u8),(3,.k)],[.sl .v .u8,.i .i64],[.ext]⟩
def rd1:RD:=⟨am_,[.bx (am_.p .v)],fun (a0,_)=>(am_.of a0),fun r=>(am_.to r,())⟩
def ce_.e:FE:=mkE rd1 37 32 1 [.sl .v .u8] [.tmp 2] [] [(4,od0)] [(0,od1)] (un1 ce_)
def rd2:RD:=⟨Int×am_,[.i .i64,.bx (am_.p .v)],fun (a0,a1,_)=>(a0,(am_.of a1)),fun (a0,a1)=>(a0,am_.to a1,())⟩
def dI_.e:FE:=mkE rd2 84 58 2 [.bx (am_.p .v)] [.tmp 2] [.pb 1 0] [] [] fun n (a0,_)=>dI_ n (am_.of a0)
def ap_.e:FE:=mkE rd2 39 37 2 [.bx (am_.p .v),.i .i64] [.tmp 4] [.pb 1 0] [] [] fun n (a0,a1,_)=>ap_ n (am_.of a0) a1
def od2:OD:=⟨[(0,.box [.view .u8,.k,.k]),(2,.box [.k]),(3,.box [.own .d .int]),(4,.k)],[.pb 1 0,.pb 2 0,.pb 3 0,.i .i64],[.ext,.box (am_.p .v),.box [.nils],.box [.rt 4],.arr .d .int 2]⟩
def od3:OD:=⟨[(2,.box [.k]),(3,.box [.own .d .int])],[.pb 2 0,.pb 3 0],[.ext,.box (am_.p .v),.box [.nils],.box [.rt 4],.arr .d .int 2]⟩
def rd3:RD:=⟨a7_×am_,[.ag [.sl .d .int],.bx (am_.p .v)],fun (a0,a1,_)=>((a7_.of a0),(am_.of a1)),fun (a0,a1)=>(a7_.to a0,am_.to a1,())⟩
def aK_.e:FE:=mkE rd3 115 22 2 [.bx (am_.p .v)] [.cell 2 98] [.pb 1 0] [(4,od2)] [(0,od3)] fun n (a0,_)=>aK_ n (am_.of a0)
def b4_.e:FE:=mkE rd0 91 15 1 (ci_.p .v) [.tmp 6] [] [] [] (un3 b4_)
def od4:OD:=⟨[(1,.box [.view .int]),(3,.k)],[.pb 1 0,.i .i64],[.ext,.box [.sl .v .int]]⟩
def od5:OD:=⟨[(1,.box [.view .int])],[.pb 1 0],[.ext,.box [.sl .v .int]]⟩
def a1_.e:FE:=mkE rd0 160 22 1 [.ag [.sl .v .int]] [.tmp 2] [] [(3,od4)] [(0,od5)] fun n (a0,_)=>a1_ n (a7_.of a0)
def rd4:RD:=⟨a7_,[.ag [.sl .d .int]],fun (a0,_)=>(a7_.of a0),fun r=>(a7_.to r,())⟩
def dN_.e:FE:=mkE rd4 161 8 1 [.ag [.sl .v .int]] [.cell 2 98] [] [] [] fun n (a0,_)=>dN_ n (a7_.of a0)
def rd5:RD:=⟨aA_×Bool,[.ag (aA_.p .d),.b],fun (a0,a1,_)=>((aA_.of a0),a1),fun (a0,a1)=>(aA_.to a0,a1,())⟩
def d8_.e:FE:=mkE rd5 114 15 1 [.ag [.sl .v .int]] [.cell 2 101,.tmp 3] [] [] [] fun n (a0,_)=>d8_ n (a7_.of a0)
def od6:OD:=⟨[(0,.box [.view .u8,.k,.k]),(1,.k),(4,.box [.k,.k]),(5,.box [.k,.own .d .int]),(6,.k)],[.pb 1 0,.i .i64,.pb 2 0,.pb 3 0,.i .i64],[.ext,.box (am_.p .v),.box [.i .i64,.nils],.box [.i .i64,.rt 4],.arr .d .int 2]⟩
def od7:OD:=⟨[(4,.box [.k,.k]),(5,.box [.k,.own .d .int])],[.pb 2 0,.pb 3 0],[.ext,.box (am_.p .v),.box [.i .i64,.nils],.box [.i .i64,.rt 4],.arr .d .int 2]⟩
def rd6:RD:=⟨TRow×am_,[.ag (TRow.p .d),.bx (am_.p .v)],fun (a0,a1,_)=>((TRow.of a0),(am_.of a1)),fun (a0,a1)=>(TRow.to a0,am_.to a1,())⟩
def a5_.e:FE:=mkE rd6 163 24 2 [.bx (am_.p .v),.i .i64] [.cell 4 173] [.pb 1 0] [(4,od6)] [(0,od7)] fun n (a0,a1,_)=>a5_ n (am_.of a0) a1
def od8:OD:=⟨[(0,.view .iRow),(1,.k),(5,.k)],[.sl .v .iRow,.i .i64,.i .i64],[.ext]⟩
def od9:OD:=⟨[],[],[.ext]⟩
def rd7:RD:=⟨Int,[.i .i64],fun (a0,_)=>a0,fun r=>(r,())⟩
def cf_.e:FE:=mkE rd7 216 20 1 [.sl .v .iRow,.i .i64] [.tmp 4] [] [(3,od8)] [(0,od9)] (un2 cf_)
def rd8:RD:=⟨TRow,[.ag (TRow.p .d)],fun (a0,_)=>(TRow.of a0),fun r=>(TRow.to r,())⟩
def cB_.e:FE:=mkE rd8 217 10 1 [.ag (TRow.p .v)] [.cell 2 173] [] [] [] fun n (a0,_)=>cB_ n (TRow.of a0)
def od10:OD:=⟨[(0,.view .iRow),(5,.k),(6,.own .d .iRow),(7,.k)],[.sl .v .iRow,.i .i64,.rt 1,.i .i64],[.ext,.arr .d .iRow 2]⟩
def od11:OD:=⟨[(6,.own .d .iRow)],[.rt 1],[.ext,.arr .d .iRow 2]⟩
def rd9:RD:=⟨(List TRow),[.sl .d .iRow],fun (a0,_)=>a0,fun r=>(r,())⟩
def bh_.e:FE:=mkE rd9 215 30 1 [.sl .v .iRow,.i .i64] [.tmp 4] [] [(5,od10)] [(0,od11)] (un2 bh_)
def od12:OD:=⟨[(3,.box [.k,.view .int]),(5,.own .d .iRow),(6,.k),(7,.k)],[.pb 1 0,.rt 2,.i .i64,.i .i64],[.ext,.box (TRow.p .v),.arr .d .iRow 2]⟩
def od13:OD:=⟨[(3,.box [.k,.view .int]),(5,.own .d .iRow),(6,.k)],[.pb 1 0,.rt 2,.i .i64],[.ext,.box (TRow.p .v),.arr .d .iRow 2]⟩
def rd10:RD:=⟨(List TRow),[.sl .s .iRow],fun (a0,_)=>a0,fun r=>(r,())⟩
def bG_.e:FE:=mkE rd10 162 55 1 [.sl .v .iRow,.ag (TRow.p .v)] [.tmp 4] [] [(6,od12)] [(0,od13)] fun n (a0,a1,_)=>bG_ n a0 (TRow.of a1)
def od14:OD:=⟨[(0,.box [.view .u8,.k,.k]),(1,.k),(5,.own .s .iRow),(6,.k)],[.pb 1 0,.i .i64,.rt 2,.i .i64],[.ext,.box (am_.p .v),.arr .s .iRow 2]⟩
def od15:OD:=⟨[(5,.own .s .iRow)],[.rt 2],[.ext,.box (am_.p .v),.arr .s .iRow 2]⟩
def rd11:RD:=⟨(List TRow)×am_,[.sl .s .iRow,.bx (am_.p .v)],fun (a0,a1,_)=>(a0,(am_.of a1)),fun (a0,a1)=>(a0,am_.to a1,())⟩
def aZ_.e:FE:=mkE rd11 116 20 2 [.bx (am_.p .v),.i .i64] [.tmp 4] [.pb 1 0] [(4,od14)] [(0,od15)] fun n (a0,a1,_)=>aZ_ n (am_.of a0) a1
def od16:OD:=⟨[(0,.box [.view .u8,.k,.k]),(2,.box [.k,.k,.k]),(3,.box [.own .d .int,.k,.own .s .s_iRow]),(5,.k)],[.pb 1 0,.pb 2 0,.pb 3 0,.i .i64],[.ext,.box (am_.p .v),.box [.nils,.i .i64,.nils],.box [.rt 4,.i .i64,.rt 5],.arr .d .int 2,.arr .s .s_iRow 2]⟩
def od17:OD:=⟨[(0,.box [.view .u8,.k,.k]),(2,.box [.k,.k,.k]),(3,.box [.own .d .int,.k,.own .s .s_iRow])],[.pb 1 0,.pb 2 0,.pb 3 0],[.ext,.box (am_.p .v),.box [.nils,.i .i64,.nils],.box [.rt 4,.i .i64,.rt 5],.arr .d .int 2,.arr .s .s_iRow 2]⟩
def rd12:RD:=⟨aA_×am_,[.ag [.sl .d .int,.i .i64,.sl .s .s_iRow],.bx (am_.p .v)],fun (a0,a1,_)=>((aA_.of a0),(am_.of a1)),fun (a0,a1)=>(aA_.to a0,am_.to a1,())⟩
def aP_.e:FE:=mkE rd12 74 35 2 [.bx (am_.p .v)] [.cell 2 101] [.pb 1 0] [(4,od16)] [(0,od17)] fun n (a0,_)=>aP_ n (am_.of a0)
def cT_.e:FE:=mkE rd7 69 10 1 (TKid.p .v) [.tmp 4] [] [] [] (un2 cT_)
def rd13:RD:=⟨Bool×am_,[.b,.bx (am_.p .v)],fun (a0,a1,_)=>(a0,(am_.of a1)),fun (a0,a1)=>(a0,am_.to a1,())⟩
def cV_.e:FE:=mkE rd13 71 9 2 [.bx (am_.p .v),.i .i64] [.tmp 4] [.pb 1 0] [] [] fun n (a0,a1,_)=>cV_ n (am_.of a0) a1
def b8_.e:FE:=mkE rd2 81 12 2 [.bx (am_.p .v),.sl .v .int] [.tmp 4] [.pb 1 0] [] [] fun n (a0,a1,_)=>b8_ n (am_.of a0) a1
def od18:OD:=⟨[(0,.box [.view .u8,.k,.k]),(3,.box [.view .int]),(4,.box [.k,.k,.k,.k,.k,.k,.k,.k,.k]),(5,.box [.k,.own .d .iCond,.k,.k,.k,.k,.k,.k,.k]),(6,.k),(7,.k)],[.pb 1 0,.pb 2 0,.pb 3 0,.pb 4 0,.i .i64,.i .i64],[.ext,.box (am_.p .v),.box [.sl .v .int],.box [.i .i64,.nils,.i .i64,.b,.i .i64,.nils,.b,.i .i64,.i .i64],.box [.i .i64,.rt 5,.i .i64,.b,.i .i64,.nils,.b,.i .i64,.i .i64],.arr .d .iCond 2]⟩
def od19:OD:=⟨[(0,.box [.view .u8,.k,.k]),(3,.box [.view .int]),(4,.box [.k,.k,.k,.k,.k,.k,.k,.k,.k]),(5,.box [.k,.own .d .iCond,.k,.k,.k,.own .d .int,.k,.k,.k]),(6,.k),(8,.k)],[.pb 1 0,.pb 2 0,.pb 3 0,.pb 4 0,.i .i64,.i .i64],[.ext,.box (am_.p .v),.box [.sl .v .int],.box [.i .i64,.nils,.i .i64,.b,.i .i64,.nils,.b,.i .i64,.i .i64],.box [.i .i64,.rt 5,.i .i64,.b,.i .i64,.rt 6,.b,.i .i64,.i .i64],.arr .d .iCond 2,.arr .d .int 2]⟩
def od20:OD:=⟨[(0,.box [.view .u8,.k,.k]),(3,.box [.view .int]),(4,.box [.k,.k,.k,.k,.k,.k,.k,.k,.k]),(5,.box [.k,.own .d .iCond,.k,.k,.k,.k,.k,.k,.k]),(6,.k)],[.pb 1 0,.pb 2 0,.pb 3 0,.pb 4 0,.i .i64],[.ext,.box (am_.p .v),.box [.sl .v .int],.box [.i .i64,.nils,.i .i64,.b,.i .i64,.nils,.b,.i .i64,.i .i64],.box [.i .i64,.rt 5,.i .i64,.b,.i .i64,.nils,.b,.i .i64,.i .i64],.arr .d .iCond 2]⟩
def od21:OD:=⟨[(0,.box [.view .u8,.k,.k]),(3,.box [.view .int]),(4,.box [.k,.k,.k,.k,.k,.k,.k,.k,.k]),(5,.box [.k,.own .d .iCond,.k,.k,.k,.own .d .int,.k,.k,.k])],[.pb 1 0,.pb 2 0,.pb 3 0,.pb 4 0],[.ext,.box (am_.p .v),.box [.sl .v .int],.box [.i .i64,.nils,.i .i64,.b,.i .i64,.nils,.b,.i .i64,.i .i64],.box [.i .i64,.rt 5,.i .i64,.b,.i .i64,.rt 6,.b,.i .i64,.i .i64],.arr .d .iCond 2,.arr .d .int 2]⟩
def rd14:RD:=⟨ax_×am_,[.ag (ax_.p .d),.bx (am_.p .v)],fun (a0,a1,_)=>((ax_.of a0),(am_.of a1)),fun (a0,a1)=>(ax_.to a0,am_.to a1,())⟩
def ah_.e:FE:=mkE rd14 76 106 2 [.bx (am_.p .v),.ag [.sl .v .int]] [.cell 4 105] [.pb 1 0] [(7,od18),(16,od19)] [(0,od20),(2,od21)] fun n (a0,a1,_)=>ah_ n (am_.of a0) (a7_.of a1)
def od22:OD:=⟨[(5,.box [.k,.view .int]),(7,.k)],[.pb 1 0,.i .i64],[.ext,.box (TRow.p .v)]⟩
def cl_.e:FE:=mkE rd0 230 51 1 [.ag [.sl .v .int],.i .i64,.ag (TRow.p .v)] [.tmp 6] [] [(6,od22)] [(0,od9)] fun n (a0,a1,a2,_)=>cl_ n (a7_.of a0) a1 (TRow.of a2)
def od23:OD:=⟨[(1,.k),(2,.view .iRow),(3,.box [.view .int]),(7,.k)],[.i .i64,.sl .v .iRow,.pb 1 0,.i .i64],[.ext,.box [.sl .v .int]]⟩
def od24:OD:=⟨[(1,.k),(2,.view .iRow),(3,.box [.view .int])],[.i .i64,.sl .v .iRow,.pb 1 0],[.ext,.box [.sl .v .int]]⟩
def b3_.e:FE:=mkE rd0 177 55 1 [.ag [.sl .v .int],.i .i64,.sl .v .iRow] [.tmp 6] [] [(3,od23)] [(0,od24)] fun n (a0,a1,a2,_)=>b3_ n (a7_.of a0) a1 a2
def od25:OD:=⟨[(1,.box [.view .int,.k,.view .s_iRow]),(3,.k)],[.pb 1 0,.i .i64],[.ext,.box (aA_.p .v)]⟩
def bD_.e:FE:=mkE rd0 124 41 1 [.ag (aA_.p .v)] [.tmp 2] [] [(6,od25)] [(0,od9)] fun n (a0,_)=>bD_ n (aA_.of a0)
def od26:OD:=⟨[(2,.box [.view .int]),(3,.box [.k,.view .iCond,.k,.k,.k,.view .int,.k,.k,.k]),(5,.k),(6,.k)],[.pb 1 0,.pb 2 0,.i .i64,.i .i64],[.ext,.box [.sl .v .int],.box (ax_.p .v)]⟩
def od27:OD:=⟨[(2,.box [.view .int]),(3,.box [.k,.view .iCond,.k,.k,.k,.view .int,.k,.k,.k]),(5,.k),(8,.k)],[.pb 1 0,.pb 2 0,.i .i64,.i .i64],[.ext,.box [.sl .v .int],.box (ax_.p .v)]⟩
def od28:OD:=⟨[(2,.box [.view .int]),(3,.box [.k,.view .iCond,.k,.k,.k,.view .int,.k,.k,.k]),(5,.k)],[.pb 1 0,.pb 2 0,.i .i64],[.ext,.box [.sl .v .int],.box (ax_.p .v)]⟩
def ay_.e:FE:=mkE rd0 164 148 1 [.ag [.sl .v .int],.ag (ax_.p .v)] [.tmp 4] [] [(7,od26),(16,od27)] [(0,od28),(2,od28)] fun n (a0,a1,_)=>ay_ n (a7_.of a0) (ax_.of a1)
def rd15:RD:=⟨ax_,[.ag (ax_.p .d)],fun (a0,_)=>(ax_.of a0),fun r=>(ax_.to r,())⟩
def eA_.e:FE:=mkE rd15 165 14 1 [.ag (ax_.p .v)] [.cell 2 105] [] [] [] fun n (a0,_)=>eA_ n (ax_.of a0)
def eb_.e:FE:=mkE rd0 255 46 1 [.ag (ci_.p .v),.ag (TRow.p .v)] [.tmp 4] [] [] [] fun n (a0,a1,_)=>eb_ n (ci_.of a0) (TRow.of a1)
def od29:OD:=⟨[(2,.box [.k,.view .iCond,.k,.k,.k,.view .int,.k,.k,.k]),(3,.box [.k,.view .int]),(5,.k)],[.pb 1 0,.pb 2 0,.i .i64],[.ext,.box (ax_.p .v),.box (TRow.p .v)]⟩
def bR_.e:FE:=mkE rd0 218 21 1 [.ag (ax_.p .v),.ag (TRow.p .v)] [.tmp 4] [] [(3,od29)] [(0,od9)] fun n (a0,a1,_)=>bR_ n (ax_.of a0) (TRow.of a1)
def bV_.e:FE:=mkE rd7 231 17 1 [.ag (TRow.p .v),.i .i64] [.tmp 4] [] [] [] fun n (a0,a1,_)=>bV_ n (TRow.of a0) a1
def e2_.e:FE:=mkE rd0 256 36 1 [.ag (ax_.p .v),.ag (TRow.p .v),.ag (TRow.p .v)] [.tmp 6] [] [] [] fun n (a0,a1,a2,_)=>e2_ n (ax_.of a0) (TRow.of a1) (TRow.of a2)
def od30:OD:=⟨[(1,.view .iRow),(3,.box [.k,.view .iCond,.k,.k,.k,.view .int,.k,.k,.k]),(5,.box [.k,.view .int]),(7,.own .s .iRow),(8,.k),(9,.k)],[.sl .v .iRow,.pb 1 0,.pb 2 0,.rt 3,.b,.i .i64],[.ext,.box (ax_.p .v),.box (TRow.p .v),.arr .s .iRow 2]⟩
def od31:OD:=⟨[(5,.box [.k,.view .int]),(7,.own .s .iRow),(8,.k)],[.pb 1 0,.rt 2,.b],[.ext,.box (TRow.p .v),.arr .s .iRow 2]⟩
def bW_.e:FE:=mkE rd10 219 48 1 [.ag (ax_.p .v),.sl .v .iRow,.ag (TRow.p .v)] [.tmp 6] [] [(5,od30)] [(0,od31)] fun n (a0,a1,a2,_)=>bW_ n (ax_.of a0) a1 (TRow.of a2)
def od32:OD:=⟨[(3,.box [.k,.view .iCond,.k,.k,.k,.view .int,.k,.k,.k]),(5,.own .s .iRow),(6,.view .iRow),(7,.k)],[.pb 1 0,.rt 2,.sl .v .iRow,.i .i64],[.ext,.box (ax_.p .v),.arr .s .iRow 2]⟩
def od33:OD:=⟨[(5,.own .s .iRow)],[.rt 1],[.ext,.arr .s .iRow 2]⟩
def bL_.e:FE:=mkE rd10 166 46 1 [.ag (aA_.p .v),.ag (ax_.p .v)] [.tmp 4] [] [(8,od32)] [(0,od33)] fun n (a0,a1,_)=>bL_ n (aA_.of a0) (ax_.of a1)
def od34:OD:=⟨[(0,.view .iKid),(1,.k),(2,.k),(7,.own .d .iKid),(8,.k),(9,.k)],[.sl .v .iKid,.i .i64,.i .i64,.rt 1,.b,.i .i64],[.ext,.arr .d .iKid 2]⟩
def od35:OD:=⟨[(1,.k),(2,.k),(7,.own .d .iKid),(8,.k)],[.i .i64,.i .i64,.rt 1,.b],[.ext,.arr .d .iKid 2]⟩
def rd16:RD:=⟨(List TKid),[.sl .d .iKid],fun (a0,_)=>a0,fun r=>(r,())⟩
def aQ_.e:FE:=mkE rd16 167 69 1 [.sl .v .iKid,.i .i64,.i .i64] [.tmp 6] [] [(5,od34)] [(0,od35)] (un3 aQ_)
def od36:OD:=⟨[(3,.box [.k,.view .iCond,.k,.k,.k,.view .int,.k,.k,.k]),(4,.box [.k,.k,.k,.k,.k,.k,.k,.k,.k,.k,.k]),(6,.box [.k,.own .d .iCond,.k,.k,.k,.own .d .int,.k,.k,.k,.own .s .iRow,.own .d .iKid]),(7,.view .iRow),(8,.k)],[.pb 1 0,.pb 2 0,.pb 3 0,.sl .v .iRow,.i .i64],[.ext,.box (ax_.p .v),.box [.i .i64,.nils,.i .i64,.b,.i .i64,.nils,.b,.i .i64,.i .i64,.nils,.nils],.box [.i .i64,.rt 4,.i .i64,.b,.i .i64,.rt 5,.b,.i .i64,.i .i64,.rt 6,.rt 7],.arr .d .iCond 2,.arr .d .int 2,.arr .s .iRow 2,.arr .d .iKid 2]⟩
def od37:OD:=⟨[(4,.box [.k,.k,.k,.k,.k,.k,.k,.k,.k,.k,.k]),(6,.box [.k,.own .d .iCond,.k,.k,.k,.own .d .int,.k,.k,.k,.own .s .iRow,.own .d .iKid])],[.pb 1 0,.pb 2 0],[.ext,.box [.i .i64,.nils,.i .i64,.b,.i .i64,.nils,.b,.i .i64,.i .i64,.nils,.nils],.box [.i .i64,.rt 3,.i .i64,.b,.i .i64,.rt 4,.b,.i .i64,.i .i64,.rt 5,.rt 6],.arr .d .iCond 2,.arr .d .int 2,.arr .s .iRow 2,.arr .d .iKid 2]⟩
def rd17:RD:=⟨bF_×Bool,[.ag [.i .i64,.sl .d .iCond,.i .i64,.b,.i .i64,.sl .d .int,.b,.i .i64,.i .i64,.sl .s .iRow,.sl .d .iKid],.b],fun (a0,a1,_)=>((bF_.of a0),a1),fun (a0,a1)=>(bF_.to a0,a1,())⟩
def b2_.e:FE:=mkE rd17 117 56 1 [.ag (aA_.p .v),.ag (ax_.p .v)] [.cell 4 109,.tmp 5] [] [(8,od36)] [(0,od37)] fun n (a0,a1,_)=>b2_ n (aA_.of a0) (ax_.of a1)
def rd18:RD:=⟨c1_×Bool,[.ag [.i .i64,.sl .d .iCond,.i .i64,.b,.i .i64,.sl .d .int,.b,.i .i64,.i .i64,.sl .s .iRow,.sl .d .iKid,.i .i64,.i .i64,.sl .d .iCond,.i .i64,.b,.i .i64,.sl .d .int,.b,.i .i64,.i .i64,.sl .d .iRow,.sl .d .iKid,.i .i64,.b],.b],fun (a0,a1,_)=>((c1_.of a0),a1),fun (a0,a1)=>(c1_.to a0,a1,())⟩
def ev_.e:FE:=mkE rd18 75 21 1 [.ag (aA_.p .v),.ag (ax_.p .v)] [.cell 4 111,.tmp 5] [] [] [] fun n (a0,a1,_)=>ev_ n (aA_.of a0) (ax_.of a1)
def od38:OD:=⟨[(0,.view .iRow),(3,.own .d .iRow),(4,.k)],[.sl .v .iRow,.rt 1,.i .i64],[.ext,.arr .d .iRow 2]⟩
def od39:OD:=⟨[(3,.own .d .iRow)],[.rt 1],[.ext,.arr .d .iRow 2]⟩
def bX_.e:FE:=mkE rd9 176 21 1 [.sl .v .iRow] [.tmp 2] [] [(4,od38)] [(0,od39)] (un1 bX_)
def rd19:RD:=⟨bF_,[.ag (bF_.p .d)],fun (a0,_)=>(bF_.of a0),fun r=>(bF_.to r,())⟩
def c8_.e:FE:=mkE rd19 123 14 1 [.ag (bF_.p .v)] [.cell 2 109] [] [] [] fun n (a0,_)=>c8_ n (bF_.of a0)
def rd20:RD:=⟨c1_,[.ag (c1_.p .d)],fun (a0,_)=>(c1_.of a0),fun r=>(c1_.to r,())⟩
def ec_.e:FE:=mkE rd20 118 16 1 [.ag (c1_.p .v)] [.cell 2 111] [] [] [] fun n (a0,_)=>ec_ n (c1_.of a0)
def od40:OD:=⟨[(1,.k),(2,.box [.k,.view .iCond,.k,.k,.k,.view .int,.k,.k,.k,.view .iRow,.view .iKid]),(5,.k)],[.i .i64,.pb 1 0,.i .i64],[.ext,.box (bF_.p .v)]⟩
def b7_.e:FE:=mkE rd7 224 27 1 [.ag (bF_.p .v),.i .i64] [.tmp 4] [] [(3,od40)] [(0,od9)] fun n (a0,a1,_)=>b7_ n (bF_.of a0) a1
def od41:OD:=⟨[(1,.box [.k,.view .iCond,.k,.k,.k,.view .int,.k,.k,.k,.view .iRow,.view .iKid]),(3,.own .d .int),(4,.k)],[.pb 1 0,.rt 2,.i .i64],[.ext,.box (bF_.p .v),.arr .d .int 2]⟩
def od42:OD:=⟨[(3,.own .d .int)],[.rt 1],[.ext,.arr .d .int 2]⟩
def rd21:RD:=⟨(List Int),[.sl .d .int],fun (a0,_)=>a0,fun r=>(r,())⟩
def ba_.e:FE:=mkE rd21 169 25 1 [.ag (bF_.p .v)] [.tmp 2] [] [(4,od41)] [(0,od42)] fun n (a0,_)=>ba_ n (bF_.of a0)
def fi_.e:FE:=mkE rd7 68 10 1 (TKid.p .v) [.tmp 4] [] [] [] (un2 fi_)
def dQ_.e:FE:=mkE rd7 220 14 1 [.ag (ax_.p .v),.i .i64] [.tmp 4] [] [] [] fun n (a0,a1,_)=>dQ_ n (ax_.of a0) a1
def od43:OD:=⟨[(0,.k),(3,.k),(4,.k)],[.i .i64,.b,.s],[.ext]⟩
def od44:OD:=⟨[(3,.k),(4,.k)],[.b,.s],[.ext]⟩
def o9_:RD:=⟨Bs,[.s],fun (a0,_)=>a0,fun r=>(r,())⟩
def aN_.e:FE:=mkE o9_ 51 31 1 [.i .i64] [.tmp 2] [] [(7,od43)] [(0,od44)] (un1 aN_)
def rd23:RD:=⟨aa_,[.ag (aa_.p .d)],fun (a0,_)=>(aa_.of a0),fun r=>(aa_.to r,())⟩
def dm_.e:FE:=mkE rd23 223 5 1 [.i .i64] [.cell 2 29] [] [] [] (un1 dm_)
def od45:OD:=⟨[(1,.k),(3,.box [.k,.k,.k,.view .iJson,.view .str]),(5,.box [.k,.k,.k,.view .iJson,.view .str]),(6,.box [.k,.k,.k,.k,.k]),(7,.box [.k,.k,.k,.own .s .iJson,.own .d .str]),(8,.k),(9,.k)],[.s,.pb 1 0,.pb 2 0,.pb 3 0,.pb 4 0,.b,.i .i64],[.ext,.box (aa_.p .v),.box (aa_.p .v),.box [.i .i64,.i .i64,.s,.nils,.nils],.box [.i .i64,.i .i64,.s,.rt 5,.rt 6],.arr .s .iJson 2,.arr .d .str 2]⟩
def od46:OD:=⟨[(1,.k),(5,.box [.k,.k,.k,.view .iJson,.view .str]),(6,.box [.k,.k,.k,.k,.k]),(7,.box [.k,.k,.k,.own .s .iJson,.own .d .str]),(8,.k)],[.s,.pb 1 0,.pb 2 0,.pb 3 0,.b],[.ext,.box (aa_.p .v),.box [.i .i64,.i .i64,.s,.nils,.nils],.box [.i .i64,.i .i64,.s,.rt 4,.rt 5],.arr .s .iJson 2,.arr .d .str 2]⟩
def rd24:RD:=⟨aa_,[.ag [.i .i64,.i .i64,.s,.sl .s .iJson,.sl .d .str]],fun (a0,_)=>(aa_.of a0),fun r=>(aa_.to r,())⟩
def bM_.e:FE:=mkE rd24 87 83 1 [.ag (aa_.p .v),.s,.ag (aa_.p .v)] [.cell 6 29] [] [(5,od45)] [(0,od46)] fun n (a0,a1,a2,_)=>bM_ n (aa_.of a0) a1 (aa_.of a2)
def od47:OD:=⟨[(2,.k),(3,.box [.k,.view .iCond,.k,.k,.k,.view .int,.k,.k,.k]),(4,.box [.k,.view .int]),(6,.box [.k,.k,.k,.k,.k]),(7,.box [.k,.k,.k,.own .s .iJson,.own .d .str]),(8,.k)],[.i .i64,.pb 1 0,.pb 2 0,.pb 3 0,.pb 4 0,.i .i64],[.ext,.box (ax_.p .v),.box (TRow.p .v),.box [.i .i64,.i .i64,.s,.nils,.nils],.box [.i .i64,.i .i64,.s,.rt 5,.rt 6],.arr .s .iJson 2,.arr .d .str 2]⟩
def od48:OD:=⟨[(2,.k),(3,.box [.k,.view .iCond,.k,.k,.k,.view .int,.k,.k,.k]),(4,.box [.k,.view .int]),(6,.box [.k,.k,.k,.k,.k]),(7,.box [.k,.k,.k,.own .s .iJson,.own .d .str])],[.i .i64,.pb 1 0,.pb 2 0,.pb 3 0,.pb 4 0],[.ext,.box (ax_.p .v),.box (TRow.p .v),.box [.i .i64,.i .i64,.s,.nils,.nils],.box [.i .i64,.i .i64,.s,.rt 5,.rt 6],.arr .s .iJson 2,.arr .d .str 2]⟩
def bQ_.e:FE:=mkE rd24 221 46 1 [.ag (ax_.p .v),.ag (TRow.p .v),.i .i64] [.cell 6 29] [] [(4,od47)] [(0,od48)] fun n (a0,a1,a2,_)=>bQ_ n (ax_.of a0) (TRow.of a1) a2
def od49:OD:=⟨[(0,.k),(3,.k)],[.s,.i .i64],[.ext]⟩
def od50:OD:=⟨[(0,.k)],[.s],[.ext]⟩
def b5_.e:FE:=mkE rd0 188 23 1 [.s] [.tmp 2] [] [(3,od49)] [(0,od50)] (un1 b5_)
def od51:OD:=⟨[(1,.box [.k,.k,.k,.view .iJson,.view .str]),(3,.k)],[.pb 1 0,.i .i64],[.ext,.box (aa_.p .v)]⟩
def od52:OD:=⟨[(1,.box [.k,.k,.k,.view .iJson,.view .str])],[.pb 1 0],[.ext,.box (aa_.p .v)]⟩
def ad_.e:FE:=mkE rd0 189 50 1 [.ag (aa_.p .v)] [.tmp 2] [] [(6,od51)] [(0,od52)] fun n (a0,_)=>ad_ n (aa_.of a0)
def od53:OD:=⟨[(1,.k),(2,.box [.k,.k,.k,.view .iJson,.view .str]),(5,.k),(6,.k),(7,.k)],[.i .i64,.pb 1 0,.i .i64,.i .i64,.i .i64],[.ext,.box (aa_.p .v)]⟩
def od54:OD:=⟨[(2,.box [.k,.k,.k,.view .iJson,.view .str]),(5,.k),(6,.k)],[.pb 1 0,.i .i64,.i .i64],[.ext,.box (aa_.p .v)]⟩
def aR_.e:FE:=mkE rd7 134 106 1 [.ag (aa_.p .v),.i .i64] [.tmp 4] [] [(23,od53)] [(1,od54)] fun n (a0,a1,_)=>aR_ n (aa_.of a0) a1
def cH_.e:FE:=mkE rd0 93 6 1 [.ag (aa_.p .v)] [.tmp 2] [] [] [] fun n (a0,_)=>cH_ n (aa_.of a0)
def rd25:RD:=⟨aa_,[.ag (aa_.p .v)],fun (a0,_)=>(aa_.of a0),fun r=>(aa_.to r,())⟩
def du_.e:FE:=mkE rd25 222 8 1 [.ag (aa_.p .v)] [.cell 2 29] [] [] [] fun n (a0,_)=>du_ n (aa_.of a0)
def od55:OD:=⟨[(1,.view .iRow),(2,.view .int),(3,.box [.k,.view .iCond,.k,.k,.k,.view .int,.k,.k,.k]),(6,.box [.k,.k,.k,.k,.k]),(7,.box [.k,.k,.k,.own .s .iJson,.k]),(8,.k)],[.sl .v .iRow,.sl .v .int,.pb 1 0,.pb 2 0,.pb 3 0,.i .i64],[.ext,.box (ax_.p .v),.box [.i .i64,.i .i64,.s,.nils,.nils],.box [.i .i64,.i .i64,.s,.rt 4,.nils],.arr .s .iJson 2]⟩
def od56:OD:=⟨[(1,.view .iRow),(6,.box [.k,.k,.k,.k,.k]),(7,.box [.k,.k,.k,.own .s .iJson,.k])],[.sl .v .iRow,.pb 1 0,.pb 2 0],[.ext,.box [.i .i64,.i .i64,.s,.nils,.nils],.box [.i .i64,.i .i64,.s,.rt 3,.nils],.arr .s .iJson 2]⟩
def cg_.e:FE:=mkE rd25 168 47 1 [.ag (ax_.p .v),.sl .v .iRow,.sl .v .int] [.cell 6 29] [] [(4,od55)] [(0,od56)] fun n (a0,a1,a2,_)=>cg_ n (ax_.of a0) a1 a2
def dE_.e:FE:=mkE rd25 120 10 1 [.ag (bF_.p .v)] [.cell 2 29] [] [] [] fun n (a0,_)=>dE_ n (bF_.of a0)
def od57:OD:=⟨[(2,.box [.k,.k,.k,.view .iJson,.view .str]),(3,.box [.k,.k,.k,.view .iJson,.view .str]),(5,.k)],[.pb 1 0,.pb 2 0,.i .i64],[.ext,.box (aa_.p .v),.box (aa_.p .v)]⟩
def od58:OD:=⟨[(2,.box [.k,.k,.k,.view .iJson,.view .str]),(3,.box [.k,.k,.k,.view .iJson,.view .str]),(6,.k)],[.pb 1 0,.pb 2 0,.i .i64],[.ext,.box (aa_.p .v),.box (aa_.p .v)]⟩
def od59:OD:=⟨[(2,.box [.k,.k,.k,.view .iJson,.view .str]),(3,.box [.k,.k,.k,.view .iJson,.view .str])],[.pb 1 0,.pb 2 0],[.ext,.box (aa_.p .v),.box (aa_.p .v)]⟩
def an_.e:FE:=mkE rd0 92 81 1 [.ag (aa_.p .v),.ag (aa_.p .v)] [.tmp 4] [] [(6,od57),(14,od58)] [(0,od59),(2,od9)] fun n (a0,a1,_)=>an_ n (aa_.of a0) (aa_.of a1)
def dT_.e:FE:=mkE rd0 112 16 1 [.ag (aa_.p .v),.ag (aa_.p .v)] [.tmp 4] [] [] [] fun n (a0,a1,_)=>dT_ n (aa_.of a0) (aa_.of a1)
def ew_.e:FE:=mkE rd0 119 16 1 [.ag (c1_.p .v)] [.tmp 2] [] [] [] fun n (a0,_)=>ew_ n (c1_.of a0)
def od60:OD:=⟨[(0,.view .iCond),(1,.view .iCond),(5,.k)],[.sl .v .iCond,.sl .v .iCond,.i .i64],[.ext]⟩
def od61:OD:=⟨[(0,.view .iCond),(1,.view .iCond)],[.sl .v .iCond,.sl .v .iCond],[.ext]⟩
def bK_.e:FE:=mkE rd0 225 32 1 [.sl .v .iCond,.sl .v .iCond] [.tmp 4] [] [(3,od60)] [(0,od61)] (un2 bK_)
def od62:OD:=⟨[(0,.view .int),(1,.view .int),(5,.k)],[.sl .v .int,.sl .v .int,.i .i64],[.ext]⟩
def od63:OD:=⟨[(0,.view .int),(1,.view .int)],[.sl .v .int,.sl .v .int],[.ext]⟩
def b0_.e:FE:=mkE rd0 226 32 1 [.sl .v .int,.sl .v .int] [.tmp 4] [] [(3,od62)] [(0,od63)] (un2 b0_)
def dS_.e:FE:=mkE rd0 171 66 1 [.ag (ax_.p .v),.ag (ax_.p .v)] [.tmp 4] [] [] [] fun n (a0,a1,_)=>dS_ n (ax_.of a0) (ax_.of a1)
def fk_.e:FE:=mkE rd23 172 11 1 [.i .i64] [.cell 2 29] [] [] [] (un1 fk_)
def eW_.e:FE:=mkE rd25 227 12 1 [.ag (ax_.p .v),.ag (TRow.p .v),.i .i64] [.cell 6 29] [] [] [] fun n (a0,a1,a2,_)=>eW_ n (ax_.of a0) (TRow.of a1) a2
def od64:OD:=⟨[(1,.box [.k,.view .iCond,.k,.k,.k,.view .int,.k,.k,.k,.view .iRow,.view .iKid]),(4,.own .s .iJson),(5,.own .d .int),(6,.k)],[.pb 1 0,.rt 2,.rt 3,.i .i64],[.ext,.box (bF_.p .v),.arr .s .iJson 2,.arr .d .int 2]⟩
def od65:OD:=⟨[(4,.own .s .iJson),(5,.own .d .int)],[.rt 1,.rt 2],[.ext,.arr .s .iJson 2,.arr .d .int 2]⟩
def rd26:RD:=⟨(List aa_)×(List Int),[.sl .s .iJson,.sl .d .int],fun (a0,a1,_)=>(a0,a1),fun (a0,a1)=>(a0,a1,())⟩
def bq_.e:FE:=mkE rd26 173 49 1 [.ag (bF_.p .v)] [.tmp 2,.tmp 3] [] [(5,od64)] [(0,od65)] fun n (a0,_)=>bq_ n (bF_.of a0)
def od66:OD:=⟨[(0,.view .int),(1,.k),(5,.k)],[.sl .v .int,.i .i64,.i .i64],[.ext]⟩
def cA_.e:FE:=mkE rd7 257 19 1 [.sl .v .int,.i .i64] [.tmp 4] [] [(3,od66)] [(0,od9)] (un2 cA_)
def od67:OD:=⟨[(0,.view .int),(1,.view .iJson),(5,.k)],[.sl .v .int,.sl .v .iJson,.i .i64],[.ext]⟩
def od68:OD:=⟨[(0,.view .int),(1,.view .iJson),(6,.k)],[.sl .v .int,.sl .v .iJson,.i .i64],[.ext]⟩
def od69:OD:=⟨[(0,.view .int),(1,.view .iJson)],[.sl .v .int,.sl .v .iJson],[.ext]⟩
def aJ_.e:FE:=mkE rd0 228 39 1 [.sl .v .int,.sl .v .iJson] [.tmp 4] [] [(3,od67),(11,od68)] [(0,od69),(2,od69)] (un2 aJ_)
def dp_.e:FE:=mkE rd21 258 15 1 [.sl .v .int,.i .i64] [.tmp 4] [] [] [] (un2 dp_)
def od70:OD:=⟨[(1,.box [.k,.k,.k,.view .iJson,.view .str]),(2,.box [.k,.k,.k,.k,.k]),(3,.box [.k,.k,.k,.own .d .iJson,.own .d .str]),(4,.k)],[.pb 1 0,.pb 2 0,.pb 3 0,.i .i64],[.ext,.box (aa_.p .v),.box [.i .i64,.i .i64,.s,.nils,.nils],.box [.i .i64,.i .i64,.s,.rt 4,.rt 5],.arr .d .iJson 2,.arr .d .str 2]⟩
def od71:OD:=⟨[(2,.box [.k,.k,.k,.k,.k]),(3,.box [.k,.k,.k,.own .d .iJson,.own .d .str])],[.pb 1 0,.pb 2 0],[.ext,.box [.i .i64,.i .i64,.s,.nils,.nils],.box [.i .i64,.i .i64,.s,.rt 3,.rt 4],.arr .d .iJson 2,.arr .d .str 2]⟩
def aF_.e:FE:=mkE rd23 46 35 1 [.ag (aa_.p .v)] [.cell 2 29] [] [(4,od70)] [(0,od71)] fun n (a0,_)=>aF_ n (aa_.of a0)
def dP_.e:FE:=mkE rd21 259 22 1 [.sl .v .int,.i .i64,.i .i64] [.tmp 6] [] [] [] (un3 dP_)
def od72:OD:=⟨[(0,.view .iJson),(1,.view .int),(2,.view .iJson),(3,.view .int),(9,.own .d .iOp),(10,.own .d .int),(11,.k)],[.sl .v .iJson,.sl .v .int,.sl .v .iJson,.sl .v .int,.rt 1,.rt 2,.i .i64],[.ext,.arr .d .iOp 2,.arr .d .int 2]⟩
def od73:OD:=⟨[(0,.view .iJson),(1,.view .int),(2,.view .iJson),(3,.view .int),(9,.own .d .iOp),(10,.own .d .int),(12,.k)],[.sl .v .iJson,.sl .v .int,.sl .v .iJson,.sl .v .int,.rt 1,.rt 2,.i .i64],[.ext,.arr .d .iOp 2,.arr .d .int 2]⟩
def od74:OD:=⟨[(0,.view .iJson),(1,.view .int),(2,.view .iJson),(3,.view .int),(9,.own .d .iOp),(10,.own .d .int)],[.sl .v .iJson,.sl .v .int,.sl .v .iJson,.sl .v .int,.rt 1,.rt 2],[.ext,.arr .d .iOp 2,.arr .d .int 2]⟩
def od75:OD:=⟨[(9,.own .d .iOp)],[.rt 1],[.ext,.arr .d .iOp 2]⟩
def rd27:RD:=⟨(List TOp),[.sl .d .iOp],fun (a0,_)=>a0,fun r=>(r,())⟩
def aG_.e:FE:=mkE rd27 229 116 1 [.sl .v .iJson,.sl .v .int,.sl .v .iJson,.sl .v .int] [.tmp 8] [] [(5,od72),(13,od73)] [(0,od74),(2,od75)] (un4 aG_)
def fs_.e:FE:=mkE rd27 175 25 1 [.sl .v .iJson,.sl .v .int,.sl .v .iJson,.sl .v .int] [.tmp 8] [] [] [] (un4 fs_)
def od76:OD:=⟨[(0,.k),(1,.view .iOp),(5,.own .d .iOp),(6,.k)],[.s,.sl .v .iOp,.rt 1,.i .i64],[.ext,.arr .d .iOp 2]⟩
def od77:OD:=⟨[(5,.own .d .iOp)],[.rt 1],[.ext,.arr .d .iOp 2]⟩
def cd_.e:FE:=mkE rd27 174 38 1 [.s,.sl .v .iOp] [.tmp 4] [] [(4,od76)] [(0,od77)] (un2 cd_)
def dr_.e:FE:=mkE rd27 122 52 1 [.ag (bF_.p .v),.ag (bF_.p .v)] [.tmp 4] [] [] [] fun n (a0,a1,_)=>dr_ n (bF_.of a0) (bF_.of a1)
def od78:OD:=⟨[(1,.box [.k,.view .str,.k,.k,.k,.view .iJson,.view .str]),(3,.k)],[.pb 1 0,.i .i64],[.ext,.box (TOp.p .v)]⟩
def od79:OD:=⟨[(1,.box [.k,.view .str,.k,.k,.k,.view .iJson,.view .str])],[.pb 1 0],[.ext,.box (TOp.p .v)]⟩
def cs_.e:FE:=mkE rd0 135 43 1 [.ag (TOp.p .v)] [.tmp 2] [] [(6,od78)] [(0,od79)] fun n (a0,_)=>cs_ n (TOp.of a0)
def rd28:RD:=⟨(List Bs),[.sl .d .str],fun (a0,_)=>a0,fun r=>(r,())⟩
def dD_.e:FE:=mkE rd28 110 2 1 [] [.tmp 0] [] [] [] fun n _=>dD_ n ()
def od80:OD:=⟨[(0,.view .str),(3,.own .d .u8),(4,.k)],[.sl .v .str,.rt 1,.i .i64],[.ext,.arr .d .u8 2]⟩
def od81:OD:=⟨[(0,.view .str),(3,.own .d .u8),(4,.k),(5,.k)],[.sl .v .str,.rt 1,.i .i64,.i .i64],[.ext,.arr .d .u8 2]⟩
def od82:OD:=⟨[(3,.own .d .u8)],[.rt 1],[.ext,.arr .d .u8 2]⟩
def aE_.e:FE:=mkE o9_ 144 52 1 [.sl .v .str] [.tmp 2] [] [(10,od81),(4,od80)] [(0,od82),(2,od80)] (un1 aE_)
def ek_.e:FE:=mkE rd24 99 34 1 [.ag (TOp.p .v)] [.cell 2 29] [] [] [] fun n (a0,_)=>ek_ n (TOp.of a0)
def od83:OD:=⟨[(0,.k),(3,.own .d .u8),(4,.k)],[.s,.rt 1,.i .i64],[.ext,.arr .d .u8 2]⟩
def bv_.e:FE:=mkE o9_ 143 35 1 [.s] [.tmp 2] [] [(4,od83)] [(0,od82)] (un1 bv_)
def od84:OD:=⟨[(1,.box [.k,.k,.k,.view .iJson,.view .str]),(3,.k),(4,.k)],[.pb 1 0,.s,.i .i64],[.ext,.box (aa_.p .v)]⟩
def od85:OD:=⟨[(1,.box [.k,.k,.k,.view .iJson,.view .str]),(3,.k)],[.pb 1 0,.s],[.ext,.box (aa_.p .v)]⟩
def aO_.e:FE:=mkE o9_ 98 64 1 [.ag (aa_.p .v)] [.tmp 2] [] [(17,od84)] [(1,od85)] fun n (a0,_)=>aO_ n (aa_.of a0)
def c9_.e:FE:=mkE o9_ 52 13 1 [.ag (aa_.p .v)] [.tmp 2] [] [] [] fun n (a0,_)=>c9_ n (aa_.of a0)
def od86:OD:=⟨[(0,.view .iOp),(3,.box [.k,.k,.k,.own .s .iJson,.k]),(4,.k)],[.sl .v .iOp,.pb 1 0,.i .i64],[.ext,.box [.i .i64,.i .i64,.s,.rt 2,.nils],.arr .s .iJson 2]⟩
def od87:OD:=⟨[(3,.box [.k,.k,.k,.own .s .iJson,.k])],[.pb 1 0],[.ext,.box [.i .i64,.i .i64,.s,.rt 2,.nils],.arr .s .iJson 2]⟩
def a3_.e:FE:=mkE rd7 170 34 1 [.sl .v .iOp] [.tmp 2] [] [(4,od86)] [(0,od87)] (un1 a3_)
def eu_.e:FE:=mkE rd0 121 27 1 [.ag (bF_.p .v),.ag (bF_.p .v)] [.tmp 4] [] [] [] fun n (a0,a1,_)=>eu_ n (bF_.of a0) (bF_.of a1)
def rd29:RD:=⟨c1_×ar_×Bool,[.ag (c1_.p .d),.ag [.i .i64,.i .i64,.i .i64,.i .i64,.i .i64,.s,.sl .v .iJson,.sl .v .str,.sl .d .iOp],.b],fun (a0,a1,a2,_)=>((c1_.of a0),(ar_.of a1),a2),fun (a0,a1,a2)=>(c1_.to a0,ar_.to a1,a2,())⟩
def dR_.e:FE:=mkE rd29 77 49 1 [.ag (c1_.p .v)] [.cell 2 111,.cell 3 35,.tmp 4] [] [] [] fun n (a0,_)=>dR_ n (c1_.of a0)
def rd30:RD:=⟨TMut×am_,[.ag (TMut.p .d),.bx (am_.p .v)],fun (a0,a1,_)=>((TMut.of a0),(am_.of a1)),fun (a0,a1)=>(TMut.to a0,am_.to a1,())⟩
def dO_.e:FE:=mkE rd30 127 102 2 [.bx (am_.p .v),.ag (aA_.p .v)] [.cell 4 179] [.pb 1 0] [] [] fun n (a0,a1,_)=>dO_ n (am_.of a0) (aA_.of a1)
def fl_.e:FE:=mkE rd0 178 43 1 [.ag [.sl .v .int],.ag (TMut.p .v)] [.tmp 4] [] [] [] fun n (a0,a1,_)=>fl_ n (a7_.of a0) (TMut.of a1)
def od88:OD:=⟨[(1,.box [.view .int,.k,.view .s_iRow]),(2,.box [.k,.k,.k]),(3,.box [.own .d .int,.k,.own .d .s_iRow]),(4,.k)],[.pb 1 0,.pb 2 0,.pb 3 0,.i .i64],[.ext,.box (aA_.p .v),.box [.nils,.i .i64,.nils],.box [.rt 4,.i .i64,.rt 5],.arr .d .int 2,.arr .d .s_iRow 2]⟩
def od89:OD:=⟨[(2,.box [.k,.k,.k]),(3,.box [.own .d .int,.k,.own .d .s_iRow])],[.pb 1 0,.pb 2 0],[.ext,.box [.nils,.i .i64,.nils],.box [.rt 3,.i .i64,.rt 4],.arr .d .int 2,.arr .d .s_iRow 2]⟩
def rd31:RD:=⟨aA_,[.ag (aA_.p .d)],fun (a0,_)=>(aA_.of a0),fun r=>(aA_.to r,())⟩
def bx_.e:FE:=mkE rd31 125 30 1 [.ag (aA_.p .v)] [.cell 2 101] [] [(4,od88)] [(0,od89)] fun n (a0,_)=>bx_ n (aA_.of a0)
def rd32:RD:=⟨aA_×aX_×Bool,[.ag [.sl .d .int,.i .i64,.sl .s .s_iRow],.ag (aX_.p .d),.b],fun (a0,a1,a2,_)=>((aA_.of a0),(aX_.of a1),a2),fun (a0,a1,a2)=>(aA_.to a0,aX_.to a1,a2,())⟩
def fK_.e:FE:=mkE rd32 179 82 3 [.ag [.sl .d .int,.i .i64,.sl .s .s_iRow],.ag (TMut.p .v)] [.cell 4 101,.cell 5 175,.tmp 6] [] [] [] fun n (a0,a1,_)=>fK_ n (aA_.of a0) (TMut.of a1)
def e1_.e:FE:=mkE rd32 126 38 1 [.ag (aA_.p .v),.ag (TMut.p .v)] [.cell 4 101,.cell 5 175,.tmp 6] [] [] [] fun n (a0,a1,_)=>e1_ n (aA_.of a0) (TMut.of a1)
def od90:OD:=⟨[(0,.box [.view .u8,.k,.k]),(5,.box [.view .int,.k,.view .s_iRow]),(6,.own .s .iMut),(7,.k)],[.pb 1 0,.pb 2 0,.rt 3,.i .i64],[.ext,.box (am_.p .v),.box (aA_.p .v),.arr .s .iMut 2]⟩
def od91:OD:=⟨[(0,.box [.view .u8,.k,.k]),(5,.box [.view .int,.k,.view .s_iRow]),(6,.own .s .iMut),(7,.k),(8,.box [.k,.k,.k,.view .int])],[.pb 1 0,.pb 2 0,.rt 3,.i .i64,.pb 4 0],[.ext,.box (am_.p .v),.box (aA_.p .v),.arr .s .iMut 2,.box (TMut.p .v)]⟩
def od92:OD:=⟨[(6,.own .s .iMut)],[.rt 2],[.ext,.box (am_.p .v),.arr .s .iMut 2]⟩
def rd33:RD:=⟨(List TMut)×am_,[.sl .s .iMut,.bx (am_.p .v)],fun (a0,a1,_)=>(a0,(am_.of a1)),fun (a0,a1)=>(a0,am_.to a1,())⟩
def az_.e:FE:=⟨_,⟨79,43,2,[.bx (am_.p .v),.ag (aA_.p .v)],rd33.rp,rd33.toR,rd33.ofR,[.ptr [.v,.v,.v],.ag [.v,.v,.v]],[.o,.ptr [.v,.v,.v]],[.own .s .iMut,.box [.view .u8,.k,.k]],[.tmp 4],[.pb 1 0],[(9,od91),(5,od90)],[(9,od90)],[(0,od92)]⟩,fun _=>true,fun n (a0,a1,_)=>az_ n (am_.of a0) (aA_.of a1)⟩
def od93:OD:=⟨[(1,.view .iMut),(2,.box [.view .int,.k,.view .s_iRow]),(4,.box [.k,.k,.k]),(7,.own .d .iChange),(8,.box [.own .d .int,.k,.own .s .s_iRow]),(9,.own .d .iChange),(10,.k)],[.sl .v .iMut,.pb 1 0,.pb 2 0,.rt 3,.pb 4 0,.rt 5,.i .i64],[.ext,.box (aA_.p .v),.box [.nils,.i .i64,.nils],.arr .d .iChange 2,.box [.rt 6,.i .i64,.rt 7],.arr .d .iChange 2,.arr .d .int 2,.arr .s .s_iRow 2]⟩
def od94:OD:=⟨[(2,.box [.view .int,.k,.view .s_iRow]),(4,.box [.k,.k,.k]),(8,.box [.own .d .int,.k,.own .s .s_iRow]),(9,.own .d .iChange)],[.pb 1 0,.pb 2 0,.pb 3 0,.rt 4],[.ext,.box (aA_.p .v),.box [.nils,.i .i64,.nils],.box [.rt 5,.i .i64,.rt 6],.arr .d .iChange 2,.arr .d .int 2,.arr .s .s_iRow 2]⟩
def rd34:RD:=⟨aA_×(List aX_)×Bool,[.ag [.sl .d .int,.i .i64,.sl .s .s_iRow],.sl .d .iChange,.b],fun (a0,a1,a2,_)=>((aA_.of a0),a1,a2),fun (a0,a1,a2)=>(aA_.to a0,a1,a2,())⟩
def br_.e:FE:=mkE rd34 78 67 1 [.ag (aA_.p .v),.sl .v .iMut] [.cell 4 101,.tmp 5,.tmp 6] [] [(12,od93)] [(0,od94)] fun n (a0,a1,_)=>br_ n (aA_.of a0) a1
def rd35:RD:=⟨bF_,[.ag [.i .i64,.sl .d .iCond,.i .i64,.b,.i .i64,.sl .d .int,.b,.i .i64,.i .i64,.sl .s .iRow,.sl .d .iKid]],fun (a0,_)=>(bF_.of a0),fun r=>(bF_.to r,())⟩
def dv_.e:FE:=mkE rd35 180 76 1 [.ag (bF_.p .v),.ag (aX_.p .v)] [.cell 4 109] [] [] [] fun n (a0,a1,_)=>dv_ n (bF_.of a0) (aX_.of a1)
def od95:OD:=⟨[(1,.view .iChange),(4,.box [.k,.k,.k,.k,.k,.k,.k,.k,.k,.k,.k]),(5,.box [.k,.own .d .iCond,.k,.k,.k,.own .d .int,.k,.k,.k,.own .s .iRow,.own .d .iKid]),(6,.k)],[.sl .v .iChange,.pb 1 0,.pb 2 0,.i .i64],[.ext,.box [.i .i64,.nils,.i .i64,.b,.i .i64,.nils,.b,.i .i64,.i .i64,.nils,.nils],.box [.i .i64,.rt 3,.i .i64,.b,.i .i64,.rt 4,.b,.i .i64,.i .i64,.rt 5,.rt 6],.arr .d .iCond 2,.arr .d .int 2,.arr .s .iRow 2,.arr .d .iKid 2]⟩
def od96:OD:=⟨[(4,.box [.k,.k,.k,.k,.k,.k,.k,.k,.k,.k,.k]),(5,.box [.k,.own .d .iCond,.k,.k,.k,.own .d .int,.k,.k,.k,.own .s .iRow,.own .d .iKid])],[.pb 1 0,.pb 2 0],[.ext,.box [.i .i64,.nils,.i .i64,.b,.i .i64,.nils,.b,.i .i64,.i .i64,.nils,.nils],.box [.i .i64,.rt 3,.i .i64,.b,.i .i64,.rt 4,.b,.i .i64,.i .i64,.rt 5,.rt 6],.arr .d .iCond 2,.arr .d .int 2,.arr .s .iRow 2,.arr .d .iKid 2]⟩
def aS_.e:FE:=mkE rd35 128 22 1 [.ag (bF_.p .v),.sl .v .iChange] [.cell 4 109] [] [(4,od95)] [(0,od96)] fun n (a0,a1,_)=>aS_ n (bF_.of a0) a1
def rd36:RD:=⟨c1_,[.ag [.i .i64,.sl .d .iCond,.i .i64,.b,.i .i64,.sl .d .int,.b,.i .i64,.i .i64,.sl .s .iRow,.sl .d .iKid,.i .i64,.i .i64,.sl .d .iCond,.i .i64,.b,.i .i64,.sl .d .int,.b,.i .i64,.i .i64,.sl .d .iRow,.sl .d .iKid,.i .i64,.b]],fun (a0,_)=>(c1_.of a0),fun r=>(c1_.to r,())⟩
def dJ_.e:FE:=mkE rd36 80 18 1 [.ag (c1_.p .v),.sl .v .iChange] [.cell 4 111] [] [] [] fun n (a0,a1,_)=>dJ_ n (c1_.of a0) a1
def od97:OD:=⟨[(0,.box [.view .u8,.k,.k]),(3,.box [.view .int,.k,.view .s_iRow])],[.pb 1 0,.pb 2 0],[.ext,.box (am_.p .v),.box (aA_.p .v)]⟩
def od98:OD:=⟨[(0,.box [.view .u8,.k,.k]),(3,.box [.view .int,.k,.view .s_iRow]),(4,.box [.k,.view .iCond,.k,.k,.k,.view .int,.k,.k,.k,.view .iRow,.view .iKid,.k,.k,.view .iCond,.k,.k,.k,.view .int,.k,.k,.k,.view .iRow,.view .iKid,.k,.k]),(6,.own .s .iEvent),(7,.k),(8,.k)],[.pb 1 0,.pb 2 0,.pb 3 0,.rt 4,.i .i64,.i .i64],[.ext,.box (am_.p .v),.box (aA_.p .v),.box (c1_.p .v),.arr .s .iEvent 2]⟩
def od99:OD:=⟨[(6,.own .s .iEvent)],[.rt 2],[.ext,.box (am_.p .v),.arr .s .iEvent 2]⟩
def rd37:RD:=⟨(List ar_)×am_,[.sl .s .iEvent,.bx (am_.p .v)],fun (a0,a1,_)=>(a0,(am_.of a1)),fun (a0,a1)=>(a0,am_.to a1,())⟩
def aq_.e:FE:=⟨_,⟨36,65,2,[.bx (am_.p .v)],rd37.rp,rd37.toR,rd37.ofR,[.ptr [.v,.v,.v]],[.o,.ptr [.v,.v,.v]],[.own .s .iEvent,.box [.view .u8,.k,.k]],[.tmp 2],[.pb 1 0],[(8,od98),(7,od98),(1,od97)],[(8,od98)],[(0,od99)]⟩,fun _=>true,fun n (a0,_)=>aq_ n (am_.of a0)⟩
def od100:OD:=⟨[(0,.view .iOp),(2,.box [.k,.k,.k,.k,.k]),(4,.box [.k,.k,.k,.own .s .iJson,.k]),(5,.k)],[.sl .v .iOp,.pb 1 0,.pb 2 0,.i .i64],[.ext,.box [.i .i64,.i .i64,.s,.nils,.nils],.box [.i .i64,.i .i64,.s,.rt 3,.nils],.arr .s .iJson 2]⟩
def od101:OD:=⟨[(0,.view .iOp),(2,.box [.k,.k,.k,.k,.k]),(4,.box [.k,.k,.k,.own .s .iJson,.k])],[.sl .v .iOp,.pb 1 0,.pb 2 0],[.ext,.box [.i .i64,.i .i64,.s,.nils,.nils],.box [.i .i64,.i .i64,.s,.rt 3,.nils],.arr .s .iJson 2]⟩
def rd38:RD:=⟨aa_×Bool,[.ag [.i .i64,.i .i64,.s,.sl .s .iJson,.sl .d .str],.b],fun (a0,a1,_)=>((aa_.of a0),a1),fun (a0,a1)=>(aa_.to a0,a1,())⟩
def bP_.e:FE:=mkE rd38 53 38 1 [.sl .v .iOp] [.cell 2 29,.tmp 3] [] [(4,od100)] [(0,od101)] (un1 bP_)
def ed_.e:FE:=mkE rd0 45 51 1 [.ag (ar_.p .v)] [.tmp 2] [] [] [] fun n (a0,_)=>ed_ n (ar_.of a0)
def ds_.e:FE:=mkE o9_ 17 43 1 [.ag (ar_.p .v)] [.tmp 2] [] [] [] fun n (a0,_)=>ds_ n (ar_.of a0)
def od102:OD:=⟨[(3,.box [.view .u8,.k,.k]),(4,.own .s .iEvent),(5,.k),(6,.k)],[.pb 1 0,.rt 2,.s,.i .i64],[.ext,.box (am_.p .v),.arr .s .iEvent 2]⟩
def od103:OD:=⟨[(3,.box [.view .u8,.k,.k]),(5,.k)],[.pb 1 0,.s],[.ext,.box (am_.p .v)]⟩
def aL_.e:FE:=mkE o9_ 32 40 1 [.sl .v .u8] [.tmp 2] [] [(6,od102)] [(0,od103)] (un1 aL_)
def strings_Index.e:FE:=mkE rd7 72 8 1 [.s,.s] [.tmp 4] [] [] [] (un2 strings_Index)
def bi_.e:FE:=mkE rd0 197 18 1 [.s,.s] [.tmp 4] [] [] [] (un2 bi_)
def rd39:RD:=⟨Bs×Bool,(aW_.p .v),fun (a0,a1,_)=>(a0,a1),fun (a0,a1)=>(a0,a1,())⟩
def bS_.e:FE:=mkE rd39 145 15 1 [.s,.s] [.tmp 4,.tmp 5] [] [] [] (un2 bS_)
def cX_.e:FE:=mkE rd39 100 11 1 [.s,.s] [.tmp 4,.tmp 5] [] [] [] (un2 cX_)
def ca_.e:FE:=mkE rd7 113 143 1 [.s,.s] [.tmp 4] [] [] [] (un2 ca_)
def rd40:RD:=⟨Bs×Bs×Bool,[.s,.s,.b],fun (a0,a1,a2,_)=>(a0,a1,a2),fun (a0,a1,a2)=>(a0,a1,a2,())⟩
def cm_.e:FE:=mkE rd40 198 23 1 [.s,.s] [.tmp 4,.tmp 5,.tmp 6] [] [] [] (un2 cm_)
def eV_.e:FE:=mkE rd40 146 13 1 [.s,.s] [.tmp 4,.tmp 5,.tmp 6] [] [] [] (un2 eV_)
def bH_.e:FE:=mkE o9_ 150 13 1 [.s,.s] [.tmp 4] [] [] [] (un2 bH_)
def cR_.e:FE:=mkE o9_ 104 8 1 [.s,.s] [.tmp 4] [] [] [] (un2 cR_)
def rd41:RD:=⟨Bs×Bs,[.s,.s],fun (a0,a1,_)=>(a0,a1),fun (a0,a1)=>(a0,a1,())⟩
def d1_.e:FE:=mkE rd41 101 19 1 [.s,.s] [.tmp 4,.tmp 5] [] [] [] (un2 d1_)
def rd42:RD:=⟨Int×Bool,[.i .i64,.er],fun (a0,a1,_)=>(a0,a1),fun (a0,a1)=>(a0,a1,())⟩
def dg_.e:FE:=mkE rd42 102 18 1 [.s] [.tmp 2,.tmp 3] [] [] [] (un1 dg_)
def rd43:RD:=⟨Bool×bu_,[.b,.bx (aW_.p .v)],fun (a0,a1,_)=>(a0,(bu_.of a1)),fun (a0,a1)=>(a0,bu_.to a1,())⟩
def bN_.e:FE:=mkE rd43 204 28 2 [.bx (aW_.p .v),.s] [.tmp 4] [.pb 1 0] [] [] fun n (a0,a1,_)=>bN_ n (bu_.of a0) a1
def de_.e:FE:=mkE rd0 205 8 1 [.s,.s] [.tmp 4] [] [] [] (un2 de_)
def rd44:RD:=⟨bu_,[.bx (aW_.p .v)],fun (a0,_)=>(bu_.of a0),fun r=>(bu_.to r,())⟩
def cy_.e:FE:=mkE rd44 253 11 2 [.bx (aW_.p .v),.s] [] [.pb 1 0] [] [] fun n (a0,a1,_)=>cy_ n (bu_.of a0) a1
def od104:OD:=⟨[(0,.box [.k,.k]),(3,.own .d .u8)],[.pb 1 0,.rt 2],[.ext,.box (aW_.p .v),.arr .d .u8 2]⟩
def od105:OD:=⟨[],[],[.ext,.box (aW_.p .v)]⟩
def rd45:RD:=⟨Bs×bu_,[.s,.bx (aW_.p .v)],fun (a0,a1,_)=>(a0,(bu_.of a1)),fun (a0,a1)=>(a0,bu_.to a1,())⟩
def aD_.e:FE:=mkE rd45 206 42 2 [.bx (aW_.p .v)] [.tmp 2] [.pb 1 0] [(4,od104)] [(0,od105)] fun n (a0,_)=>aD_ n (bu_.of a0)
def od106:OD:=⟨[(0,.box [.k,.k]),(1,.k),(2,.k),(3,.k),(8,.box [.k,.k,.k,.k,.k]),(9,.box [.k,.k,.k,.own .d .iJson,.own .d .str]),(10,.k)],[.pb 1 0,.i .i64,.s,.i .i64,.pb 2 0,.pb 3 0,.b],[.ext,.box (aW_.p .v),.box [.i .i64,.i .i64,.s,.nils,.nils],.box [.i .i64,.i .i64,.s,.rt 4,.rt 5],.arr .d .iJson 2,.arr .d .str 2]⟩
def od107:OD:=⟨[(0,.box [.k,.k]),(2,.k),(8,.box [.k,.k,.k,.k,.k]),(9,.box [.k,.k,.k,.own .d .iJson,.own .d .str])],[.pb 1 0,.s,.pb 2 0,.pb 3 0],[.ext,.box (aW_.p .v),.box [.i .i64,.i .i64,.s,.nils,.nils],.box [.i .i64,.i .i64,.s,.rt 4,.rt 5],.arr .d .iJson 2,.arr .d .str 2]⟩
def rd46:RD:=⟨aa_×bu_,[.ag (aa_.p .d),.bx (aW_.p .v)],fun (a0,a1,_)=>((aa_.of a0),(bu_.of a1)),fun (a0,a1)=>(aa_.to a0,bu_.to a1,())⟩
def as_.e:FE:=mkE rd46 207 55 2 [.bx (aW_.p .v),.i .i64,.s,.i .i64] [.cell 8 29] [.pb 1 0] [(7,od106)] [(0,od107)] fun n (a0,a1,a2,a3,_)=>as_ n (bu_.of a0) a1 a2 a3
def aI_.e:FE:=mkE rd0 55 15 1 (ci_.p .v) [.tmp 6] [] [] [] (un3 aI_)
def od108:OD:=⟨[(0,.box [.k,.k]),(2,.box [.k,.k,.k,.k,.k]),(3,.k)],[.pb 1 0,.pb 2 0,.i .i64],[.ext,.box (aW_.p .v),.box [.i .i64,.i .i64,.s,.nils,.nils]]⟩
def aB_.e:FE:=mkE rd46 208 63 2 [.bx (aW_.p .v)] [.cell 2 29] [.pb 1 0] [(3,od108)] [(0,od108)] fun n (a0,_)=>aB_ n (bu_.of a0)
def b6_.e:FE:=mkE rd46 149 54 2 [.bx (aW_.p .v),.i .i64] [.cell 4 29] [.pb 1 0] [] [] fun n (a0,a1,_)=>b6_ n (bu_.of a0) a1
def bm_.e:FE:=mkE rd0 233 5 1 [.i .i64] [.tmp 2] [] [] [] (un1 bm_)
def od109:OD:=⟨[(0,.k),(5,.k),(6,.k)],[.s,.i .i64,.i .i64],[.ext]⟩
def av_.e:FE:=mkE rd0 183 19 1 [.s] [.tmp 2] [] [(3,od109)] [(0,od50)] (un1 av_)
def od110:OD:=⟨[(0,.view .str),(5,.view .str),(6,.k),(7,.k)],[.sl .v .str,.sl .v .str,.i .i64,.i .i64],[.ext]⟩
def au_.e:FE:=mkE rd0 234 29 1 [.sl .v .str] [.tmp 2] [] [(3,od110)] [(0,od9)] (un1 au_)
def fn_.e:FE:=mkE rd0 182 90 1 [.ag (aa_.p .v)] [.tmp 2] [] [] [] fun n (a0,_)=>fn_ n (aa_.of a0)
def od111:OD:=⟨[(1,.k),(5,.k),(16,.view .iJson),(17,.k),(18,.k)],[.i .i64,.i .i64,.sl .v .iJson,.i .i64,.i .i64],[.ext]⟩
def od112:OD:=⟨[(5,.k)],[.i .i64],[.ext]⟩
def bI_.e:FE:=mkE rd7 131 32 1 [.ag (aa_.p .v),.i .i64] [.tmp 4] [] [(7,od111)] [(0,od112)] fun n (a0,a1,_)=>bI_ n (aa_.of a0) a1
def c0_.e:FE:=mkE rd0 89 6 1 [.ag (aa_.p .v)] [.tmp 2] [] [] [] fun n (a0,_)=>c0_ n (aa_.of a0)
def od113:OD:=⟨[(0,.k),(3,.own .d .u8),(7,.k),(8,.k)],[.s,.rt 1,.i .i64,.i .i64],[.ext,.arr .d .u8 2]⟩
def bY_.e:FE:=mkE o9_ 138 35 1 [.s] [.tmp 2] [] [(4,od113)] [(0,od82)] (un1 bY_)
def strconv_Itoa.e:FE:=mkE o9_ 95 5 1 [.i .i64] [.tmp 2] [] [] [] (un1 strconv_Itoa)
def strings_Join.e:FE:=mkE o9_ 139 75 1 [.sl .v .str,.s] [.tmp 4] [] [] [] (un2 strings_Join)
def od114:OD:=⟨[(1,.box [.k,.k,.k,.view .iJson,.view .str]),(3,.own .d .str),(9,.view .iJson),(10,.k),(11,.k)],[.pb 1 0,.rt 2,.sl .v .iJson,.i .i64,.i .i64],[.ext,.box (aa_.p .v),.arr .d .str 2]⟩
def od115:OD:=⟨[(1,.box [.k,.k,.k,.view .iJson,.view .str]),(3,.own .d .str)],[.pb 1 0,.rt 2],[.ext,.box (aa_.p .v),.arr .d .str 2]⟩
def a9_.e:FE:=mkE o9_ 96 66 1 [.ag (aa_.p .v)] [.tmp 2] [] [(4,od114)] [(0,od115)] fun n (a0,_)=>a9_ n (aa_.of a0)
def dL_.e:FE:=mkE o9_ 49 13 1 [.ag (aa_.p .v)] [.tmp 2] [] [] [] fun n (a0,_)=>dL_ n (aa_.of a0)
def rd47:RD:=⟨aa_×Bool,[.ag (aa_.p .d),.b],fun (a0,a1,_)=>((aa_.of a0),a1),fun (a0,a1)=>(aa_.to a0,a1,())⟩
def eG_.e:FE:=mkE rd47 103 27 1 [.s] [.cell 2 29,.tmp 3] [] [] [] (un1 eG_)
def od116:OD:=⟨[(0,.view .str),(1,.k),(7,.k),(8,.k)],[.sl .v .str,.s,.i .i64,.i .i64],[.ext]⟩
def aC_.e:FE:=mkE rd7 211 19 1 [.sl .v .str,.s] [.tmp 4] [] [(3,od116)] [(0,od9)] (un2 aC_)
def dh_.e:FE:=mkE rd28 88 6 1 [.sl .v .str] [.tmp 2] [] [] [] (un1 dh_)
def od117:OD:=⟨[(2,.box [.k,.k,.k,.k,.k]),(3,.box [.k,.k,.k,.own .d .iJson,.own .d .str]),(17,.view .iJson),(18,.k),(19,.k)],[.pb 1 0,.pb 2 0,.sl .v .iJson,.i .i64,.i .i64],[.ext,.box [.i .i64,.i .i64,.s,.nils,.nils],.box [.i .i64,.i .i64,.s,.rt 3,.rt 4],.arr .d .iJson 2,.arr .d .str 2]⟩
def aw_.e:FE:=mkE rd23 42 32 1 [.ag (aa_.p .v)] [.cell 2 29] [] [(4,od117)] [(0,od71)] fun n (a0,_)=>aw_ n (aa_.of a0)
def eN_.e:FE:=mkE rd47 209 25 1 [.ag (aa_.p .v),.s] [.cell 4 29,.tmp 5] [] [] [] fun n (a0,a1,_)=>eN_ n (aa_.of a0) a1
def strings_Split.e:FE:=mkE rd28 254 8 1 [.s,.s] [.tmp 4] [] [] [] (un2 strings_Split)
def strings_ReplaceAll.e:FE:=mkE o9_ 196 11 1 [.s,.s,.s] [.tmp 6] [] [] [] (un3 strings_ReplaceAll)
def od118:OD:=⟨[(3,.k),(6,.view .str),(7,.k),(8,.k)],[.s,.sl .v .str,.i .i64,.i .i64],[.ext]⟩
def od119:OD:=⟨[(3,.k)],[.s],[.ext]⟩
def bT_.e:FE:=mkE o9_ 141 20 1 [.sl .v .str] [.tmp 2] [] [(4,od118)] [(0,od119)] (un1 bT_)
def od120:OD:=⟨[(0,.k),(4,.own .d .str),(13,.view .str),(14,.k),(15,.k)],[.s,.rt 1,.sl .v .str,.i .i64,.i .i64],[.ext,.arr .d .str 2]⟩
def od121:OD:=⟨[(0,.k),(4,.own .d .str)],[.s,.rt 1],[.ext,.arr .d .str 2]⟩
def rd48:RD:=⟨(List Bs)×Bool,[.sl .d .str,.b],fun (a0,a1,_)=>(a0,a1),fun (a0,a1)=>(a0,a1,())⟩
def bE_.e:FE:=mkE rd48 210 36 1 [.s] [.tmp 2,.tmp 3] [] [(7,od120)] [(0,od121)] (un1 bE_)
def dF_.e:FE:=mkE rd28 140 2 1 [] [.tmp 0] [] [] [] fun n _=>dF_ n ()
def em_.e:FE:=mkE rd0 56 28 1 [.ag (aa_.p .v)] [.tmp 2] [] [] [] fun n (a0,_)=>em_ n (aa_.of a0)
def od122:OD:=⟨[(1,.box [.k,.view .str,.k,.k,.k,.view .iJson,.view .str]),(6,.view .str),(7,.k),(8,.k)],[.pb 1 0,.sl .v .str,.i .i64,.i .i64],[.ext,.box (TOp.p .v)]⟩
def cu_.e:FE:=mkE rd0 132 40 1 [.ag (TOp.p .v)] [.tmp 2] [] [(3,od122)] [(0,od79)] fun n (a0,_)=>cu_ n (TOp.of a0)
def eD_.e:FE:=mkE rd23 142 8 3 [.ag (aa_.p .d)] [.cell 2 29] [] [] [] fun n (a0,_)=>eD_ n (aa_.of a0)
def eF_.e:FE:=mkE rd23 97 41 1 [.ag (TOp.p .v)] [.cell 2 29] [] [] [] fun n (a0,_)=>eF_ n (TOp.of a0)
def od123:OD:=⟨[(0,.view .str),(1,.view .str),(12,.k),(13,.k)],[.sl .v .str,.sl .v .str,.i .i64,.i .i64],[.ext]⟩
def aH_.e:FE:=mkE rd0 260 26 1 [.sl .v .str,.sl .v .str] [.tmp 4] [] [(6,od123)] [(0,od9)] (un2 aH_)
def od124:OD:=⟨[(1,.view .iJson),(2,.k),(15,.view .iJson),(16,.k),(17,.k)],[.sl .v .iJson,.clo 235 [],.sl .v .iJson,.i .i64,.i .i64],[.ext]⟩
def af_.e:FE:=mkE rd0 261 32 1 [.sl .v .iJson,.sl .v .iJson,.clo 235 []] [.tmp 6] [] [(6,od124)] [(0,od9)] fun n (a0,a1,_,_)=>af_ n a0 a1
def d2_.e:FE:=mkE rd0 235 38 1 [.ag (aa_.p .v),.ag (aa_.p .v)] [.tmp 4] [] [] [] fun n (a0,a1,_)=>d2_ n (aa_.of a0) (aa_.of a1)
def ea_.e:FE:=mkE rd0 212 16 1 [.ag (aa_.p .v),.ag (aa_.p .v)] [.tmp 4] [] [] [] fun n (a0,a1,_)=>ea_ n (aa_.of a0) (aa_.of a1)
def rd49:RD:=⟨TOp×Bool,[.ag (TOp.p .d),.b],fun (a0,a1,_)=>((TOp.of a0),a1),fun (a0,a1)=>(TOp.to a0,a1,())⟩
def eY_.e:FE:=mkE rd49 151 66 1 [.ag (aa_.p .v)] [.cell 2 87,.tmp 3] [] [] [] fun n (a0,_)=>eY_ n (aa_.of a0)
def od125:OD:=⟨[(1,.box [.k,.k,.k,.view .iJson,.view .str]),(4,.own .d .iOp),(11,.view .iJson),(12,.k),(13,.k)],[.pb 1 0,.rt 2,.sl .v .iJson,.i .i64,.i .i64],[.ext,.box (aa_.p .v),.arr .d .iOp 2]⟩
def od126:OD:=⟨[(1,.box [.k,.k,.k,.view .iJson,.view .str]),(4,.own .d .iOp)],[.pb 1 0,.rt 2],[.ext,.box (aa_.p .v),.arr .d .iOp 2]⟩
def rd50:RD:=⟨(List TOp)×Bool,[.sl .d .iOp,.b],fun (a0,a1,_)=>(a0,a1),fun (a0,a1)=>(a0,a1,())⟩
def ch_.e:FE:=mkE rd50 105 33 1 [.ag (aa_.p .v)] [.tmp 2,.tmp 3] [] [(4,od125)] [(0,od126)] fun n (a0,_)=>ch_ n (aa_.of a0)
def rd51:RD:=⟨ar_,[.ag (ar_.p .d)],fun (a0,_)=>(ar_.of a0),fun r=>(ar_.to r,())⟩
def eg_.e:FE:=mkE rd51 58 96 1 [.s] [.cell 2 35] [] [] [] (un1 eg_)
def dt_.e:FE:=mkE rd0 54 5 1 [.i .i64] [.tmp 2] [] [] [] (un1 dt_)
def od127:OD:=⟨[(2,.box [.k,.k,.k,.k,.k]),(4,.box [.k,.k,.k,.own .d .iJson,.k]),(9,.view .iOp),(10,.k),(11,.k)],[.pb 1 0,.pb 2 0,.sl .v .iOp,.i .i64,.i .i64],[.ext,.box [.i .i64,.i .i64,.s,.nils,.nils],.box [.i .i64,.i .i64,.s,.rt 3,.nils],.arr .d .iJson 2]⟩
def od128:OD:=⟨[(2,.box [.k,.k,.k,.k,.k]),(4,.box [.k,.k,.k,.own .d .iJson,.k])],[.pb 1 0,.pb 2 0],[.ext,.box [.i .i64,.i .i64,.s,.nils,.nils],.box [.i .i64,.i .i64,.s,.rt 3,.nils],.arr .d .iJson 2]⟩
def bs_.e:FE:=mkE rd47 50 29 1 [.sl .v .iOp] [.cell 2 29,.tmp 3] [] [(4,od127)] [(0,od128)] (un1 bs_)
def dV_.e:FE:=mkE rd7 57 21 1 [.sl .v .iOp] [.tmp 2] [] [] [] (un1 dV_)
def ei_.e:FE:=mkE rd0 18 57 1 [.ag (ar_.p .v)] [.tmp 2] [] [] [] fun n (a0,_)=>ei_ n (ar_.of a0)
def eE_.e:FE:=mkE o9_ 48 5 1 [.i .i64] [.tmp 2] [] [] [] (un1 eE_)
def dX_.e:FE:=mkE o9_ 16 43 1 [.ag (ar_.p .v)] [.tmp 2] [] [] [] fun n (a0,_)=>dX_ n (ar_.of a0)
def rd52:RD:=⟨ar_×Bool,[.ag (ar_.p .d),.b],fun (a0,a1,_)=>((ar_.of a0),a1),fun (a0,a1)=>(ar_.to a0,a1,())⟩
def dd_.e:FE:=mkE rd52 19 19 1 [.s] [.cell 2 35,.tmp 3] [] [] [] (un1 dd_)
def od129:OD:=⟨[(4,.box [.k,.k]),(6,.own .d .iEvent),(7,.k),(8,.k)],[.pb 1 0,.rt 2,.s,.b],[.ext,.box (aW_.p .v),.arr .d .iEvent 2]⟩
def rd53:RD:=⟨aW_×(List ar_),[.ag (aW_.p .v),.sl .d .iEvent],fun (a0,a1,_)=>((aW_.of a0),a1),fun (a0,a1)=>(aW_.to a0,a1,())⟩
def cv_.e:FE:=mkE rd53 30 52 1 [.ag (aW_.p .v),.s] [.cell 4 51,.tmp 5] [] [(5,od129)] [(0,od129)] fun n (a0,a1,_)=>cv_ n (aW_.of a0) a1
def rd54:RD:=⟨bf_,[.ag (bf_.p .d)],fun (a0,_)=>(bf_.of a0),fun r=>(bf_.to r,())⟩
def dy_.e:FE:=mkE rd54 41 8 1 [.ag (bf_.p .v)] [.cell 2 31] [] [] [] fun n (a0,_)=>dy_ n (bf_.of a0)
def fm_.e:FE:=mkE rd47 184 22 3 [.ag (aa_.p .d),.ag (TOp.p .v)] [.cell 4 29,.tmp 5] [] [] [] fun n (a0,a1,_)=>fm_ n (aa_.of a0) (TOp.of a1)
def cY_.e:FE:=mkE rd0 280 6 1 [.s] [.tmp 2] [] [] [] (un1 cY_)
def dl_.e:FE:=mkE rd0 262 17 1 [.s,.s] [.tmp 4] [] [] [] (un2 dl_)
def cp_.e:FE:=mkE rd0 263 6 1 [.s] [.tmp 2] [] [] [] (un1 cp_)
def od130:OD:=⟨[(0,.view .str),(1,.k),(6,.k),(7,.k),(8,.k)],[.sl .v .str,.s,.i .i64,.i .i64,.i .i64],[.ext]⟩
def od131:OD:=⟨[(0,.view .str),(1,.k),(6,.k),(7,.k)],[.sl .v .str,.s,.i .i64,.i .i64],[.ext]⟩
def rd55:RD:=⟨Int×Bool,[.i .i64,.b],fun (a0,a1,_)=>(a0,a1),fun (a0,a1)=>(a0,a1,())⟩
def al_.e:FE:=mkE rd55 236 54 1 [.sl .v .str,.s] [.tmp 4,.tmp 5] [] [(4,od130)] [(0,od131)] (un2 al_)
def cO_.e:FE:=mkE rd28 237 95 1 [.sl .d .str,.i .i64,.sl .d .str] [.tmp 6] [] [] [] (un3 cO_)
def rd56:RD:=⟨(List aa_),[.sl .d .iJson],fun (a0,_)=>a0,fun r=>(r,())⟩
def cF_.e:FE:=mkE rd56 238 95 1 [.sl .d .iJson,.i .i64,.sl .d .iJson] [.tmp 6] [] [] [] (un3 cF_)
def eh_.e:FE:=mkE rd7 239 24 1 [.s] [.tmp 2] [] [] [] (un1 eh_)
def ez_.e:FE:=mkE rd47 185 69 5 [.ag (aa_.p .d),.s,.ag (aa_.p .d)] [.cell 6 29,.tmp 7] [] [] [] fun n (a0,a1,a2,_)=>ez_ n (aa_.of a0) a1 (aa_.of a2)
def ef_.e:FE:=mkE rd7 186 24 1 [.ag (aa_.p .v),.s] [.tmp 4] [] [] [] fun n (a0,a1,_)=>ef_ n (aa_.of a0) a1
def c2_.e:FE:=mkE rd56 240 33 1 [.sl .d .iJson,.i .i64,.i .i64] [.tmp 6] [] [] [] (un3 c2_)
def cP_.e:FE:=mkE rd28 241 33 1 [.sl .d .str,.i .i64,.i .i64] [.tmp 6] [] [] [] (un3 cP_)
def dU_.e:FE:=mkE rd23 187 23 3 [.ag (aa_.p .d),.i .i64] [.cell 4 29] [] [] [] fun n (a0,a1,_)=>dU_ n (aa_.of a0) a1
def da_.e:FE:=mkE rd47 133 77 3 [.ag (aa_.p .d),.sl .v .str,.ag (TOp.p .v)] [.cell 6 29,.tmp 7] [] [] [] fun n (a0,a1,a2,_)=>da_ n (aa_.of a0) a1 (TOp.of a2)
def fo_.e:FE:=mkE rd47 90 35 1 [.ag (aa_.p .v),.ag (TOp.p .v)] [.cell 4 29,.tmp 5] [] [] [] fun n (a0,a1,_)=>fo_ n (aa_.of a0) (TOp.of a1)
def od132:OD:=⟨[(4,.box [.k,.k,.k,.k,.k]),(6,.box [.k,.k,.k,.own .d .iJson,.own .d .str]),(22,.view .iOp),(23,.k),(24,.k)],[.pb 1 0,.pb 2 0,.sl .v .iOp,.i .i64,.i .i64],[.ext,.box [.i .i64,.i .i64,.s,.nils,.nils],.box [.i .i64,.i .i64,.s,.rt 3,.rt 4],.arr .d .iJson 2,.arr .d .str 2]⟩
def od133:OD:=⟨[(4,.box [.k,.k,.k,.k,.k]),(6,.box [.k,.k,.k,.own .d .iJson,.own .d .str])],[.pb 1 0,.pb 2 0],[.ext,.box [.i .i64,.i .i64,.s,.nils,.nils],.box [.i .i64,.i .i64,.s,.rt 3,.rt 4],.arr .d .iJson 2,.arr .d .str 2]⟩
def bl_.e:FE:=mkE rd47 43 40 1 [.ag (aa_.p .v),.sl .v .iOp] [.cell 4 29,.tmp 5] [] [(7,od132)] [(0,od133)] fun n (a0,a1,_)=>bl_ n (aa_.of a0) a1
def dz_.e:FE:=mkE rd54 13 74 1 [.ag (bf_.p .v),.ag (ar_.p .v)] [.cell 4 31] [] [] [] fun n (a0,a1,_)=>dz_ n (bf_.of a0) (ar_.of a1)
def od134:OD:=⟨[(2,.box [.k,.k,.k,.k,.k,.k,.k,.k]),(3,.box [.k,.k,.k,.own .d .iJson,.own .d .str,.k,.k,.k]),(7,.view .iEvent),(8,.k),(9,.k)],[.pb 1 0,.pb 2 0,.sl .v .iEvent,.i .i64,.i .i64],[.ext,.box [.i .i64,.i .i64,.s,.nils,.nils,.i .i64,.b,.b],.box [.i .i64,.i .i64,.s,.rt 3,.rt 4,.i .i64,.b,.b],.arr .d .iJson 2,.arr .d .str 2]⟩
def od135:OD:=⟨[(2,.box [.k,.k,.k,.k,.k,.k,.k,.k]),(3,.box [.k,.k,.k,.own .d .iJson,.own .d .str,.k,.k,.k])],[.pb 1 0,.pb 2 0],[.ext,.box [.i .i64,.i .i64,.s,.nils,.nils,.i .i64,.b,.b],.box [.i .i64,.i .i64,.s,.rt 3,.rt 4,.i .i64,.b,.b],.arr .d .iJson 2,.arr .d .str 2]⟩
def bc_.e:FE:=mkE rd54 10 18 1 [.sl .v .iEvent] [.cell 2 31] [] [(4,od134)] [(0,od135)] (un1 bc_)
def rd57:RD:=⟨bf_×aW_,[.ag (bf_.p .d),.ag (aW_.p .v)],fun (a0,a1,_)=>((bf_.of a0),(aW_.of a1)),fun (a0,a1)=>(bf_.to a0,aW_.to a1,())⟩
def dk_.e:FE:=mkE rd57 33 24 1 [.s] [.cell 2 31,.cell 3 51] [] [] [] (un1 dk_)
def b1_.e:FE:=mkE rd7 73 23 1 [.s] [.tmp 2] [] [(3,od49)] [(0,od9)] (un1 b1_)
def od136:OD:=⟨[(0,.k),(3,.own .d .str),(4,.k),(5,.k)],[.s,.rt 1,.i .i64,.i .i64],[.ext,.arr .d .str 2]⟩
def od137:OD:=⟨[(3,.own .d .str)],[.rt 1],[.ext,.arr .d .str 2]⟩
def bk_.e:FE:=mkE rd28 61 27 1 [.s] [.tmp 2] [] [(5,od136)] [(0,od137)] (un1 bk_)
def cS_.e:FE:=mkE o9_ 62 22 1 [.s,.s] [.tmp 4] [] [] [] (un2 cS_)
def rd58:RD:=⟨Int×be_,[.i .u8,.bx (be_.p .v)],fun (a0,a1,_)=>(a0,(be_.of a1)),fun (a0,a1)=>(a0,be_.to a1,())⟩
def c7_.e:FE:=mkE rd58 152 22 2 [.bx (be_.p .v)] [.tmp 2] [.pb 1 0] [] [] fun n (a0,_)=>c7_ n (be_.of a0)
def od138:OD:=⟨[(0,.box [.k,.k,.k,.k]),(3,.k),(4,.k),(5,.k)],[.pb 1 0,.b,.i .i64,.i .i64],[.ext,.box (be_.p .v)]⟩
def rd59:RD:=⟨Int×be_,[.i .i64,.bx (be_.p .v)],fun (a0,a1,_)=>(a0,(be_.of a1)),fun (a0,a1)=>(a0,be_.to a1,())⟩
def aU_.e:FE:=mkE rd59 107 65 2 [.bx (be_.p .v)] [.tmp 2] [.pb 1 0] [(7,od138)] [(0,od138)] fun n (a0,_)=>aU_ n (be_.of a0)
def eB_.e:FE:=mkE rd55 63 22 1 [.s] [.tmp 2,.tmp 3] [] [] [] (un1 eB_)
def rd60:RD:=⟨be_,[.bx (be_.p .v)],fun (a0,_)=>(be_.of a0),fun r=>(be_.to r,())⟩
def cq_.e:FE:=mkE rd60 153 50 2 [.bx (be_.p .v),.s] [] [.pb 1 0] [] [] fun n (a0,a1,_)=>cq_ n (be_.of a0) a1
def od139:OD:=⟨[(0,.box [.k,.k,.k,.k]),(3,.own .d .u8)],[.pb 1 0,.rt 2],[.ext,.box (be_.p .v),.arr .d .u8 2]⟩
def rd61:RD:=⟨Bs×be_,[.s,.bx (be_.p .v)],fun (a0,a1,_)=>(a0,(be_.of a1)),fun (a0,a1)=>(a0,be_.to a1,())⟩
def aV_.e:FE:=mkE rd61 154 62 2 [.bx (be_.p .v)] [.tmp 2] [.pb 1 0] [(4,od139)] [(0,od139)] fun n (a0,_)=>aV_ n (be_.of a0)
def od140:OD:=⟨[(0,.box [.k,.k,.k,.k]),(1,.k),(4,.box [.k,.k,.k,.k,.k]),(5,.box [.k,.k,.k,.own .d .iJson,.own .d .str]),(6,.k)],[.pb 1 0,.i .i64,.pb 2 0,.pb 3 0,.s],[.ext,.box (be_.p .v),.box [.i .i64,.i .i64,.s,.nils,.nils],.box [.i .i64,.i .i64,.s,.rt 4,.rt 5],.arr .d .iJson 2,.arr .d .str 2]⟩
def od141:OD:=⟨[(0,.box [.k,.k,.k,.k]),(4,.box [.k,.k,.k,.k,.k]),(5,.box [.k,.k,.k,.own .d .iJson,.own .d .str]),(6,.k)],[.pb 1 0,.pb 2 0,.pb 3 0,.s],[.ext,.box (be_.p .v),.box [.i .i64,.i .i64,.s,.nils,.nils],.box [.i .i64,.i .i64,.s,.rt 4,.rt 5],.arr .d .iJson 2,.arr .d .str 2]⟩
def rd62:RD:=⟨aa_×be_,[.ag (aa_.p .d),.bx (be_.p .v)],fun (a0,a1,_)=>((aa_.of a0),(be_.of a1)),fun (a0,a1)=>(aa_.to a0,be_.to a1,())⟩
def bt_.e:FE:=mkE rd62 155 61 2 [.bx (be_.p .v),.i .i64] [.cell 4 29] [.pb 1 0] [(8,od140)] [(0,od141)] fun n (a0,a1,_)=>bt_ n (be_.of a0) a1
def cE_.e:FE:=mkE rd62 108 61 2 [.bx (be_.p .v),.i .i64] [.cell 4 29] [.pb 1 0] [] [] fun n (a0,a1,_)=>cE_ n (be_.of a0) a1
def eX_.e:FE:=mkE rd47 64 41 1 [.s] [.cell 2 29,.tmp 3] [] [] [] (un1 eX_)
def od142:OD:=⟨[(1,.k),(2,.box [.k,.k,.k,.view .iJson,.view .str]),(5,.k)],[.s,.pb 1 0,.i .i64],[.ext,.box (aa_.p .v)]⟩
def cL_.e:FE:=mkE rd7 86 21 1 [.ag (aa_.p .v),.s] [.tmp 4] [] [(3,od142)] [(0,od9)] fun n (a0,a1,_)=>cL_ n (aa_.of a0) a1
def ep_.e:FE:=mkE rd47 109 29 1 [.ag (aa_.p .v),.s] [.cell 4 29,.tmp 5] [] [] [] fun n (a0,a1,_)=>ep_ n (aa_.of a0) a1
def od143:OD:=⟨[(0,.k),(4,.own .d .str),(5,.own .d .str),(6,.own .d .u8),(7,.k)],[.s,.rt 1,.rt 2,.rt 3,.i .i64],[.ext,.arr .d .str 2,.arr .d .str 2,.arr .d .u8 2]⟩
def od144:OD:=⟨[(0,.k),(4,.own .d .str),(5,.own .d .str),(6,.own .d .u8)],[.s,.rt 1,.rt 2,.rt 3],[.ext,.arr .d .str 2,.arr .d .str 2,.arr .d .u8 2]⟩
def a4_.e:FE:=mkE rd48 111 86 1 [.s] [.tmp 2,.tmp 3] [] [(6,od143)] [(0,od144)] (un1 a4_)
def od145:OD:=⟨[(1,.box [.k,.k,.k,.view .iJson,.view .str]),(2,.box [.k,.k,.k,.k,.k,.k,.k]),(4,.box [.k,.k,.k,.k,.k,.k,.k]),(5,.box [.k,.k,.k,.own .d .iJson,.own .d .str]),(7,.box [.k,.k,.k,.own .d .iJson,.own .d .str]),(9,.own .d .str),(10,.k)],[.pb 1 0,.pb 2 0,.pb 3 0,.pb 4 0,.pb 5 0,.rt 6,.i .i64],[.ext,.box (aa_.p .v),.box [.i .i64,.nils,.i .i64,.i .i64,.s,.nils,.nils],.box [.i .i64,.nils,.i .i64,.i .i64,.s,.nils,.nils],.box [.i .i64,.i .i64,.s,.rt 7,.rt 8],.box [.i .i64,.i .i64,.s,.rt 9,.rt 10],.arr .d .str 2,.arr .d .iJson 2,.arr .d .str 2,.arr .d .iJson 2,.arr .d .str 2]⟩
def od146:OD:=⟨[(1,.box [.k,.k,.k,.view .iJson,.view .str]),(2,.box [.k,.k,.k,.k,.k,.k,.k]),(4,.box [.k,.view .str,.k,.k,.k,.view .iJson,.view .str]),(12,.k)],[.pb 1 0,.pb 2 0,.pb 3 0,.b],[.ext,.box (aa_.p .v),.box [.i .i64,.nils,.i .i64,.i .i64,.s,.nils,.nils],.box (TOp.p .v)]⟩
def od147:OD:=⟨[(1,.box [.k,.k,.k,.view .iJson,.view .str]),(2,.box [.k,.k,.k,.k,.k,.k,.k]),(4,.box [.k,.k,.k,.k,.k,.k,.k]),(7,.box [.k,.k,.k,.own .d .iJson,.own .d .str])],[.pb 1 0,.pb 2 0,.pb 3 0,.pb 4 0],[.ext,.box (aa_.p .v),.box [.i .i64,.nils,.i .i64,.i .i64,.s,.nils,.nils],.box [.i .i64,.nils,.i .i64,.i .i64,.s,.nils,.nils],.box [.i .i64,.i .i64,.s,.rt 5,.rt 6],.arr .d .iJson 2,.arr .d .str 2]⟩
def rd63:RD:=⟨TOp×Bool,[.ag (TOp.p .v),.b],fun (a0,a1,_)=>((TOp.of a0),a1),fun (a0,a1)=>(TOp.to a0,a1,())⟩
def bz_.e:FE:=mkE rd63 65 78 1 [.ag (aa_.p .v)] [.cell 2 87,.tmp 3] [] [(7,od145),(15,od146)] [(0,od147)] fun n (a0,_)=>bz_ n (aa_.of a0)
def od148:OD:=⟨[(0,.k),(2,.box [.k,.k,.k,.k,.k,.k,.k,.k,.k]),(4,.box [.k,.k,.k,.k,.k,.k,.own .d .iJson,.own .d .str,.own .s .iOp]),(5,.own .d .str),(6,.k)],[.s,.pb 1 0,.pb 2 0,.rt 3,.i .i64],[.ext,.box [.i .i64,.i .i64,.i .i64,.i .i64,.i .i64,.s,.nils,.nils,.nils],.box [.i .i64,.i .i64,.i .i64,.i .i64,.i .i64,.s,.rt 4,.rt 5,.rt 6],.arr .d .str 2,.arr .d .iJson 2,.arr .d .str 2,.arr .s .iOp 2]⟩
def od149:OD:=⟨[(0,.k),(2,.box [.k,.k,.k,.k,.k,.k,.k,.k,.k]),(4,.box [.k,.k,.k,.k,.k,.k,.own .d .iJson,.own .d .str,.own .s .iOp]),(5,.own .d .str),(6,.k),(8,.box [.k,.k,.k,.own .s .iJson,.own .d .str]),(10,.k)],[.s,.pb 1 0,.pb 2 0,.rt 3,.i .i64,.pb 4 0,.i .i64],[.ext,.box [.i .i64,.i .i64,.i .i64,.i .i64,.i .i64,.s,.nils,.nils,.nils],.box [.i .i64,.i .i64,.i .i64,.i .i64,.i .i64,.s,.rt 5,.rt 6,.rt 7],.arr .d .str 2,.box [.i .i64,.i .i64,.s,.rt 8,.rt 9],.arr .d .iJson 2,.arr .d .str 2,.arr .s .iOp 2,.arr .s .iJson 2,.arr .d .str 2]⟩
def od150:OD:=⟨[(0,.k),(2,.box [.k,.k,.k,.k,.k,.k,.k,.k,.k]),(4,.box [.k,.k,.k,.k,.k,.k,.own .d .iJson,.own .d .str,.own .s .iOp])],[.s,.pb 1 0,.pb 2 0],[.ext,.box [.i .i64,.i .i64,.i .i64,.i .i64,.i .i64,.s,.nils,.nils,.nils],.box [.i .i64,.i .i64,.i .i64,.i .i64,.i .i64,.s,.rt 3,.rt 4,.rt 5],.arr .d .iJson 2,.arr .d .str 2,.arr .s .iOp 2]⟩
def rd64:RD:=⟨ar_×Bool,[.ag [.i .i64,.i .i64,.i .i64,.i .i64,.i .i64,.s,.sl .d .iJson,.sl .d .str,.sl .s .iOp],.b],fun (a0,a1,_)=>((ar_.of a0),a1),fun (a0,a1)=>(ar_.to a0,a1,())⟩
def ae_.e:FE:=mkE rd64 21 110 1 [.s] [.cell 2 35,.tmp 3] [] [(20,od149),(5,od148)] [(0,od150),(3,od148)] (un1 ae_)
def od151:OD:=⟨[(4,.box [.k,.k]),(6,.own .s .iEvent),(7,.box [.k,.k]),(8,.k)],[.pb 1 0,.rt 2,.pb 3 0,.s],[.ext,.box (aW_.p .v),.arr .s .iEvent 2,.box (aW_.p .v)]⟩
def rd65:RD:=⟨aW_×(List ar_),[.ag (aW_.p .v),.sl .s .iEvent],fun (a0,a1,_)=>((aW_.of a0),a1),fun (a0,a1)=>(aW_.to a0,a1,())⟩
def ct_.e:FE:=mkE rd65 31 52 1 [.ag (aW_.p .v),.s] [.cell 4 51,.tmp 5] [] [(8,od151)] [(0,od151)] fun n (a0,a1,_)=>ct_ n (aW_.of a0) a1
def et_.e:FE:=mkE rd54 44 13 1 [.ag (bf_.p .v)] [.cell 2 31] [] [] [] fun n (a0,_)=>et_ n (bf_.of a0)
def es_.e:FE:=mkE rd47 190 21 3 [.ag (aa_.p .d),.ag (TOp.p .v)] [.cell 4 29,.tmp 5] [] [] [] fun n (a0,a1,_)=>es_ n (aa_.of a0) (TOp.of a1)
def od152:OD:=⟨[(0,.k),(3,.k),(4,.k)],[.s,.i .i64,.i .i64],[.ext]⟩
def bw_.e:FE:=mkE rd7 232 41 1 [.s] [.tmp 2] [] [(7,od152)] [(0,od49)] (un1 bw_)
def fr_.e:FE:=mkE rd7 181 23 1 [.ag (aa_.p .v),.s] [.tmp 4] [] [] [] fun n (a0,a1,_)=>fr_ n (aa_.of a0) a1
def fh_.e:FE:=mkE rd38 242 58 3 [.ag (aa_.p .d),.s,.ag (TOp.p .v)] [.cell 6 29,.tmp 7] [] [] [] fun n (a0,a1,a2,_)=>fh_ n (aa_.of a0) a1 (TOp.of a2)
def od153:OD:=⟨[(3,.box [.k,.k,.k,.view .iJson,.own .d .str]),(6,.box [.k,.k,.k,.k,.k]),(8,.k)],[.pb 3 0,.pb 4 0,.i .i64],[.ext,.non,.arr .d .str 2,.box [.i .i64,.i .i64,.s,.sl .v .iJson,.rt 2],.box [.i .i64,.i .i64,.s,.nils,.nils]]⟩
def od154:OD:=⟨[(3,.box [.k,.k,.k,.own .s .iJson,.view .str]),(6,.box [.k,.k,.k,.k,.k]),(8,.k),(62,.k)],[.pb 3 0,.pb 4 0,.i .i64,.b],[.ext,.non,.non,.box [.i .i64,.i .i64,.s,.rt 5,.sl .v .str],.box [.i .i64,.i .i64,.s,.nils,.nils],.arr .s .iJson 2]⟩
def od155:OD:=⟨[(3,.box [.k,.k,.k,.own .s .iJson,.view .str]),(6,.box [.k,.k,.k,.k,.k])],[.pb 3 0,.pb 4 0],[.ext,.non,.non,.box [.i .i64,.i .i64,.s,.rt 5,.sl .v .str],.box [.i .i64,.i .i64,.s,.nils,.nils],.arr .s .iJson 2]⟩
def rd66:RD:=⟨aa_×Bool,[.ag [.i .i64,.i .i64,.s,.sl .s .iJson,.sl .v .str],.b],fun (a0,a1,_)=>((aa_.of a0),a1),fun (a0,a1)=>(aa_.to a0,a1,())⟩
def dH_.e:FE:=⟨_,⟨191,77,3,[.ag (aa_.p .d),.s,.ag (TOp.p .v)],rd66.rp,rd66.toR,rd66.ofR,[.ag [.v,.v,.v,.o,.o],.v,.ag [.v,.v,.v,.v,.v,.v,.v]],[.ag [.v,.v,.v,.o,.v],.v],[.ag [.k,.k,.k,.own .s .iJson,.view .str],.k],[.cell 6 29,.tmp 7],[],[(17,od154),(8,od153)],[(17,od155)],[]⟩,fun _=>true,fun n (a0,a1,a2,_)=>dH_ n (aa_.of a0) a1 (TOp.of a2)⟩
def dC_.e:FE:=mkE rd66 136 57 3 [.ag (aa_.p .d),.sl .v .str,.ag (TOp.p .v)] [.cell 6 29,.tmp 7] [] [] [] fun n (a0,a1,a2,_)=>dC_ n (aa_.of a0) a1 (TOp.of a2)
def fj_.e:FE:=mkE rd66 94 35 1 [.ag (aa_.p .v),.ag (TOp.p .v)] [.cell 4 29,.tmp 5] [] [] [] fun n (a0,a1,_)=>fj_ n (aa_.of a0) (TOp.of a1)
def od156:OD:=⟨[(1,.view .iOp),(4,.box [.k,.k,.k,.k,.k]),(6,.box [.k,.k,.k,.own .s .iJson,.view .str]),(7,.k)],[.sl .v .iOp,.pb 1 0,.pb 2 0,.i .i64],[.ext,.box [.i .i64,.i .i64,.s,.nils,.nils],.box [.i .i64,.i .i64,.s,.rt 3,.sl .v .str],.arr .s .iJson 2]⟩
def od157:OD:=⟨[(4,.box [.k,.k,.k,.k,.k]),(6,.box [.k,.k,.k,.own .s .iJson,.view .str])],[.pb 1 0,.pb 2 0],[.ext,.box [.i .i64,.i .i64,.s,.nils,.nils],.box [.i .i64,.i .i64,.s,.rt 3,.sl .v .str],.arr .s .iJson 2]⟩
def bo_.e:FE:=mkE rd66 47 41 1 [.ag (aa_.p .v),.sl .v .iOp] [.cell 4 29,.tmp 5] [] [(7,od156)] [(0,od157)] fun n (a0,a1,_)=>bo_ n (aa_.of a0) a1
def rd67:RD:=⟨bf_,[.ag [.i .i64,.i .i64,.s,.sl .s .iJson,.sl .v .str,.i .i64,.b,.b]],fun (a0,_)=>(bf_.of a0),fun r=>(bf_.to r,())⟩
def dw_.e:FE:=mkE rd67 14 64 1 [.ag (bf_.p .v),.ag (ar_.p .v)] [.cell 4 31] [] [] [] fun n (a0,a1,_)=>dw_ n (bf_.of a0) (ar_.of a1)
def od158:OD:=⟨[(0,.view .iEvent),(2,.box [.k,.k,.k,.k,.k,.k,.k,.k]),(3,.box [.k,.k,.k,.own .s .iJson,.view .str,.k,.k,.k]),(4,.k)],[.sl .v .iEvent,.pb 1 0,.pb 2 0,.i .i64],[.ext,.box [.i .i64,.i .i64,.s,.nils,.nils,.i .i64,.b,.b],.box [.i .i64,.i .i64,.s,.rt 3,.sl .v .str,.i .i64,.b,.b],.arr .s .iJson 2]⟩
def od159:OD:=⟨[(2,.box [.k,.k,.k,.k,.k,.k,.k,.k]),(3,.box [.k,.k,.k,.own .s .iJson,.view .str,.k,.k,.k])],[.pb 1 0,.pb 2 0],[.ext,.box [.i .i64,.i .i64,.s,.nils,.nils,.i .i64,.b,.b],.box [.i .i64,.i .i64,.s,.rt 3,.sl .v .str,.i .i64,.b,.b],.arr .s .iJson 2]⟩
def bb_.e:FE:=mkE rd67 11 19 1 [.sl .v .iEvent] [.cell 2 31] [] [(4,od158)] [(0,od159)] (un1 bb_)
def rd68:RD:=⟨bf_×aW_,[.ag [.i .i64,.i .i64,.s,.sl .s .iJson,.sl .v .str,.i .i64,.b,.b],.ag (aW_.p .v)],fun (a0,a1,_)=>((bf_.of a0),(aW_.of a1)),fun (a0,a1)=>(bf_.to a0,aW_.to a1,())⟩
def d9_.e:FE:=mkE rd68 34 24 1 [.s] [.cell 2 31,.cell 3 51] [] [] [] (un1 d9_)
def hW_.e:FE:=mkE rd7 35 20 1 [.sl .v .u8,.i .i64] [.tmp 4] [] [] [] (un2 hW_)
def laws_FnHeard.e:FE:=mkE rd0 7 85 1 [.sl .v .u8] [.tmp 2] [] [] [] (un1 laws_FnHeard)
def ents:List FE:=[laws_FnHeard.e,gG_.e,bc_.e,bb_.e,dz_.e,dw_.e,dX_.e,ds_.e,ei_.e,dd_.e,ae_.e,cv_.e,ct_.e,aL_.e,dk_.e,d9_.e,hW_.e,aq_.e,ce_.e,ap_.e,dy_.e,aw_.e,bl_.e,et_.e,ed_.e,aF_.e,bo_.e,eE_.e,dL_.e,bs_.e,aN_.e,c9_.e,bP_.e,dt_.e,aI_.e,em_.e,dV_.e,eg_.e,bk_.e,cS_.e,eB_.e,eX_.e,bz_.e,fi_.e,cT_.e,cV_.e,strings_Index.e,b1_.e,aP_.e,ev_.e,ah_.e,dR_.e,br_.e,az_.e,dJ_.e,b8_.e,dI_.e,cL_.e,bM_.e,dh_.e,c0_.e,fo_.e,b4_.e,an_.e,cH_.e,fj_.e,strconv_Itoa.e,a9_.e,eF_.e,aO_.e,ek_.e,cX_.e,d1_.e,dg_.e,eG_.e,cR_.e,ch_.e,aU_.e,cE_.e,ep_.e,dD_.e,a4_.e,dT_.e,ca_.e,d8_.e,aK_.e,aZ_.e,b2_.e,ec_.e,ew_.e,dE_.e,eu_.e,dr_.e,c8_.e,bD_.e,bx_.e,e1_.e,dO_.e,aS_.e,bI_.e,cu_.e,da_.e,aR_.e,cs_.e,dC_.e,bY_.e,strings_Join.e,dF_.e,bT_.e,eD_.e,bv_.e,aE_.e,bS_.e,eV_.e,b6_.e,bH_.e,eY_.e,c7_.e,cq_.e,aV_.e,bt_.e,a1_.e,dN_.e,bG_.e,a5_.e,ay_.e,eA_.e,bL_.e,aQ_.e,cg_.e,ba_.e,a3_.e,dS_.e,fk_.e,bq_.e,cd_.e,fs_.e,bX_.e,b3_.e,fl_.e,fK_.e,dv_.e,fr_.e,fn_.e,av_.e,fm_.e,ez_.e,ef_.e,dU_.e,b5_.e,ad_.e,es_.e,dH_.e,strings_ReplaceAll.e,bi_.e,cm_.e,bN_.e,de_.e,aD_.e,as_.e,aB_.e,eN_.e,bE_.e,aC_.e,ea_.e,bh_.e,cf_.e,cB_.e,bR_.e,bW_.e,dQ_.e,bQ_.e,du_.e,dm_.e,b7_.e,bK_.e,b0_.e,eW_.e,aJ_.e,aG_.e,cl_.e,bV_.e,bw_.e,bm_.e,au_.e,d2_.e,al_.e,cO_.e,cF_.e,eh_.e,c2_.e,cP_.e,fh_.e,cy_.e,strings_Split.e,eb_.e,e2_.e,cA_.e,dp_.e,dP_.e,aH_.e,af_.e,dl_.e,cp_.e,cY_.e]
def fzL:List Nat:=[11,14,21,31,34,36,37,39,47,53,65,71,74,75,76,77,78,79,80,81,84,87,94,99,115,116,117,120,126,127,128,136,162,163,166,168,173,179,180,191,219,221,222,227,242]
def cx (n nt:Nat):Cx:=⟨nt,tt,sigE ents,KE n ents,fun f=>fzL.any (Nat.beq f)⟩
theorem okk {n:Nat}{e:FE}{fn:Func}(s:Stps e.R e.d.cut)(k:E.P.funcs[e.d.fid]?=some fn) (h:e.L (cx n e.d.nt) fn n s=e.Q (cx n e.d.nt) fn (e.F (n+1)) s):e.Oks E (cx n) n:=FE.ok s mixedOk k h
section
open Go.Proofs
theorem gG_.ok (n:Nat):gG_.e.Oks E (cx n) n:=okk () Tryz.func8 (by kernel_rfl)
theorem ce_.ok (n:Nat):ce_.e.Oks E (cx n) n:=okk (.lp fun κe=>ce_.step4 n (od1.k (κe 0)),()) Tryz.func37 (by kernel_rfl)
theorem dI_.ok (n:Nat):dI_.e.Oks E (cx n) n:=okk () Tryz.func84 (by kernel_rfl)
theorem ap_.ok (n:Nat):ap_.e.Oks E (cx n) n:=okk () Tryz.func39 (by kernel_rfl)
theorem aK_.ok (n:Nat):aK_.e.Oks E (cx n) n:=okk (.lp fun κe=>aK_.step4 n (od3.k (κe 0)),()) Tryz.func115 (by kernel_rfl)
theorem b4_.ok (n:Nat):b4_.e.Oks E (cx n) n:=okk () Tryz.func91 (by kernel_rfl)
theorem a1_.ok (n:Nat):a1_.e.Oks E (cx n) n:=okk (.lp fun κe=>a1_.step3 n (od5.k (κe 0)),()) Tryz.func160 (by kernel_rfl)
theorem dN_.ok (n:Nat):dN_.e.Oks E (cx n) n:=okk () Tryz.func161 (by kernel_rfl)
theorem d8_.ok (n:Nat):d8_.e.Oks E (cx n) n:=okk () Tryz.func114 (by kernel_rfl)
theorem a5_.ok (n:Nat):a5_.e.Oks E (cx n) n:=okk (.lp fun κe=>a5_.step4 n (od7.k (κe 0)),()) Tryz.func163 (by kernel_rfl)
theorem cf_.ok (n:Nat):cf_.e.Oks E (cx n) n:=okk (.lp fun κe=>cf_.step3 n (od9.k (κe 0)),()) Tryz.func216 (by kernel_rfl)
theorem cB_.ok (n:Nat):cB_.e.Oks E (cx n) n:=okk () Tryz.func217 (by kernel_rfl)
theorem bh_.ok (n:Nat):bh_.e.Oks E (cx n) n:=okk (.lp fun κe=>bh_.step5 n (od11.k (κe 0)),()) Tryz.func215 (by kernel_rfl)
theorem bG_.ok (n:Nat):bG_.e.Oks E (cx n) n:=okk (.lp fun κe=>bG_.step6 n (od13.k (κe 0)),()) Tryz.func162 (by kernel_rfl)
theorem aZ_.ok (n:Nat):aZ_.e.Oks E (cx n) n:=okk (.lp fun κe=>aZ_.step4 n (od15.k (κe 0)),()) Tryz.func116 (by kernel_rfl)
theorem aP_.ok (n:Nat):aP_.e.Oks E (cx n) n:=okk (.lp fun κe=>aP_.step4 n (od17.k (κe 0)),()) Tryz.func74 (by kernel_rfl)
theorem cT_.ok (n:Nat):cT_.e.Oks E (cx n) n:=okk () Tryz.func69 (by kernel_rfl)
theorem cV_.ok (n:Nat):cV_.e.Oks E (cx n) n:=okk () Tryz.func71 (by kernel_rfl)
theorem b8_.ok (n:Nat):b8_.e.Oks E (cx n) n:=okk () Tryz.func81 (by kernel_rfl)
theorem ah_.ok (n:Nat):ah_.e.Oks E (cx n) n:=okk (.lp fun κe=>ah_.step7 n (od20.k (κe 0)),.lp fun κe=>ah_.step16 n (od21.k (κe 2)),()) Tryz.func76 (by kernel_rfl)
theorem cl_.ok (n:Nat):cl_.e.Oks E (cx n) n:=okk (.lp fun κe=>cl_.step6 n (od9.k (κe 0)),()) Tryz.func230 (by kernel_rfl)
theorem b3_.ok (n:Nat):b3_.e.Oks E (cx n) n:=okk (.lp fun κe=>b3_.step3 n (od24.k (κe 0)),()) Tryz.func177 (by kernel_rfl)
theorem bD_.ok (n:Nat):bD_.e.Oks E (cx n) n:=okk (.lp fun κe=>bD_.step6 n (od9.k (κe 0)),()) Tryz.func124 (by kernel_rfl)
theorem ay_.ok (n:Nat):ay_.e.Oks E (cx n) n:=okk (.lp fun κe=>ay_.step7 n (od28.k (κe 0)),.lp fun κe=>ay_.step16 n (od28.k (κe 2)),()) Tryz.func164 (by kernel_rfl)
theorem eA_.ok (n:Nat):eA_.e.Oks E (cx n) n:=okk () Tryz.func165 (by kernel_rfl)
theorem eb_.ok (n:Nat):eb_.e.Oks E (cx n) n:=okk () Tryz.func255 (by kernel_rfl)
theorem bR_.ok (n:Nat):bR_.e.Oks E (cx n) n:=okk (.lp fun κe=>bR_.step3 n (od9.k (κe 0)),()) Tryz.func218 (by kernel_rfl)
theorem bV_.ok (n:Nat):bV_.e.Oks E (cx n) n:=okk () Tryz.func231 (by kernel_rfl)
theorem e2_.ok (n:Nat):e2_.e.Oks E (cx n) n:=okk () Tryz.func256 (by kernel_rfl)
theorem bW_.ok (n:Nat):bW_.e.Oks E (cx n) n:=okk (.lp fun κe=>bW_.step5 n (od31.k (κe 0)),()) Tryz.func219 (by kernel_rfl)
theorem bL_.ok (n:Nat):bL_.e.Oks E (cx n) n:=okk (.lp fun κe=>bL_.step8 n (od33.k (κe 0)),()) Tryz.func166 (by kernel_rfl)
theorem aQ_.ok (n:Nat):aQ_.e.Oks E (cx n) n:=okk (.lp fun κe=>aQ_.step5 n (od35.k (κe 0)),()) Tryz.func167 (by kernel_rfl)
theorem b2_.ok (n:Nat):b2_.e.Oks E (cx n) n:=okk (.lp fun κe=>b2_.step8 n (od37.k (κe 0)),()) Tryz.func117 (by kernel_rfl)
theorem ev_.ok (n:Nat):ev_.e.Oks E (cx n) n:=okk () Tryz.func75 (by kernel_rfl)
theorem bX_.ok (n:Nat):bX_.e.Oks E (cx n) n:=okk (.lp fun κe=>bX_.step4 n (od39.k (κe 0)),()) Tryz.func176 (by kernel_rfl)
theorem c8_.ok (n:Nat):c8_.e.Oks E (cx n) n:=okk () Tryz.func123 (by kernel_rfl)
theorem ec_.ok (n:Nat):ec_.e.Oks E (cx n) n:=okk () Tryz.func118 (by kernel_rfl)
theorem b7_.ok (n:Nat):b7_.e.Oks E (cx n) n:=okk (.lp fun κe=>b7_.step3 n (od9.k (κe 0)),()) Tryz.func224 (by kernel_rfl)
theorem ba_.ok (n:Nat):ba_.e.Oks E (cx n) n:=okk (.lp fun κe=>ba_.step4 n (od42.k (κe 0)),()) Tryz.func169 (by kernel_rfl)
theorem fi_.ok (n:Nat):fi_.e.Oks E (cx n) n:=okk () Tryz.func68 (by kernel_rfl)
theorem dQ_.ok (n:Nat):dQ_.e.Oks E (cx n) n:=okk () Tryz.func220 (by kernel_rfl)
theorem aN_.ok (n:Nat):aN_.e.Oks E (cx n) n:=okk (.lp fun κe=>aN_.step7 n (od44.k (κe 0)),()) Tryz.func51 (by kernel_rfl)
theorem dm_.ok (n:Nat):dm_.e.Oks E (cx n) n:=okk () Tryz.func223 (by kernel_rfl)
theorem bM_.ok (n:Nat):bM_.e.Oks E (cx n) n:=okk (.lp fun κe=>bM_.step5 n (od46.k (κe 0)),()) Tryz.func87 (by kernel_rfl)
theorem bQ_.ok (n:Nat):bQ_.e.Oks E (cx n) n:=okk (.lp fun κe=>bQ_.step4 n (od48.k (κe 0)),()) Tryz.func221 (by kernel_rfl)
theorem b5_.ok (n:Nat):b5_.e.Oks E (cx n) n:=okk (.lp fun κe=>b5_.step3 n (od50.k (κe 0)),()) Tryz.func188 (by kernel_rfl)
theorem ad_.ok (n:Nat):ad_.e.Oks E (cx n) n:=okk (.lp fun κe=>ad_.step6 n (od52.k (κe 0)),()) Tryz.func189 (by kernel_rfl)
theorem aR_.ok (n:Nat):aR_.e.Oks E (cx n) n:=okk (.lp fun κe=>aR_.step23 n (aR_ n) (od54.k (κe 1)),()) Tryz.func134 (by kernel_rfl)
theorem cH_.ok (n:Nat):cH_.e.Oks E (cx n) n:=okk () Tryz.func93 (by kernel_rfl)
theorem du_.ok (n:Nat):du_.e.Oks E (cx n) n:=okk () Tryz.func222 (by kernel_rfl)
theorem cg_.ok (n:Nat):cg_.e.Oks E (cx n) n:=okk (.lp fun κe=>cg_.step4 n (od56.k (κe 0)),()) Tryz.func168 (by kernel_rfl)
theorem dE_.ok (n:Nat):dE_.e.Oks E (cx n) n:=okk () Tryz.func120 (by kernel_rfl)
theorem an_.ok (n:Nat):an_.e.Oks E (cx n) n:=okk (.lp fun κe=>an_.step6 n (an_ n) (od59.k (κe 0)),.lp fun κe=>an_.step14 n (an_ n) (od9.k (κe 2)),()) Tryz.func92 (by kernel_rfl)
theorem dT_.ok (n:Nat):dT_.e.Oks E (cx n) n:=okk () Tryz.func112 (by kernel_rfl)
theorem ew_.ok (n:Nat):ew_.e.Oks E (cx n) n:=okk () Tryz.func119 (by kernel_rfl)
theorem bK_.ok (n:Nat):bK_.e.Oks E (cx n) n:=okk (.lp fun κe=>bK_.step3 n (od61.k (κe 0)),()) Tryz.func225 (by kernel_rfl)
theorem b0_.ok (n:Nat):b0_.e.Oks E (cx n) n:=okk (.lp fun κe=>b0_.step3 n (od63.k (κe 0)),()) Tryz.func226 (by kernel_rfl)
theorem dS_.ok (n:Nat):dS_.e.Oks E (cx n) n:=okk () Tryz.func171 (by kernel_rfl)
theorem fk_.ok (n:Nat):fk_.e.Oks E (cx n) n:=okk () Tryz.func172 (by kernel_rfl)
theorem eW_.ok (n:Nat):eW_.e.Oks E (cx n) n:=okk () Tryz.func227 (by kernel_rfl)
theorem bq_.ok (n:Nat):bq_.e.Oks E (cx n) n:=okk (.lp fun κe=>bq_.step5 n (od65.k (κe 0)),()) Tryz.func173 (by kernel_rfl)
theorem cA_.ok (n:Nat):cA_.e.Oks E (cx n) n:=okk (.lp fun κe=>cA_.step3 n (od9.k (κe 0)),()) Tryz.func257 (by kernel_rfl)
theorem aJ_.ok (n:Nat):aJ_.e.Oks E (cx n) n:=okk (.lp fun κe=>aJ_.step3 n (od69.k (κe 0)),.lp fun κe=>aJ_.step11 n (od69.k (κe 2)),()) Tryz.func228 (by kernel_rfl)
theorem dp_.ok (n:Nat):dp_.e.Oks E (cx n) n:=okk () Tryz.func258 (by kernel_rfl)
theorem aF_.ok (n:Nat):aF_.e.Oks E (cx n) n:=okk (.lp fun κe=>aF_.step4 n (aF_ n) (od71.k (κe 0)),()) Tryz.func46 (by kernel_rfl)
theorem dP_.ok (n:Nat):dP_.e.Oks E (cx n) n:=okk () Tryz.func259 (by kernel_rfl)
theorem aG_.ok (n:Nat):aG_.e.Oks E (cx n) n:=okk (.lp fun κe=>aG_.step5 n (od74.k (κe 0)),.lp fun κe=>aG_.step13 n (od75.k (κe 2)),()) Tryz.func229 (by kernel_rfl)
theorem fs_.ok (n:Nat):fs_.e.Oks E (cx n) n:=okk () Tryz.func175 (by kernel_rfl)
theorem cd_.ok (n:Nat):cd_.e.Oks E (cx n) n:=okk (.lp fun κe=>cd_.step4 n (od77.k (κe 0)),()) Tryz.func174 (by kernel_rfl)
theorem dr_.ok (n:Nat):dr_.e.Oks E (cx n) n:=okk () Tryz.func122 (by kernel_rfl)
theorem cs_.ok (n:Nat):cs_.e.Oks E (cx n) n:=okk (.lp fun κe=>cs_.step6 n (od79.k (κe 0)),()) Tryz.func135 (by kernel_rfl)
theorem dD_.ok (n:Nat):dD_.e.Oks E (cx n) n:=okk () Tryz.func110 (by kernel_rfl)
theorem aE_.ok (n:Nat):aE_.e.Oks E (cx n) n:=okk (.lp fun κe=>aE_.step10 n (od80.k (κe 2)),.lp fun κe=>aE_.step4 n (od82.k (κe 0)),()) Tryz.func144 (by kernel_rfl)
theorem ek_.ok (n:Nat):ek_.e.Oks E (cx n) n:=okk () Tryz.func99 (by kernel_rfl)
theorem bv_.ok (n:Nat):bv_.e.Oks E (cx n) n:=okk (.lp fun κe=>bv_.step4 n (od82.k (κe 0)),()) Tryz.func143 (by kernel_rfl)
theorem aO_.ok (n:Nat):aO_.e.Oks E (cx n) n:=okk (.lp fun κe=>aO_.step17 n (aO_ n) (od85.k (κe 1)),()) Tryz.func98 (by kernel_rfl)
theorem c9_.ok (n:Nat):c9_.e.Oks E (cx n) n:=okk () Tryz.func52 (by kernel_rfl)
theorem a3_.ok (n:Nat):a3_.e.Oks E (cx n) n:=okk (.lp fun κe=>a3_.step4 n (od87.k (κe 0)),()) Tryz.func170 (by kernel_rfl)
theorem eu_.ok (n:Nat):eu_.e.Oks E (cx n) n:=okk () Tryz.func121 (by kernel_rfl)
theorem dR_.ok (n:Nat):dR_.e.Oks E (cx n) n:=okk () Tryz.func77 (by kernel_rfl)
theorem dO_.ok (n:Nat):dO_.e.Oks E (cx n) n:=okk () Tryz.func127 (by kernel_rfl)
theorem fl_.ok (n:Nat):fl_.e.Oks E (cx n) n:=okk () Tryz.func178 (by kernel_rfl)
theorem bx_.ok (n:Nat):bx_.e.Oks E (cx n) n:=okk (.lp fun κe=>bx_.step4 n (od89.k (κe 0)),()) Tryz.func125 (by kernel_rfl)
theorem fK_.ok (n:Nat):fK_.e.Oks E (cx n) n:=okk () Tryz.func179 (by kernel_rfl)
theorem e1_.ok (n:Nat):e1_.e.Oks E (cx n) n:=okk () Tryz.func126 (by kernel_rfl)
theorem az_.ok (n:Nat):az_.e.Oks E (cx n) n:=okk (.tl fun κd _=>az_.tail9 n (od90.k κd),.lp fun κe=>az_.step5 n (od92.k (κe 0)),()) Tryz.func79 (by kernel_rfl)
theorem br_.ok (n:Nat):br_.e.Oks E (cx n) n:=okk (.lp fun κe=>br_.step12 n (od94.k (κe 0)),()) Tryz.func78 (by kernel_rfl)
theorem dv_.ok (n:Nat):dv_.e.Oks E (cx n) n:=okk () Tryz.func180 (by kernel_rfl)
theorem aS_.ok (n:Nat):aS_.e.Oks E (cx n) n:=okk (.lp fun κe=>aS_.step4 n (od96.k (κe 0)),()) Tryz.func128 (by kernel_rfl)
theorem dJ_.ok (n:Nat):dJ_.e.Oks E (cx n) n:=okk () Tryz.func80 (by kernel_rfl)
theorem aq_.ok (n:Nat):aq_.e.Oks E (cx n) n:=okk (.tl fun κd _=>aq_.tail8 n (od98.k κd),.lp fun κe=>aq_.step7 n (od99.k (κe 0)),.tl fun _ _=>aq_.tail1 n,()) Tryz.func36 (by kernel_rfl)
theorem bP_.ok (n:Nat):bP_.e.Oks E (cx n) n:=okk (.lp fun κe=>bP_.step4 n (od101.k (κe 0)),()) Tryz.func53 (by kernel_rfl)
theorem ed_.ok (n:Nat):ed_.e.Oks E (cx n) n:=okk () Tryz.func45 (by kernel_rfl)
theorem ds_.ok (n:Nat):ds_.e.Oks E (cx n) n:=okk () Tryz.func17 (by kernel_rfl)
theorem aL_.ok (n:Nat):aL_.e.Oks E (cx n) n:=okk (.lp fun κe=>aL_.step6 n (od103.k (κe 0)),()) Tryz.func32 (by kernel_rfl)
theorem bi_.ok (n:Nat):bi_.e.Oks E (cx n) n:=okk () Tryz.func197 (by kernel_rfl)
theorem bS_.ok (n:Nat):bS_.e.Oks E (cx n) n:=okk () Tryz.func145 (by kernel_rfl)
theorem cX_.ok (n:Nat):cX_.e.Oks E (cx n) n:=okk () Tryz.func100 (by kernel_rfl)
theorem cm_.ok (n:Nat):cm_.e.Oks E (cx n) n:=okk () Tryz.func198 (by kernel_rfl)
theorem eV_.ok (n:Nat):eV_.e.Oks E (cx n) n:=okk () Tryz.func146 (by kernel_rfl)
theorem bH_.ok (n:Nat):bH_.e.Oks E (cx n) n:=okk () Tryz.func150 (by kernel_rfl)
theorem cR_.ok (n:Nat):cR_.e.Oks E (cx n) n:=okk () Tryz.func104 (by kernel_rfl)
theorem d1_.ok (n:Nat):d1_.e.Oks E (cx n) n:=okk () Tryz.func101 (by kernel_rfl)
theorem bN_.ok (n:Nat):bN_.e.Oks E (cx n) n:=okk () Tryz.func204 (by kernel_rfl)
theorem de_.ok (n:Nat):de_.e.Oks E (cx n) n:=okk () Tryz.func205 (by kernel_rfl)
theorem cy_.ok (n:Nat):cy_.e.Oks E (cx n) n:=okk () Tryz.func253 (by kernel_rfl)
theorem aD_.ok (n:Nat):aD_.e.Oks E (cx n) n:=okk (.lp fun κe=>aD_.step4 n (od105.k (κe 0)),()) Tryz.func206 (by kernel_rfl)
theorem as_.ok (n:Nat):as_.e.Oks E (cx n) n:=okk (.lp fun κe=>as_.step7 n (b6_ n) (od107.k (κe 0)),()) Tryz.func207 (by kernel_rfl)
theorem aI_.ok (n:Nat):aI_.e.Oks E (cx n) n:=okk () Tryz.func55 (by kernel_rfl)
theorem aB_.ok (n:Nat):aB_.e.Oks E (cx n) n:=okk (.lp fun κe=>aB_.step3 n (od108.k (κe 0)),()) Tryz.func208 (by kernel_rfl)
theorem b6_.ok (n:Nat):b6_.e.Oks E (cx n) n:=okk () Tryz.func149 (by kernel_rfl)
theorem bm_.ok (n:Nat):bm_.e.Oks E (cx n) n:=okk () Tryz.func233 (by kernel_rfl)
theorem av_.ok (n:Nat):av_.e.Oks E (cx n) n:=okk (.lp fun κe=>av_.step3 n (od50.k (κe 0)),()) Tryz.func183 (by kernel_rfl)
theorem au_.ok (n:Nat):au_.e.Oks E (cx n) n:=okk (.lp fun κe=>au_.step3 n (od9.k (κe 0)),()) Tryz.func234 (by kernel_rfl)
theorem fn_.ok (n:Nat):fn_.e.Oks E (cx n) n:=okk () Tryz.func182 (by kernel_rfl)
theorem bI_.ok (n:Nat):bI_.e.Oks E (cx n) n:=okk (.lp fun κe=>bI_.step7 n (bI_ n) (od112.k (κe 0)),()) Tryz.func131 (by kernel_rfl)
theorem c0_.ok (n:Nat):c0_.e.Oks E (cx n) n:=okk () Tryz.func89 (by kernel_rfl)
theorem bY_.ok (n:Nat):bY_.e.Oks E (cx n) n:=okk (.lp fun κe=>bY_.step4 n (od82.k (κe 0)),()) Tryz.func138 (by kernel_rfl)
theorem a9_.ok (n:Nat):a9_.e.Oks E (cx n) n:=okk (.lp fun κe=>a9_.step4 n (a9_ n) (od115.k (κe 0)),()) Tryz.func96 (by kernel_rfl)
theorem dL_.ok (n:Nat):dL_.e.Oks E (cx n) n:=okk () Tryz.func49 (by kernel_rfl)
theorem eG_.ok (n:Nat):eG_.e.Oks E (cx n) n:=okk () Tryz.func103 (by kernel_rfl)
theorem aC_.ok (n:Nat):aC_.e.Oks E (cx n) n:=okk (.lp fun κe=>aC_.step3 n (od9.k (κe 0)),()) Tryz.func211 (by kernel_rfl)
theorem dh_.ok (n:Nat):dh_.e.Oks E (cx n) n:=okk () Tryz.func88 (by kernel_rfl)
theorem aw_.ok (n:Nat):aw_.e.Oks E (cx n) n:=okk (.lp fun κe=>aw_.step4 n (aw_ n) (od71.k (κe 0)),()) Tryz.func42 (by kernel_rfl)
theorem eN_.ok (n:Nat):eN_.e.Oks E (cx n) n:=okk () Tryz.func209 (by kernel_rfl)
theorem bT_.ok (n:Nat):bT_.e.Oks E (cx n) n:=okk (.lp fun κe=>bT_.step4 n (od119.k (κe 0)),()) Tryz.func141 (by kernel_rfl)
theorem bE_.ok (n:Nat):bE_.e.Oks E (cx n) n:=okk (.lp fun κe=>bE_.step7 n (od121.k (κe 0)),()) Tryz.func210 (by kernel_rfl)
theorem dF_.ok (n:Nat):dF_.e.Oks E (cx n) n:=okk () Tryz.func140 (by kernel_rfl)
theorem em_.ok (n:Nat):em_.e.Oks E (cx n) n:=okk () Tryz.func56 (by kernel_rfl)
theorem cu_.ok (n:Nat):cu_.e.Oks E (cx n) n:=okk (.lp fun κe=>cu_.step3 n (od79.k (κe 0)),()) Tryz.func132 (by kernel_rfl)
theorem eD_.ok (n:Nat):eD_.e.Oks E (cx n) n:=okk () Tryz.func142 (by kernel_rfl)
theorem eF_.ok (n:Nat):eF_.e.Oks E (cx n) n:=okk () Tryz.func97 (by kernel_rfl)
theorem aH_.ok (n:Nat):aH_.e.Oks E (cx n) n:=okk (.lp fun κe=>aH_.step6 n (od9.k (κe 0)),()) Tryz.func260 (by kernel_rfl)
theorem af_.ok (n:Nat):af_.e.Oks E (cx n) n:=okk (.lp fun κe=>af_.step6 n (d2_ n) (od9.k (κe 0)),()) Tryz.func261 (by kernel_rfl)
theorem d2_.ok (n:Nat):d2_.e.Oks E (cx n) n:=okk () Tryz.func235 (by kernel_rfl)
theorem ea_.ok (n:Nat):ea_.e.Oks E (cx n) n:=okk () Tryz.func212 (by kernel_rfl)
theorem eY_.ok (n:Nat):eY_.e.Oks E (cx n) n:=okk () Tryz.func151 (by kernel_rfl)
theorem ch_.ok (n:Nat):ch_.e.Oks E (cx n) n:=okk (.lp fun κe=>ch_.step4 n (od126.k (κe 0)),()) Tryz.func105 (by kernel_rfl)
theorem eg_.ok (n:Nat):eg_.e.Oks E (cx n) n:=okk () Tryz.func58 (by kernel_rfl)
theorem dt_.ok (n:Nat):dt_.e.Oks E (cx n) n:=okk () Tryz.func54 (by kernel_rfl)
theorem bs_.ok (n:Nat):bs_.e.Oks E (cx n) n:=okk (.lp fun κe=>bs_.step4 n (od128.k (κe 0)),()) Tryz.func50 (by kernel_rfl)
theorem dV_.ok (n:Nat):dV_.e.Oks E (cx n) n:=okk () Tryz.func57 (by kernel_rfl)
theorem ei_.ok (n:Nat):ei_.e.Oks E (cx n) n:=okk () Tryz.func18 (by kernel_rfl)
theorem eE_.ok (n:Nat):eE_.e.Oks E (cx n) n:=okk () Tryz.func48 (by kernel_rfl)
theorem dX_.ok (n:Nat):dX_.e.Oks E (cx n) n:=okk () Tryz.func16 (by kernel_rfl)
theorem dd_.ok (n:Nat):dd_.e.Oks E (cx n) n:=okk () Tryz.func19 (by kernel_rfl)
theorem cv_.ok (n:Nat):cv_.e.Oks E (cx n) n:=okk (.lp fun κe=>cv_.step5 n (od129.k (κe 0)),()) Tryz.func30 (by kernel_rfl)
theorem dy_.ok (n:Nat):dy_.e.Oks E (cx n) n:=okk () Tryz.func41 (by kernel_rfl)
theorem fm_.ok (n:Nat):fm_.e.Oks E (cx n) n:=okk () Tryz.func184 (by kernel_rfl)
theorem cY_.ok (n:Nat):cY_.e.Oks E (cx n) n:=okk () Tryz.func280 (by kernel_rfl)
theorem dl_.ok (n:Nat):dl_.e.Oks E (cx n) n:=okk () Tryz.func262 (by kernel_rfl)
theorem cp_.ok (n:Nat):cp_.e.Oks E (cx n) n:=okk () Tryz.func263 (by kernel_rfl)
theorem al_.ok (n:Nat):al_.e.Oks E (cx n) n:=okk (.lp fun κe=>al_.step4 n (od131.k (κe 0)),()) Tryz.func236 (by kernel_rfl)
theorem eh_.ok (n:Nat):eh_.e.Oks E (cx n) n:=okk () Tryz.func239 (by kernel_rfl)
theorem ez_.ok (n:Nat):ez_.e.Oks E (cx n) n:=okk () Tryz.func185 (by kernel_rfl)
theorem ef_.ok (n:Nat):ef_.e.Oks E (cx n) n:=okk () Tryz.func186 (by kernel_rfl)
theorem dU_.ok (n:Nat):dU_.e.Oks E (cx n) n:=okk () Tryz.func187 (by kernel_rfl)
theorem da_.ok (n:Nat):da_.e.Oks E (cx n) n:=okk () Tryz.func133 (by kernel_rfl)
theorem fo_.ok (n:Nat):fo_.e.Oks E (cx n) n:=okk () Tryz.func90 (by kernel_rfl)
theorem bl_.ok (n:Nat):bl_.e.Oks E (cx n) n:=okk (.lp fun κe=>bl_.step7 n (od133.k (κe 0)),()) Tryz.func43 (by kernel_rfl)
theorem dz_.ok (n:Nat):dz_.e.Oks E (cx n) n:=okk () Tryz.func13 (by kernel_rfl)
theorem bc_.ok (n:Nat):bc_.e.Oks E (cx n) n:=okk (.lp fun κe=>bc_.step4 n (od135.k (κe 0)),()) Tryz.func10 (by kernel_rfl)
theorem dk_.ok (n:Nat):dk_.e.Oks E (cx n) n:=okk () Tryz.func33 (by kernel_rfl)
theorem b1_.ok (n:Nat):b1_.e.Oks E (cx n) n:=okk (.lp fun κe=>b1_.step3 n (od9.k (κe 0)),()) Tryz.func73 (by kernel_rfl)
theorem bk_.ok (n:Nat):bk_.e.Oks E (cx n) n:=okk (.lp fun κe=>bk_.step5 n (od137.k (κe 0)),()) Tryz.func61 (by kernel_rfl)
theorem cS_.ok (n:Nat):cS_.e.Oks E (cx n) n:=okk () Tryz.func62 (by kernel_rfl)
theorem c7_.ok (n:Nat):c7_.e.Oks E (cx n) n:=okk () Tryz.func152 (by kernel_rfl)
theorem aU_.ok (n:Nat):aU_.e.Oks E (cx n) n:=okk (.lp fun κe=>aU_.step7 n (od138.k (κe 0)),()) Tryz.func107 (by kernel_rfl)
theorem eB_.ok (n:Nat):eB_.e.Oks E (cx n) n:=okk () Tryz.func63 (by kernel_rfl)
theorem cq_.ok (n:Nat):cq_.e.Oks E (cx n) n:=okk () Tryz.func153 (by kernel_rfl)
theorem aV_.ok (n:Nat):aV_.e.Oks E (cx n) n:=okk (.lp fun κe=>aV_.step4 n (od139.k (κe 0)),()) Tryz.func154 (by kernel_rfl)
theorem bt_.ok (n:Nat):bt_.e.Oks E (cx n) n:=okk (.lp fun κe=>bt_.step8 n (cE_ n) (od141.k (κe 0)),()) Tryz.func155 (by kernel_rfl)
theorem cE_.ok (n:Nat):cE_.e.Oks E (cx n) n:=okk () Tryz.func108 (by kernel_rfl)
theorem eX_.ok (n:Nat):eX_.e.Oks E (cx n) n:=okk () Tryz.func64 (by kernel_rfl)
theorem cL_.ok (n:Nat):cL_.e.Oks E (cx n) n:=okk (.lp fun κe=>cL_.step3 n (od9.k (κe 0)),()) Tryz.func86 (by kernel_rfl)
theorem ep_.ok (n:Nat):ep_.e.Oks E (cx n) n:=okk () Tryz.func109 (by kernel_rfl)
theorem a4_.ok (n:Nat):a4_.e.Oks E (cx n) n:=okk (.lp fun κe=>a4_.step6 n (od144.k (κe 0)),()) Tryz.func111 (by kernel_rfl)
theorem bz_.ok (n:Nat):bz_.e.Oks E (cx n) n:=okk (.lp fun κe=>bz_.step7 n (od147.k (κe 0)),.tl fun _ _=>bz_.tail15 n,()) Tryz.func65 (by kernel_rfl)
theorem ae_.ok (n:Nat):ae_.e.Oks E (cx n) n:=okk (.lp fun κe=>ae_.step20 n (od148.k (κe 3)),.lp fun κe=>ae_.step5 n (od150.k (κe 0)),()) Tryz.func21 (by kernel_rfl)
theorem ct_.ok (n:Nat):ct_.e.Oks E (cx n) n:=okk (.lp fun κe=>ct_.step8 n (od151.k (κe 0)),()) Tryz.func31 (by kernel_rfl)
theorem et_.ok (n:Nat):et_.e.Oks E (cx n) n:=okk () Tryz.func44 (by kernel_rfl)
theorem es_.ok (n:Nat):es_.e.Oks E (cx n) n:=okk () Tryz.func190 (by kernel_rfl)
theorem bw_.ok (n:Nat):bw_.e.Oks E (cx n) n:=okk (.lp fun κe=>bw_.step7 n (od49.k (κe 0)),()) Tryz.func232 (by kernel_rfl)
theorem fr_.ok (n:Nat):fr_.e.Oks E (cx n) n:=okk () Tryz.func181 (by kernel_rfl)
theorem fh_.ok (n:Nat):fh_.e.Oks E (cx n) n:=okk () Tryz.func242 (by kernel_rfl)
theorem dH_.ok (n:Nat):dH_.e.Oks E (cx n) n:=okk (.tl fun κd _=>dH_.tail17 n (od155.k κd),.tl fun _ _=>dH_.tail8 n,()) Tryz.func191 (by kernel_rfl)
theorem dC_.ok (n:Nat):dC_.e.Oks E (cx n) n:=okk () Tryz.func136 (by kernel_rfl)
theorem fj_.ok (n:Nat):fj_.e.Oks E (cx n) n:=okk () Tryz.func94 (by kernel_rfl)
theorem bo_.ok (n:Nat):bo_.e.Oks E (cx n) n:=okk (.lp fun κe=>bo_.step7 n (od157.k (κe 0)),()) Tryz.func47 (by kernel_rfl)
theorem dw_.ok (n:Nat):dw_.e.Oks E (cx n) n:=okk () Tryz.func14 (by kernel_rfl)
theorem bb_.ok (n:Nat):bb_.e.Oks E (cx n) n:=okk (.lp fun κe=>bb_.step4 n (od159.k (κe 0)),()) Tryz.func11 (by kernel_rfl)
theorem d9_.ok (n:Nat):d9_.e.Oks E (cx n) n:=okk () Tryz.func34 (by kernel_rfl)
theorem hW_.ok (n:Nat):hW_.e.Oks E (cx n) n:=okk () Tryz.func35 (by kernel_rfl)
theorem laws_FnHeard.ok (n:Nat):laws_FnHeard.e.Oks E (cx n) n:=okk () Tryz.func7 (by kernel_rfl)
end
section
def InsM (P:Program)(f:FuncId)(e:TypeId)(K B:Nat):Prop :=
 ∀ (w:World)(S:Value)(n:Nat)(vals:List Value)(U:Value)(m:Nat)(us:List Value)(i:Nat),w.ownsRow 0 e K S n vals->w.ownsRow 0 e K U m us->(∀ b,cG_ S b≠0->cG_ U b=0)->i<=n ->
   (∀ v ∈ vals,v.oneCell'=true)->(∀ v ∈ us,v.oneCell'=true)->(n+m)*B<=140737488355328 ->
   Calls P f (List.toArray [S,.int .i64 i,U]) w fun e' w'=>∃ R,e' = .returned R/\w'.ownsRow 0 e K R (n+m) (vals.take (i*K)++us++vals.drop (i*K))/\lh_ w w' (fun b=>cG_ S b≠0) /\
    ∀ b,cG_ R b≠0->(w.heap.size<=b\/cG_ S b≠0)/\b<w'.heap.size
def DelM (P:Program)(f:FuncId)(e:TypeId)(K:Nat):Prop :=
 ∀ (w:World)(S:Value)(n:Nat)(vals:List Value)(i j:Nat),w.ownsRow 0 e K S n vals->i<=j->j<=n->(∀ v ∈ vals,v.oneCell'=true) ->
   Calls P f (List.toArray [S,.int .i64 i,.int .i64 j]) w fun e' w'=>∃ R,e' = .returned R/\w'.ownsRow 0 e K R (n - (j - i)) (vals.take (i*K)++vals.drop (j*K))/\lh_ w w' (fun b=>cG_ S b≠0) /\
    ∀ b,cG_ R b≠0->(w.heap.size<=b\/cG_ S b≠0)/\b<w'.heap.size
def M.both:M->M->M
 |.d,.d=>.d
 |_,_=>.s
variable [aj_]
open aj_
variable {E:Env} {w w':World} {F F':Nat->Prop}
theorem RL.own_inv {m t xs v l vs φ}(k:m ≠ .v) (h:RL E w F (.sl m t xs::l) (v::vs) φ):∃ vals φ₁ φ₂,w.ownsRow 0 (E.eid t) t.width v xs.length vals/\RL E w F (aT_ m.sub t xs) vals φ₁/\(∀ b,cG_ v b≠0->F b)/\RL E w F l vs φ₂/\∀ b,φ b=cG_ v b+φ₁ b+φ₂ b:=by
 cases h with
 |scal _ _ _ _ _ h=>exact h.elim
 |view=>exact absurd rfl k
 |own m t xs v vals φ₁ l vs φ₂ φ h1 h2 h3 h4 h5 h6=>exact ⟨vals,φ₁,φ₂,h2,h3,h4,h5,h6⟩
theorem RL.len_inv {a l Vs φ} (h:RL E w F (a::l) Vs φ):∃ v vs,Vs=v::vs:=by obtain ⟨v,vs,_,_,h,_⟩:=RL.uncons h;exact ⟨v,vs,h⟩
theorem sC_ [ai_]{φ:Nat->Nat}(O:∀ b,φ b<=1)(low:∀ b,φ b≠0->F b/\b<w.heap.size){S:Value}(p:∀ b,cG_ S b≠0->F b){t:TC}{zs:List (El t)}{vals:List Value}{ψ:Nat->Nat}
  (z:RL E w F (aT_ .d t zs) vals ψ) (eφ:∀ b,cG_ S b+ψ b<=φ b) {R:Value} (U:w'.ownsRow 0 (E.eid t) t.width R zs.length vals) (k:lh_ w w' (fun b=>cG_ S b≠0))
  (I:∀ b,cG_ R b≠0->(w.heap.size<=b\/cG_ S b≠0)/\b<w'.heap.size) :
  ∃ φ',RL E w' (fun b=>(F b/\φ b=0)\/φ' b≠0) [.sl .d t zs] [R] φ'/\(∀ b,φ' b<=1)/\(∀ b,φ' b≠0->φ b≠0\/w.heap.size<=b) /\
    w'.os=w.os/\w'.tape=w.tape/\w'.output=w.output/\w.heap.size<=w'.heap.size/\∀ b,b<w.heap.size->φ b=0->w'.heap[b]?=w.heap[b]?:=by
 have m:∀ b,cG_ R b≠0->cG_ S b≠0\/w.heap.size<=b:=fun b hb=>(I b hb).1.symm;have u:∀ b,ψ b≠0->cG_ R b=0/\cG_ S b=0:=fun b hb=>by
  have q1:=eφ b;have q2:=O b;have s0:cG_ S b=0:=by omega
  refine ⟨Classical.byContradiction fun hr => ?_,s0⟩;rcases m b hr with hs|hs
  . exact hs s0
  . have:=(low b (by omega)).2;omega
 refine ⟨fun b=>cG_ R b+ψ b,?_,fun b => ?_,fun b hb => ?_,k.os,k.tape,k.output,k.size,fun b hb J=>k.heap b hb fun hc=>hc (by have:=eφ b;omega)⟩
 . refine .own .d t zs R vals ψ [] _ (fun _=>0) _ (by decide) U ?_ (fun b hb=>.inr (by show cG_ R b+_≠0;omega)) (.nil _ fun _=>rfl) (fun b=>rfl)
   refine z.frame k.size (fun b hb=>⟨k.heap b (z.low b hb).2 fun hc=>hc (u b hb).2,.inr (by show cG_ R b+ψ b≠0;omega)⟩) fun b hb hn=>⟨k.heap b hb fun hc=>hn (p b hc),fun hc => ?_⟩
   rcases hc with ⟨T,-⟩|hc
   . exact hn T
   . have hc:cG_ R b+ψ b≠0:=hc
     by_cases B:cG_ R b=0
     . exact hn (z.low b (by omega)).1
     . rcases m b B with hs|hs
       . exact hn (p b hs)
       . omega
 . show cG_ R b+ψ b<=1
   have q1:=eφ b;have q2:=O b;have:=pd_ R b;by_cases J:ψ b=0
   . omega
   . have:=u b J;omega
 . have hb:cG_ R b+ψ b≠0:=hb
   by_cases J:ψ b=0
   . rcases m b (by omega) with hs|hs
     . exact .inl (by have:=eφ b;omega)
     . exact .inr hs
   . exact .inl (by have:=eφ b;omega)
theorem ob_ [ai_]{φ:Nat->Nat}(B:∀ b,φ b<=1)(low:∀ b,φ b≠0->F b/\b<w.heap.size){S:Value}(p:∀ b,cG_ S b≠0->F b){t:TC}{zs:List (El t)}{L:List AV}{vals:List Value}{ψ:Nat->Nat}
  (I:RL E w F L vals ψ) (T:L.map AV.asView=aT_ .v t zs) (eφ:∀ b,cG_ S b+ψ b<=φ b) {R:Value} (O:w'.ownsRow 0 (E.eid t) t.width R zs.length vals) (k:lh_ w w' (fun b=>cG_ S b≠0))
  (u:∀ b,cG_ R b≠0->(w.heap.size<=b\/cG_ S b≠0)/\b<w'.heap.size) :
  ∃ φ',RL E w' (fun b=>(F b/\φ b=0)\/φ' b≠0) [.sl .s t zs] [R] φ'/\(∀ b,φ' b<=1)/\(∀ b,φ' b≠0->φ b≠0\/w.heap.size<=b) /\
    w'.os=w.os/\w'.tape=w.tape/\w'.output=w.output/\w.heap.size<=w'.heap.size/\∀ b,b<w.heap.size->φ b=0->w'.heap[b]?=w.heap[b]?:=by
 have m:∀ b,cG_ R b≠0->cG_ S b≠0\/w.heap.size<=b:=fun b hb=>(u b hb).1.symm;have z:=I.seen (F':=fun b=>F b/\ψ b=0) (fun b hb hc=>hb hc.2) (fun b _ hn hc=>hn hc.1);rw [T] at z;refine ⟨cG_ R,?_,pd_ R,fun b hb => ?_,k.os,k.tape,k.output,k.size,fun b hb U=>k.heap b hb fun hc=>hc (by have:=eφ b;omega)⟩
 . refine .own .s t zs R vals (fun _=>0) [] _ (fun _=>0) _ (by decide) O ?_ (fun b hb=>.inr hb) (.nil _ fun _=>rfl) (fun b=>rfl)
   refine z.frame k.size (fun b hb=>absurd rfl hb) fun b hb hn=>⟨k.heap b hb fun hc=>hn ⟨p b hc,by have:=eφ b;have:=B b;omega⟩,fun hc => ?_⟩
   rcases hc with ⟨J,U⟩|hc
   . exact hn ⟨J,by have:=eφ b;omega⟩
   . rcases m b hc with hs|hs
     . exact hn ⟨p b hs,by have:=eφ b;have:=B b;omega⟩
     . omega
 . rcases m b hb with hs|hs
   . exact .inl (by have:=eφ b;omega)
   . exact .inr hs
theorem RL.int_inv {k n l v vs φ} (h:RL E w F (.i k n::l) (v::vs) φ):v = .int k n/\RL E w F l vs φ:=by
 cases h with
 |scal _ _ _ _ _ h1 h2=>exact ⟨h1,h2⟩
theorem codedD [ai_]{m:M}{t:TC} (zs:List (El t)):∀ a ∈ aT_ m t zs,∃ m,a.coded m:=fun a ha=>⟨m,eq_ a ha⟩
theorem t1_ [ai_]{f:FuncId}{t:TC}{m1 m2:M}(p:m1 ≠ .v)(m:m2 ≠ .v) (h:InsM E.P f (E.eid t) t.width t.bytes) {xs ys:List (El t)} {i:Nat} (hi:i<=xs.length) (hb:(xs.length+ys.length)*t.bytes<=140737488355328) :
  ff_ E f [.sl m1 t xs,.i .i64 i,.sl m2 t ys] (.sl (M.both m1 m2) t (xs.take i++ys++xs.drop i)) [] [.o,.v,.o]:=by
 intro w F Vs φ k Z hlow _;have low:∀ b,φ b≠0->F b/\b<w.heap.size:=k.low;obtain ⟨S,_,rfl⟩:=k.len_inv;replace k:=k.own_inv p;obtain ⟨vals,φx,φ2,hS,hx,u,k,e1⟩:=k;obtain ⟨I,_,rfl⟩:=k.len_inv;replace k:=k.int_inv;obtain ⟨rfl,k⟩:=k;obtain ⟨U,_,rfl⟩:=k.len_inv;replace k:=k.own_inv m;obtain ⟨us,φy,φ4,hU,hy,hUF,k,e3⟩:=k;obtain ⟨rfl,e4⟩:=RL.nil_inv k;have eφ:∀ b,φ b=cG_ S b+φx b+(cG_ U b+φy b):=fun b=>by rw [e1,e3,e4];omega
 refine (h w S xs.length vals U ys.length us i hS hU (fun b hb=>by have:=Z b;have:=eφ b;omega) hi (hx.one (codedD _)) (hy.one (codedD _)) hb).mono ?_
 rintro e' w' ⟨R,rfl,Y,hg,z⟩
 have J:RL E w F (aT_ m1.sub t (xs.take i)++aT_ m1.sub t (xs.drop i)) vals φx:=by rw [<-cI_,List.take_append_drop];exact hx
 obtain ⟨va,vb,φa,φb,rfl,ha,V,e6⟩:=J.split;have O:va.length=i*t.width:=by rw [<-ha.length,dY_,List.length_take,Nat.min_eq_left hi]
 rw [<-O,List.take_left,List.drop_left] at Y;have hz:RL E w F (aT_ m1.sub t (xs.take i)++aT_ m2.sub t ys++aT_ m1.sub t (xs.drop i)) (va++us++vb) (fun b=>φa b+φy b+φb b) :=
  (ha.append hy (ψ:=fun b=>φa b+φy b) (fun b=>rfl)).append V (fun b=>rfl)
 have hl:(xs.take i++ys++xs.drop i).length=xs.length+ys.length:=by simp;omega
 have he:∀ b,cG_ S b+(φa b+φy b+φb b)<=φ b:=fun b=>by have:=eφ b;have:=e6 b;omega
 by_cases hd:m1 = .d/\m2 = .d
 . obtain ⟨rfl,rfl⟩:=hd
   have B:RL E w F (aT_ .d t (xs.take i++ys++xs.drop i)) (va++us++vb) (fun b=>φa b+φy b+φb b):=by rw [cI_,cI_];exact hz
   obtain ⟨φ',k1,k2⟩:=sC_ (S:=S) (R:=R) Z low u B he (by rw [hl];exact Y) hg z;exact ⟨R,φ',rfl,k1,k2⟩
 . have T:M.both m1 m2 = .s:=by cases m1<;>cases m2<;>first|rfl|exact absurd rfl p|exact absurd rfl m|exact absurd ⟨rfl,rfl⟩ hd
   rw [T];obtain ⟨φ',k1,k2⟩:=ob_ (S:=S) (R:=R) (t:=t) (zs:=xs.take i++ys++xs.drop i) Z low u hz (by rw [List.map_append,List.map_append,f7_,f7_,f7_,cI_,cI_]) he (by rw [hl];exact Y) hg z;exact ⟨R,φ',rfl,k1,k2⟩
theorem ug_ [ai_]{f:FuncId}{t:TC}{m:M}(p:m ≠ .v) (h:DelM E.P f (E.eid t) t.width) {xs:List (El t)} {i j:Nat} (Y:i<=j) (hj:j<=xs.length) :
  ff_ E f [.sl m t xs,.i .i64 i,.i .i64 j] (.sl (M.both m m) t (xs.take i++xs.drop j)) [] [.o,.v,.v]:=by
 intro w F Vs φ k h1 hlow _;have low:∀ b,φ b≠0->F b/\b<w.heap.size:=k.low;obtain ⟨S,_,rfl⟩:=k.len_inv;replace k:=k.own_inv p;obtain ⟨vals,φx,φ2,hS,hx,z,k,e1⟩:=k;obtain ⟨I,_,rfl⟩:=k.len_inv;replace k:=k.int_inv;obtain ⟨rfl,k⟩:=k;obtain ⟨J,_,rfl⟩:=k.len_inv;replace k:=k.int_inv;obtain ⟨rfl,k⟩:=k;obtain ⟨rfl,e4⟩:=RL.nil_inv k;have eφ:∀ b,φ b=cG_ S b+φx b:=fun b=>by rw [e1,e4];omega
 refine (h w S xs.length vals i j hS Y hj (hx.one (codedD _))).mono ?_
 rintro e' w' ⟨R,rfl,hR,hg,B⟩
 have T:RL E w F (aT_ m.sub t (xs.take i)++(aT_ m.sub t ((xs.drop i).take (j - i))++aT_ m.sub t (xs.drop j))) vals φx:=by
  rw [<-cI_,<-cI_];have:xs.drop j=(xs.drop i).drop (j - i):=by rw [List.drop_drop];congr 1;omega
  rw [this,List.take_append_drop,List.take_append_drop];exact hx
 obtain ⟨va,vc,φa,φc,rfl,ha,hc,e6⟩:=T.split;obtain ⟨vm,vb,φm,φb,rfl,hm,Z,e7⟩:=hc.split;have u:va.length=i*t.width:=by rw [<-ha.length,dY_,List.length_take,Nat.min_eq_left (by omega)]
 have U:vm.length=(j - i)*t.width:=by rw [<-hm.length,dY_,List.length_take,List.length_drop,Nat.min_eq_left (by omega)]
 have V:(va++vm).length=j*t.width:=by rw [List.length_append,u,U,<-Nat.add_mul];congr 1;omega
 rw [<-u,List.take_left,<-V,<-List.append_assoc,List.drop_left] at hR;have hz:RL E w F (aT_ m.sub t (xs.take i)++aT_ m.sub t (xs.drop j)) (va++vb) (fun b=>φa b+φb b):=ha.append Z (fun b=>rfl);have hl:(xs.take i++xs.drop j).length=xs.length - (j - i):=by simp;omega
 have he:∀ b,cG_ S b+(φa b+φb b)<=φ b:=fun b=>by have:=eφ b;have:=e6 b;have:=e7 b;omega
 cases m with
 |v=>exact absurd rfl p
 |d=>
  have O:RL E w F (aT_ .d t (xs.take i++xs.drop j)) (va++vb) (fun b=>φa b+φb b):=by rw [cI_];exact hz
  obtain ⟨φ',k1,k2⟩:=sC_ (S:=S) (R:=R) h1 low z O he (by rw [hl];exact hR) hg B;exact ⟨R,φ',rfl,k1,k2⟩
 |s=>
  obtain ⟨φ',k1,k2⟩:=ob_ (S:=S) (R:=R) (t:=t) (zs:=xs.take i++xs.drop j) h1 low z hz (by rw [List.map_append,f7_,f7_,cI_]) he (by rw [hl];exact hR) hg B;exact ⟨R,φ',rfl,k1,k2⟩
theorem nDel_ok [ai_]{f:FuncId}{t:TC}{m:M}(k:m ≠ .v) (h:DelM E.P f (E.eid t) t.width) {xs r:List (El t)} {i j:Int} (hr:kW_ xs i j=some r) :
  ff_ E f [.sl m t xs,.i .i64 i,.i .i64 j] (.sl (M.both m m) t r) [] [.o,.v,.v]:=by
 unfold kW_ at hr;by_cases hc:0<=i/\i<=j/\j<=(xs.length:Int)
 . obtain ⟨p,u,z⟩:=hc
   obtain ⟨i,rfl⟩:=Int.eq_ofNat_of_zero_le p;obtain ⟨j,rfl⟩:=Int.eq_ofNat_of_zero_le (Int.le_trans p u);simp only [p,u,z,decide_true,Bool.and_true,cond_true,Option.some.injEq] at hr;subst hr;exact ug_ k h (by omega) (by omega)
 . have:(decide (0<=i)&&(decide (i<=j)&&decide (j<=(xs.length:Int))))=false:=by
    rw [Bool.eq_false_iff];intro h;simp only [Bool.and_eq_true,decide_eq_true_eq] at h;exact hc h
   rw [this] at hr;cases hr
theorem nIns_ok [ai_]{f:FuncId}{t:TC}{m1 m2:M}(m:m1 ≠ .v)(k:m2 ≠ .v) (h:InsM E.P f (E.eid t) t.width t.bytes) {xs ys r:List (El t)} {i:Int} (hr:kV_ t.bytes xs i ys=some r) :
  ff_ E f [.sl m1 t xs,.i .i64 i,.sl m2 t ys] (.sl (M.both m1 m2) t r) [] [.o,.v,.o]:=by
 unfold kV_ at hr;by_cases hc:0<=i/\i<=(xs.length:Int)
 . obtain ⟨p,u⟩:=hc
   obtain ⟨i,rfl⟩:=Int.eq_ofNat_of_zero_le p;by_cases hb:(xs.length+ys.length)*t.bytes<=140737488355328
   . simp only [p,u,hb,decide_true,Bool.and_true,cond_true,Option.some.injEq] at hr
     subst hr;exact t1_ m k h (by omega) hb
   . simp [p,u,hb] at hr
 . have:(decide (0<=i)&&decide (i<=(xs.length:Int)))=false:=by
    rw [Bool.eq_false_iff];intro h;simp only [Bool.and_eq_true,decide_eq_true_eq] at h;exact hc h
   rw [this] at hr;cases hr
end
end Go.Pi
section
namespace Go.Proofs
open Go.Shelf Go.RowKit Go.Lib Go.Pi
section
variable {P:Program}
theorem ia_ {ops:Array Oper}{o:Oper}{a:Act}{w:World}{K:Act->World->Prop}{Q:Exit->Act->World->Prop}{E:Prop}
  (p:o.guard=none) (d x:Operand) (dT sT:TypeId) (k:o.op=Op.call { callee:=Callee.builtin Builtin.append,args:=#[d,x],argTypes:=#[dT,sT] })
  (v u:Value) (hd:a.eval d=v) (hx:a.eval x=u) {v':Value} {w':World} (hr:(Builtin.append_ #[dT,sT] o.type #[v,u]).run P w = .ok v' w') (z:K (a.put o.dst v') w') :
  if Region.wanted o (yielded ops a.tmps)=true then Oper.wp P o a w K Q else E:=by
 have m:Region.wanted o (yielded ops a.tmps)=true:=by simp [Region.wanted,p]
 rw [if_pos m];unfold Oper.wp;simp [execOp,k,resolve,invoke,builtin,hd,hx,hr,Result.andThen]
 exact z
theorem mL_ (w:World)(t e ty:TypeId)(z:Value) (B:P.underlying t=some (.slice e)) (u:∀ w,(zeroValue e).run P w = .ok z w) (g o n c:Nat) (hn:0<n) (cur:Array Value) (T:TypeId) (I:w.heap[g]?=some (.cells cur T (0,0)))
  (k:o+(Builtin.zeroCells z.cells n).toList.length<=cur.size) (J:∀ v ∈ (Builtin.zeroCells z.cells n).toList,v.oneCell'=true) :
  (Builtin.clear_ #[t] ty #[.slice (some ⟨g,o,none⟩) n c]).run P w = .ok (.tuple #[]) (w.setRow g (cur.toList.take o++(Builtin.zeroCells z.cells n).toList++cur.toList.drop (o+(Builtin.zeroCells z.cells n).toList.length)).toArray):=by
 have p:=run_storeCells_at P g o T (Builtin.zeroCells z.cells n).toList 0 cur w I (by simpa using k) J;obtain ⟨m,rfl⟩:∃ m,n=m+1:=⟨n - 1,by omega⟩
 simp only [Builtin.clear_,run_underlying B,Sem.run_bind,Result.andThen_ok,u];simp only [List.getElem?_toArray,List.getElem?_cons_zero,Sem.run_bind,run_underlying B,Result.andThen_ok,u,p,Nat.add_zero,Sem.run_pure]
end
theorem h8_ (w:World){P:Program}{ops:Array Oper}{jl_:List Oper}{o:Oper}{a:Act}{Q:Exit->Act->World->Prop}(k:o.guard=none)(d s:Operand)(t t':TypeId)
  (m:o.op = .call { callee:=.builtin .copy,args:=#[d,s],argTypes:=#[t,t'] }) (v u:Value) (hd:a.eval d=v) (hs:a.eval s=u) {v':Value} {w':World}
  (hr:(Builtin.copy_ #[t,t'] o.type #[v,u]).run P w = .ok v' w') (h:wpList P ops Q jl_ (a.put o.dst v') w'):wpList P ops Q (o::jl_) a w :=
 wpList_plain k fun _ p=>by unfold Oper.wp execOp;simp only [m,resolve,invoke,builtin,Sem.run_bind,Sem.run_pure,Result.andThen_ok,List.map_toArray,List.map_cons,List.map_nil,hd,hs,hr];exact p _ _ h
theorem ga_ {P:Program}{ops:Array Oper}{o:Oper}{a:Act}{w:World}{K:Act->World->Prop}{Q:Exit->Act->World->Prop}{E:Prop}
  (p:o.guard=none) (d x:Operand) (dT sT:TypeId) (k:o.op=Op.call { callee:=Callee.builtin Builtin.copy,args:=#[d,x],argTypes:=#[dT,sT] })
  (v u:Value) (hd:a.eval d=v) (hx:a.eval x=u) {v':Value} {w':World} (hr:(Builtin.copy_ #[dT,sT] o.type #[v,u]).run P w = .ok v' w') (z:K (a.put o.dst v') w') :
  if Region.wanted o (yielded ops a.tmps)=true then Oper.wp P o a w K Q else E:=by
 have m:Region.wanted o (yielded ops a.tmps)=true:=by simp [Region.wanted,p]
 rw [if_pos m];unfold Oper.wp;simp [execOp,k,resolve,invoke,builtin,hd,hx,hr,Result.andThen]
 exact z
theorem ex_ {P:Program}(w:World)(dT sT ty elem:TypeId)(k g o dLen dCap:Nat)(a:Addr)(sLen sCap:Nat)(cur:Array Value)(t:TypeId)(cs:List Value)
  (z:P.underlying dT=some (.slice elem)) (hs:(P.info? elem).map (·.size)=some k)
  (B:w.heap[g]?=some (.cells cur t (0,0))) (hn:cs.length=Nat.min sLen dLen*k)
  (m:∀ j v,cs[j]?=some v->w.cell? (a.add j)=some v) (p:o+cs.length<=cur.size) (I:∀ v ∈ cs,v.oneCell'=true) :
  (Builtin.copy_ #[dT,sT] ty #[.slice (some ⟨g,o,none⟩) dLen dCap,.slice (some a) sLen sCap]).run P w =
   .ok (goInt (Nat.min sLen dLen)) (w.setRow g (cur.toList.take o++cs++cur.toList.drop (o+cs.length)).toArray):=by
 have hl:=run_loadCells_list (P:=P) w a cs m;have u:=run_storeCells_at P g o t cs 0 cur w B (by simpa using p) I;cases hq:P.info? elem with
 |none=>simp [hq] at hs
 |some i=>
  have hi:i.size=k:=by simpa [hq] using hs
  simp [Builtin.copy_,run_underlying z,Builtin.lenOf,Builtin.firstCells,sizeOf,typeInfo,hq,hi,<-hn,hl,u]
theorem zc_one (cs:Array Value)(h:cs.toList.all Value.oneCell'=true)(n:Nat):∀ v ∈ (Builtin.zeroCells cs n).toList,v.oneCell'=true:=by intro v k;simp only [Builtin.zeroCells,Array.toList_map,List.mem_map,Array.toList_range,List.mem_range] at k;obtain ⟨x,hx,rfl⟩:=k;have m:0<cs.size:=Nat.pos_of_mul_pos_left (by omega:0<n*cs.size);have:x % cs.size<cs.size:=Nat.mod_lt _ m;rw [getElem!_pos cs _ this];exact List.all_eq_true.1 h _ (by simp)
theorem pc_ {w:World}{e:TypeId}{K:Nat}{S:Value}{n:Nat}{vals:List Value}(h:w.ownsRow 0 e K S n vals):∀ b,cG_ S b≠0->b<w.heap.size:=by
 intro b hb;rcases h.2 with ⟨rfl,_⟩|⟨g,cap,cur,rfl,_,k,_⟩
 . simp [cG_] at hb
 . have:g=b:=by simp only [cG_] at hb;exact Classical.byContradiction fun h=>hb (if_neg h)
   subst this;exact (Array.getElem?_eq_some_iff.1 k).1
theorem ks_ (w:World)(g:Nat)(A:Array Value):w.heap.size<=(w.drew.setRow g A).heap.size:=by
 have:(w.drew.setRow g A).heap.size=w.drew.heap.size:=by simp [World.setRow]
 rw [this];exact Nat.le_refl _
theorem ey_ {w:World}{e:TypeId}{v:Value}{n:Nat}{xs:List Value}:w.ownsRow 0 e 1 v n xs ↔
  (xs.length=n/\(v = .slice none 0 0/\n=0\/∃ g cap cur,v = .slice (some ⟨g,0,none⟩) n cap/\0<=g/\w.heap[g]?=some (.cells cur e (0,0))/\n<=cap/\cap<=maxLen/\cur.size=cap/\cur.toList.take n=xs)):=by
 unfold World.ownsRow;simp only [Nat.mul_one]
end Go.Proofs
end
section
namespace Go.Proofs
open Go.Shelf
def Tryz.lays143_ren:Go.Shelf.Ren:=⟨fun|143=>72|219=>113|217=>156|225=>157|224=>158|267=>159|266=>213|314=>214|n=>n,fun|9=>9|3=>3|4=>4|5=>5|46=>184|146=>243|51=>242|n=>n,fun|1=>0|n=>n⟩
theorem Tryz.lays143:Go.Proofs.Lays.n143 Tryz.prog Tryz.lays143_ren:={
 mixed:=by kernel_rfl
 f143:=Tryz.func72.trans (congrArg some (by kernel_rfl))
 f217:=Tryz.func156.trans (congrArg some (by kernel_rfl))
 f219:=Tryz.func113.trans (congrArg some (by kernel_rfl))
 f224:=Tryz.func158.trans (congrArg some (by kernel_rfl))
 f225:=Tryz.func157.trans (congrArg some (by kernel_rfl))
 f266:=Tryz.func213.trans (congrArg some (by kernel_rfl))
 f267:=Tryz.func159.trans (congrArg some (by kernel_rfl))
 f314:=Tryz.func214.trans (congrArg some (by kernel_rfl))
 t3:=Tryz.underlying3
 a3:=Tryz.isAgg3
 z3:=Tryz.sizeOf3
 v3:=Tryz.zeroValue3
 t4:=Tryz.underlying4
 a4:=Tryz.isAgg4
 z4:=Tryz.sizeOf4
 v4:=Tryz.zeroValue4
 t5:=Tryz.underlying5
 a5:=Tryz.isAgg5
 z5:=Tryz.sizeOf5
 v5:=Tryz.zeroValue5
 t9:=Tryz.underlying9
 a9:=Tryz.isAgg9
 z9:=Tryz.sizeOf9
 v9:=Tryz.zeroValue9
 t46:=Tryz.underlying184
 a46:=Tryz.isAgg184
 z46:=Tryz.sizeOf184
 v46:=Tryz.zeroValue184
 t51:=Tryz.underlying242
 a51:=Tryz.isAgg242
 z51:=Tryz.sizeOf242
 v51:=Tryz.zeroValue242
 t146:=Tryz.underlying243
 a146:=Tryz.isAgg243
 z146:=Tryz.sizeOf243
 v146:=Tryz.zeroValue243
 g1:=by kernel_rfl }
open Go.RowKit Go.Sort Go.Lib in
theorem Tryz.strings_Index (s sub:ByteArray)(m:Int)(w:World)(hs:s.size<4294967281) (k:w.cell? ⟨0,0,none⟩=some (.int .i64 m)) :
  Calls Tryz.prog 72 #[.string s,.string sub] w fun e w'=>e = .returned (.int .i64 (Lib.index s.data.toList sub.data.toList))/\w'=w:=Any.strings_Index Tryz.lays143 s sub m w hs k
end Go.Proofs
namespace Go.Pi
open Go.Proofs
theorem strings_Index.ok (n:Nat):strings_Index.e.Oks E (cx n) n:=fun _ _ _ _ h=>tR_ (g:=0) (fun s sep m w p k=>Tryz.strings_Index s sep m w p k) (.tail _ (.head _)) h
end Go.Pi
end
section
namespace Go.Proofs
open Go.Shelf
def Tryz.laysM171_ren:Go.Shelf.Ren:=⟨fun|171=>95|243=>137|246=>192|283=>243|284=>244|285=>245|286=>246|129=>269|317=>268|318=>270|319=>271|320=>272|337=>283|338=>284|n=>n,fun|3=>3|9=>9|2=>2|4=>4|171=>266|0=>0|53=>267|37=>22|5=>5|173=>270|212=>292|51=>242|20=>20|213=>293|46=>184|232=>309|233=>310|n=>n,fun|17=>3|18=>4|19=>5|n=>n⟩
theorem Tryz.laysM171:Go.Proofs.LaysM.n171 Tryz.prog Tryz.laysM171_ren:={
 mixed:=by kernel_rfl
 f129:=Tryz.func269.trans (congrArg some (by kernel_rfl))
 f171:=Tryz.func95.trans (congrArg some (by kernel_rfl))
 f243:=Tryz.func137.trans (congrArg some (by kernel_rfl))
 f246:=Tryz.func192.trans (congrArg some (by kernel_rfl))
 f283:=Tryz.func243.trans (congrArg some (by kernel_rfl))
 f284:=Tryz.func244.trans (congrArg some (by kernel_rfl))
 f285:=Tryz.func245.trans (congrArg some (by kernel_rfl))
 f286:=Tryz.func246.trans (congrArg some (by kernel_rfl))
 f317:=Tryz.func268.trans (congrArg some (by kernel_rfl))
 f318:=Tryz.func270.trans (congrArg some (by kernel_rfl))
 f319:=Tryz.func271.trans (congrArg some (by kernel_rfl))
 f320:=Tryz.func272.trans (congrArg some (by kernel_rfl))
 f337:=Tryz.func283.trans (congrArg some (by kernel_rfl))
 f338:=Tryz.func284.trans (congrArg some (by kernel_rfl))
 t0:=Tryz.underlying0
 a0:=Tryz.isAgg0
 z0:=Tryz.sizeOf0
 v0:=Tryz.zeroValue0
 t2:=Tryz.underlying2
 a2:=Tryz.isAgg2
 z2:=Tryz.sizeOf2
 v2:=Tryz.zeroValue2
 t3:=Tryz.underlying3
 a3:=Tryz.isAgg3
 z3:=Tryz.sizeOf3
 v3:=Tryz.zeroValue3
 t4:=Tryz.underlying4
 a4:=Tryz.isAgg4
 z4:=Tryz.sizeOf4
 v4:=Tryz.zeroValue4
 t5:=Tryz.underlying5
 a5:=Tryz.isAgg5
 z5:=Tryz.sizeOf5
 v5:=Tryz.zeroValue5
 t9:=Tryz.underlying9
 a9:=Tryz.isAgg9
 z9:=Tryz.sizeOf9
 v9:=Tryz.zeroValue9
 t20:=Tryz.underlying20
 a20:=Tryz.isAgg20
 z20:=Tryz.sizeOf20
 v20:=Tryz.zeroValue20
 t37:=Tryz.underlying22
 a37:=Tryz.isAgg22
 z37:=Tryz.sizeOf22
 v37:=Tryz.zeroValue22
 t46:=Tryz.underlying184
 a46:=Tryz.isAgg184
 z46:=Tryz.sizeOf184
 v46:=Tryz.zeroValue184
 t51:=Tryz.underlying242
 a51:=Tryz.isAgg242
 z51:=Tryz.sizeOf242
 v51:=Tryz.zeroValue242
 t53:=Tryz.underlying267
 a53:=Tryz.isAgg267
 z53:=Tryz.sizeOf267
 v53:=Tryz.zeroValue267
 t171:=Tryz.underlying266
 a171:=Tryz.isAgg266
 z171:=Tryz.sizeOf266
 v171:=Tryz.zeroValue266
 t173:=Tryz.underlying270
 a173:=Tryz.isAgg270
 z173:=Tryz.sizeOf270
 v173:=Tryz.zeroValue270
 t212:=Tryz.underlying292
 a212:=Tryz.isAgg292
 z212:=Tryz.sizeOf292
 v212:=Tryz.zeroValue292
 t213:=Tryz.underlying293
 a213:=Tryz.isAgg293
 z213:=Tryz.sizeOf293
 t232:=Tryz.underlying309
 a232:=Tryz.isAgg309
 z232:=Tryz.sizeOf309
 v232:=Tryz.zeroValue309
 t233:=Tryz.underlying310
 a233:=Tryz.isAgg310
 z233:=Tryz.sizeOf310
 v233:=Tryz.zeroValue310
 g17:=by kernel_rfl
 g18:=by kernel_rfl
 g19:=by kernel_rfl
 i0:=by kernel_rfl
 i2:=by kernel_rfl
 i3:=by kernel_rfl
 i4:=by kernel_rfl
 i5:=by kernel_rfl
 i9:=by kernel_rfl
 i20:=by kernel_rfl
 i37:=by kernel_rfl
 i46:=by kernel_rfl
 i51:=by kernel_rfl
 i53:=by kernel_rfl
 i171:=by kernel_rfl
 i173:=by kernel_rfl
 i212:=by kernel_rfl
 i232:=by kernel_rfl
 i233:=by kernel_rfl
 m17:=by kernel_rfl
 m18:=by kernel_rfl
 m19:=by kernel_rfl }
open Go.RowKit Go.Sort Go.Lib in
theorem Tryz.strconv_Itoa (n:Int)(u : -9223372036854775808<=n)(p:n<=9223372036854775807)(w:World) (m:Lib.TabIs Tryz.prog w "internal/strconv.uint64pow10" .u64 Lib.pow10Tab) :
  Calls Tryz.prog 95 #[.int .i64 n] w fun e w'=>e = .returned (.string ⟨(Lib.itoa n).toArray⟩)/\∃ k os,w'=grow (w.drewN k) os:=Any.strconv_Itoa Tryz.laysM171 n u p w m
end Go.Proofs
namespace Go.Pi
open Go.Proofs
theorem nd_:E.P.globalNamed "internal/strconv.uint64pow10" = some 3:=by kernel_rfl
theorem strconv_Itoa.ok (n:Nat):strconv_Itoa.e.Oks E (cx n) n:=fun _ _ _ _ h=>nItoa_ok (fun n p m w k=>Tryz.strconv_Itoa n p m w k) (.head _) nd_ h
end Go.Pi
end
section
namespace Go.Proofs
open Go.Shelf
def Tryz.laysC172_ren:Go.Shelf.Ren:=⟨fun|172=>102|244=>147|245=>148|247=>199|279=>200|280=>201|281=>202|282=>203|287=>250|316=>251|171=>95|205=>252|321=>277|322=>278|243=>137|246=>192|283=>243|284=>244|285=>245|286=>246|129=>269|317=>268|318=>270|319=>271|320=>272|337=>283|338=>284|n=>n,fun|9=>9|3=>3|75=>140|76=>141|4=>4|5=>5|167=>233|37=>22|0=>0|85=>234|2=>2|168=>236|53=>267|175=>274|46=>184|210=>277|127=>272|145=>303|143=>301|21=>21|171=>266|173=>270|212=>292|51=>242|20=>20|213=>293|232=>309|233=>310|80=>230|n=>n,fun|15=>1|16=>2|17=>3|18=>4|19=>5|n=>n⟩
theorem Tryz.laysC172:Go.Proofs.LaysC.n172 Tryz.prog Tryz.laysC172_ren:={
 mixed:=by kernel_rfl
 f129:=Tryz.func269.trans (congrArg some (by kernel_rfl))
 f171:=Tryz.func95.trans (congrArg some (by kernel_rfl))
 f172:=Tryz.func102.trans (congrArg some (by kernel_rfl))
 f205:=Tryz.func252.trans (congrArg some (by kernel_rfl))
 f243:=Tryz.func137.trans (congrArg some (by kernel_rfl))
 f244:=Tryz.func147.trans (congrArg some (by kernel_rfl))
 f245:=Tryz.func148.trans (congrArg some (by kernel_rfl))
 f246:=Tryz.func192.trans (congrArg some (by kernel_rfl))
 f247:=Tryz.func199.trans (congrArg some (by kernel_rfl))
 f279:=Tryz.func200.trans (congrArg some (by kernel_rfl))
 f280:=Tryz.func201.trans (congrArg some (by kernel_rfl))
 f281:=Tryz.func202.trans (congrArg some (by kernel_rfl))
 f282:=Tryz.func203.trans (congrArg some (by kernel_rfl))
 f283:=Tryz.func243.trans (congrArg some (by kernel_rfl))
 f284:=Tryz.func244.trans (congrArg some (by kernel_rfl))
 f285:=Tryz.func245.trans (congrArg some (by kernel_rfl))
 f286:=Tryz.func246.trans (congrArg some (by kernel_rfl))
 f287:=Tryz.func250.trans (congrArg some (by kernel_rfl))
 f316:=Tryz.func251.trans (congrArg some (by kernel_rfl))
 f317:=Tryz.func268.trans (congrArg some (by kernel_rfl))
 f318:=Tryz.func270.trans (congrArg some (by kernel_rfl))
 f319:=Tryz.func271.trans (congrArg some (by kernel_rfl))
 f320:=Tryz.func272.trans (congrArg some (by kernel_rfl))
 f321:=Tryz.func277.trans (congrArg some (by kernel_rfl))
 f322:=Tryz.func278.trans (congrArg some (by kernel_rfl))
 f337:=Tryz.func283.trans (congrArg some (by kernel_rfl))
 f338:=Tryz.func284.trans (congrArg some (by kernel_rfl))
 t0:=Tryz.underlying0
 a0:=Tryz.isAgg0
 z0:=Tryz.sizeOf0
 v0:=Tryz.zeroValue0
 t2:=Tryz.underlying2
 a2:=Tryz.isAgg2
 z2:=Tryz.sizeOf2
 v2:=Tryz.zeroValue2
 t3:=Tryz.underlying3
 a3:=Tryz.isAgg3
 z3:=Tryz.sizeOf3
 v3:=Tryz.zeroValue3
 t4:=Tryz.underlying4
 a4:=Tryz.isAgg4
 z4:=Tryz.sizeOf4
 v4:=Tryz.zeroValue4
 t5:=Tryz.underlying5
 a5:=Tryz.isAgg5
 z5:=Tryz.sizeOf5
 v5:=Tryz.zeroValue5
 t9:=Tryz.underlying9
 a9:=Tryz.isAgg9
 z9:=Tryz.sizeOf9
 v9:=Tryz.zeroValue9
 t20:=Tryz.underlying20
 a20:=Tryz.isAgg20
 z20:=Tryz.sizeOf20
 v20:=Tryz.zeroValue20
 t21:=Tryz.underlying21
 a21:=Tryz.isAgg21
 z21:=Tryz.sizeOf21
 v21:=Tryz.zeroValue21
 t37:=Tryz.underlying22
 a37:=Tryz.isAgg22
 z37:=Tryz.sizeOf22
 v37:=Tryz.zeroValue22
 t46:=Tryz.underlying184
 a46:=Tryz.isAgg184
 z46:=Tryz.sizeOf184
 v46:=Tryz.zeroValue184
 t51:=Tryz.underlying242
 a51:=Tryz.isAgg242
 z51:=Tryz.sizeOf242
 v51:=Tryz.zeroValue242
 t53:=Tryz.underlying267
 a53:=Tryz.isAgg267
 z53:=Tryz.sizeOf267
 v53:=Tryz.zeroValue267
 t75:=Tryz.underlying140
 a75:=Tryz.isAgg140
 z75:=Tryz.sizeOf140
 v75:=Tryz.zeroValue140
 t76:=Tryz.underlying141
 a76:=Tryz.isAgg141
 z76:=Tryz.sizeOf141
 v76:=Tryz.zeroValue141
 t85:=Tryz.underlying234
 a85:=Tryz.isAgg234
 z85:=Tryz.sizeOf234
 v85:=Tryz.zeroValue234
 t127:=Tryz.underlying272
 a127:=Tryz.isAgg272
 z127:=Tryz.sizeOf272
 v127:=Tryz.zeroValue272
 t143:=Tryz.underlying301
 a143:=Tryz.isAgg301
 z143:=Tryz.sizeOf301
 v143:=Tryz.zeroValue301
 t145:=Tryz.underlying303
 a145:=Tryz.isAgg303
 z145:=Tryz.sizeOf303
 v145:=Tryz.zeroValue303
 t167:=Tryz.underlying233
 a167:=Tryz.isAgg233
 z167:=Tryz.sizeOf233
 v167:=Tryz.zeroValue233
 t168:=Tryz.underlying236
 a168:=Tryz.isAgg236
 z168:=Tryz.sizeOf236
 v168:=Tryz.zeroValue236
 t171:=Tryz.underlying266
 a171:=Tryz.isAgg266
 z171:=Tryz.sizeOf266
 v171:=Tryz.zeroValue266
 t173:=Tryz.underlying270
 a173:=Tryz.isAgg270
 z173:=Tryz.sizeOf270
 v173:=Tryz.zeroValue270
 t175:=Tryz.underlying274
 a175:=Tryz.isAgg274
 z175:=Tryz.sizeOf274
 v175:=Tryz.zeroValue274
 t210:=Tryz.underlying277
 a210:=Tryz.isAgg277
 z210:=Tryz.sizeOf277
 v210:=Tryz.zeroValue277
 t212:=Tryz.underlying292
 a212:=Tryz.isAgg292
 z212:=Tryz.sizeOf292
 v212:=Tryz.zeroValue292
 t213:=Tryz.underlying293
 a213:=Tryz.isAgg293
 z213:=Tryz.sizeOf293
 t232:=Tryz.underlying309
 a232:=Tryz.isAgg309
 z232:=Tryz.sizeOf309
 v232:=Tryz.zeroValue309
 t233:=Tryz.underlying310
 a233:=Tryz.isAgg310
 z233:=Tryz.sizeOf310
 v233:=Tryz.zeroValue310
 g15:=by kernel_rfl
 g16:=by kernel_rfl
 g17:=by kernel_rfl
 g18:=by kernel_rfl
 g19:=by kernel_rfl
 t80:=Tryz.underlying230
 a80:=Tryz.isAgg230
 z80:=Tryz.sizeOf230
 v80:=Tryz.zeroValue230
 i0:=by kernel_rfl
 i2:=by kernel_rfl
 i3:=by kernel_rfl
 i4:=by kernel_rfl
 i5:=by kernel_rfl
 i9:=by kernel_rfl
 i20:=by kernel_rfl
 i21:=by kernel_rfl
 i37:=by kernel_rfl
 i46:=by kernel_rfl
 i51:=by kernel_rfl
 i53:=by kernel_rfl
 i75:=by kernel_rfl
 i76:=by kernel_rfl
 i80:=by kernel_rfl
 i85:=by kernel_rfl
 i127:=by kernel_rfl
 i143:=by kernel_rfl
 i145:=by kernel_rfl
 i167:=by kernel_rfl
 i168:=by kernel_rfl
 i171:=by kernel_rfl
 i173:=by kernel_rfl
 i175:=by kernel_rfl
 i210:=by kernel_rfl
 i212:=by kernel_rfl
 i232:=by kernel_rfl
 i233:=by kernel_rfl
 m15:=by kernel_rfl
 m16:=by kernel_rfl
 m17:=by kernel_rfl
 m18:=by kernel_rfl
 m19:=by kernel_rfl
 c0:=by kernel_rfl
 c2:=by kernel_rfl
 c3:=by kernel_rfl
 c4:=by kernel_rfl
 c5:=by kernel_rfl
 c9:=by kernel_rfl
 c20:=by kernel_rfl
 c21:=by kernel_rfl
 c37:=by kernel_rfl
 c46:=by kernel_rfl
 c51:=by kernel_rfl
 c53:=by kernel_rfl
 c75:=by kernel_rfl
 c76:=by kernel_rfl
 c80:=by kernel_rfl
 c85:=by kernel_rfl
 c127:=by kernel_rfl
 c143:=by kernel_rfl
 c145:=by kernel_rfl
 c167:=by kernel_rfl
 c168:=by kernel_rfl
 c171:=by kernel_rfl
 c173:=by kernel_rfl
 c175:=by kernel_rfl
 c210:=by kernel_rfl
 c212:=by kernel_rfl
 c213:=by kernel_rfl
 c232:=by kernel_rfl
 c233:=by kernel_rfl }
end Go.Proofs
namespace Go.Pi
open Go.Proofs
theorem atoiM:AtoiM E.P 102 1 2 5:=⟨fun s v w m k=>Any.strconv_Atoi_ok Tryz.laysC172 s m v k w,fun s ev w m k u p=>by
 cases ha:Lib.atoiAll s.data.toList
 . rename_i v;exact absurd ha (k.1 v)
 . exact (Any.strconv_Atoi_syntax Tryz.laysC172 s m ha ev w u p).mono fun e w' ⟨N,he,_,_,hb⟩=>⟨⟨_,_,he⟩,hb⟩
 . exact absurd ha k.2,fun s ev w m k u p=>(Any.strconv_Atoi_range Tryz.laysC172 s m k ev w u p).mono fun e w' ⟨N,he,_,_,hb⟩=>⟨⟨_,_,he⟩,hb⟩⟩
end Go.Pi
namespace Go.Pi
open Go.Proofs
theorem dg_.ok (n:Nat):dg_.e.Oks E (cx n) n:=fun _ _ _ _ h=>nAtoi_ok atoiM (.tail _ (.tail _ (.head _))) (.tail _ (.tail _ (.tail _ (.head _)))) h
end Go.Pi
end
section
namespace Go.Proofs
open Go.Shelf
def Tryz.lays219_ren:Go.Shelf.Ren:=⟨fun|219=>113|217=>156|225=>157|224=>158|267=>159|266=>213|314=>214|n=>n,fun|9=>9|3=>3|4=>4|5=>5|46=>184|146=>243|51=>242|n=>n,fun|1=>0|n=>n⟩
theorem Tryz.lays219:Go.Proofs.Lays.n219 Tryz.prog Tryz.lays219_ren:={
 mixed:=by kernel_rfl
 f217:=Tryz.func156.trans (congrArg some (by kernel_rfl))
 f219:=Tryz.func113.trans (congrArg some (by kernel_rfl))
 f224:=Tryz.func158.trans (congrArg some (by kernel_rfl))
 f225:=Tryz.func157.trans (congrArg some (by kernel_rfl))
 f266:=Tryz.func213.trans (congrArg some (by kernel_rfl))
 f267:=Tryz.func159.trans (congrArg some (by kernel_rfl))
 f314:=Tryz.func214.trans (congrArg some (by kernel_rfl))
 t3:=Tryz.underlying3
 a3:=Tryz.isAgg3
 z3:=Tryz.sizeOf3
 v3:=Tryz.zeroValue3
 t4:=Tryz.underlying4
 a4:=Tryz.isAgg4
 z4:=Tryz.sizeOf4
 v4:=Tryz.zeroValue4
 t5:=Tryz.underlying5
 a5:=Tryz.isAgg5
 z5:=Tryz.sizeOf5
 v5:=Tryz.zeroValue5
 t9:=Tryz.underlying9
 a9:=Tryz.isAgg9
 z9:=Tryz.sizeOf9
 v9:=Tryz.zeroValue9
 t46:=Tryz.underlying184
 a46:=Tryz.isAgg184
 z46:=Tryz.sizeOf184
 v46:=Tryz.zeroValue184
 t51:=Tryz.underlying242
 a51:=Tryz.isAgg242
 z51:=Tryz.sizeOf242
 v51:=Tryz.zeroValue242
 t146:=Tryz.underlying243
 a146:=Tryz.isAgg243
 z146:=Tryz.sizeOf243
 v146:=Tryz.zeroValue243
 g1:=by kernel_rfl }
open Go.RowKit Go.Sort Go.Lib in
theorem Tryz.stringslite_Index_one (s:ByteArray)(c:UInt8)(w:World) :
  Calls Tryz.prog 113 #[.string s,.string ⟨#[c]⟩] w fun e w'=>e = .returned (.int .i64 (Lib.indexByte s.data.toList c))/\w'=w:=Any.stringslite_Index_one Tryz.lays219 s c w
end Go.Proofs
namespace Go.Pi
open Go.Proofs
theorem ca_.ok (n:Nat):ca_.e.Oks E (cx n) n:=fun _ _ _ _ h=>nIndex_ok (fun s c w=>Tryz.stringslite_Index_one s c w) h
end Go.Pi
end
section
namespace Go.Proofs
open Go.Shelf
def Tryz.lays156_ren:Go.Shelf.Ren:=⟨fun|156=>139|165=>193|166=>194|169=>195|240=>247|241=>248|276=>273|277=>274|n=>n,fun|31=>27|9=>9|3=>3|4=>4|0=>0|20=>20|72=>228|76=>141|70=>226|37=>22|75=>140|127=>272|164=>295|5=>5|80=>230|n=>n,fun|n=>n⟩
theorem Tryz.lays156:Go.Proofs.Lays.n156 Tryz.prog Tryz.lays156_ren:={
 mixed:=by kernel_rfl
 f156:=Tryz.func139.trans (congrArg some (by kernel_rfl))
 f165:=Tryz.func193.trans (congrArg some (by kernel_rfl))
 f166:=Tryz.func194.trans (congrArg some (by kernel_rfl))
 f169:=Tryz.func195.trans (congrArg some (by kernel_rfl))
 f240:=Tryz.func247.trans (congrArg some (by kernel_rfl))
 f241:=Tryz.func248.trans (congrArg some (by kernel_rfl))
 f276:=Tryz.func273.trans (congrArg some (by kernel_rfl))
 f277:=Tryz.func274.trans (congrArg some (by kernel_rfl))
 t0:=Tryz.underlying0
 a0:=Tryz.isAgg0
 z0:=Tryz.sizeOf0
 v0:=Tryz.zeroValue0
 t3:=Tryz.underlying3
 a3:=Tryz.isAgg3
 z3:=Tryz.sizeOf3
 v3:=Tryz.zeroValue3
 t4:=Tryz.underlying4
 a4:=Tryz.isAgg4
 z4:=Tryz.sizeOf4
 v4:=Tryz.zeroValue4
 t9:=Tryz.underlying9
 a9:=Tryz.isAgg9
 z9:=Tryz.sizeOf9
 v9:=Tryz.zeroValue9
 t20:=Tryz.underlying20
 a20:=Tryz.isAgg20
 z20:=Tryz.sizeOf20
 v20:=Tryz.zeroValue20
 t31:=Tryz.underlying27
 a31:=Tryz.isAgg27
 z31:=Tryz.sizeOf27
 v31:=Tryz.zeroValue27
 t37:=Tryz.underlying22
 a37:=Tryz.isAgg22
 z37:=Tryz.sizeOf22
 v37:=Tryz.zeroValue22
 t70:=Tryz.underlying226
 a70:=Tryz.isAgg226
 z70:=Tryz.sizeOf226
 v70:=Tryz.zeroValue226
 t72:=Tryz.underlying228
 a72:=Tryz.isAgg228
 z72:=Tryz.sizeOf228
 v72:=Tryz.zeroValue228
 t75:=Tryz.underlying140
 a75:=Tryz.isAgg140
 z75:=Tryz.sizeOf140
 v75:=Tryz.zeroValue140
 t76:=Tryz.underlying141
 a76:=Tryz.isAgg141
 z76:=Tryz.sizeOf141
 v76:=Tryz.zeroValue141
 t127:=Tryz.underlying272
 a127:=Tryz.isAgg272
 z127:=Tryz.sizeOf272
 v127:=Tryz.zeroValue272
 t164:=Tryz.underlying295
 a164:=Tryz.isAgg295
 z164:=Tryz.sizeOf295
 v164:=Tryz.zeroValue295 }
theorem Tryz.Builder_Extra_156:Builder.Extra Tryz.prog Tryz.lays156_ren:={
 sizeBuilder:=by kernel_rfl
 liesBuilder:=by kernel_rfl
 t5:=Tryz.underlying5
 a5:=Tryz.isAgg5
 z5:=Tryz.sizeOf5
 v5:=Tryz.zeroValue5
 infoByte:=by kernel_rfl
 cellsByte:=by kernel_rfl
 sizeByte:=by kernel_rfl
 neB5:=by decide }
open Go.RowKit Go.Sort Go.Lib in
theorem Tryz.strings_Join_none (a:Option Addr)(c:Nat)(sep:ByteArray)(w:World) :
  Calls Tryz.prog 139 #[.slice a 0 c,.string sep] w fun e w'=>e = .returned (.string ⟨#[]⟩)/\w'=w:=Any.strings_Join_none Tryz.lays156 Tryz.Builder_Extra_156 a c sep w
open Go.RowKit Go.Sort Go.Lib in
theorem Tryz.strings_Join (bk o c:Nat)(xs:List ByteArray)(sep:ByteArray)(w:World) (k:∀ (j:Nat) x,xs[j]?=some x->w.cell? ⟨bk,o+j,none⟩=some (.string x)) (u:bk<w.heap.size) (z:xs.length<=140737488355328) (p:xs.length<=c) (m:(Lib.join (xs.map (·.data.toList)) sep.data.toList).length<=140737488355328) :
  Calls Tryz.prog 139 #[.slice (some ⟨bk,o,none⟩) xs.length c,.string sep] w fun e w'=>e = .returned (.string ⟨(Lib.join (xs.map (·.data.toList)) sep.data.toList).toArray⟩)/\Below w.heap.size w w':=Any.strings_Join Tryz.lays156 Tryz.Builder_Extra_156 bk o c xs sep w k u z p m
end Go.Proofs
namespace Go.Pi
open Go.Proofs
theorem strings_Join.ok (n:Nat):strings_Join.e.Oks E (cx n) n:=fun _ _ _ _ h=>nJoin_ok ⟨fun a c sep w=>Tryz.strings_Join_none a c sep w,fun bk o c xs sep w z u p m k=>Tryz.strings_Join bk o c xs sep w z u p m k⟩ (fun _=>rfl) h
end Go.Pi
end
section
namespace Go.Proofs
open Go.Shelf
def Tryz.lays155_ren:Go.Shelf.Ren:=⟨fun|155=>196|154=>249|138=>275|165=>193|143=>72|166=>194|197=>276|169=>195|195=>285|218=>286|240=>247|241=>248|219=>113|260=>287|276=>273|277=>274|217=>156|225=>157|224=>158|267=>159|266=>213|314=>214|n=>n,fun|9=>9|3=>3|4=>4|72=>228|0=>0|76=>141|105=>298|21=>21|5=>5|70=>226|20=>20|37=>22|75=>140|127=>272|164=>295|46=>184|119=>311|139=>314|138=>313|146=>243|51=>242|80=>230|n=>n,fun|1=>0|3=>6|4=>7|n=>n⟩
theorem Tryz.lays155:Go.Proofs.Lays.n155 Tryz.prog Tryz.lays155_ren:={
 mixed:=by kernel_rfl
 f138:=Tryz.func275.trans (congrArg some (by kernel_rfl))
 f143:=Tryz.func72.trans (congrArg some (by kernel_rfl))
 f154:=Tryz.func249.trans (congrArg some (by kernel_rfl))
 f155:=Tryz.func196.trans (congrArg some (by kernel_rfl))
 f165:=Tryz.func193.trans (congrArg some (by kernel_rfl))
 f166:=Tryz.func194.trans (congrArg some (by kernel_rfl))
 f169:=Tryz.func195.trans (congrArg some (by kernel_rfl))
 f195:=Tryz.func285.trans (congrArg some (by kernel_rfl))
 f197:=Tryz.func276.trans (congrArg some (by kernel_rfl))
 f217:=Tryz.func156.trans (congrArg some (by kernel_rfl))
 f218:=Tryz.func286.trans (congrArg some (by kernel_rfl))
 f219:=Tryz.func113.trans (congrArg some (by kernel_rfl))
 f224:=Tryz.func158.trans (congrArg some (by kernel_rfl))
 f225:=Tryz.func157.trans (congrArg some (by kernel_rfl))
 f240:=Tryz.func247.trans (congrArg some (by kernel_rfl))
 f241:=Tryz.func248.trans (congrArg some (by kernel_rfl))
 f260:=Tryz.func287.trans (congrArg some (by kernel_rfl))
 f266:=Tryz.func213.trans (congrArg some (by kernel_rfl))
 f267:=Tryz.func159.trans (congrArg some (by kernel_rfl))
 f276:=Tryz.func273.trans (congrArg some (by kernel_rfl))
 f277:=Tryz.func274.trans (congrArg some (by kernel_rfl))
 f314:=Tryz.func214.trans (congrArg some (by kernel_rfl))
 t0:=Tryz.underlying0
 a0:=Tryz.isAgg0
 z0:=Tryz.sizeOf0
 v0:=Tryz.zeroValue0
 t3:=Tryz.underlying3
 a3:=Tryz.isAgg3
 z3:=Tryz.sizeOf3
 v3:=Tryz.zeroValue3
 t4:=Tryz.underlying4
 a4:=Tryz.isAgg4
 z4:=Tryz.sizeOf4
 v4:=Tryz.zeroValue4
 t5:=Tryz.underlying5
 a5:=Tryz.isAgg5
 z5:=Tryz.sizeOf5
 v5:=Tryz.zeroValue5
 t9:=Tryz.underlying9
 a9:=Tryz.isAgg9
 z9:=Tryz.sizeOf9
 v9:=Tryz.zeroValue9
 t20:=Tryz.underlying20
 a20:=Tryz.isAgg20
 z20:=Tryz.sizeOf20
 v20:=Tryz.zeroValue20
 t21:=Tryz.underlying21
 a21:=Tryz.isAgg21
 z21:=Tryz.sizeOf21
 v21:=Tryz.zeroValue21
 t37:=Tryz.underlying22
 a37:=Tryz.isAgg22
 z37:=Tryz.sizeOf22
 v37:=Tryz.zeroValue22
 t46:=Tryz.underlying184
 a46:=Tryz.isAgg184
 z46:=Tryz.sizeOf184
 v46:=Tryz.zeroValue184
 t51:=Tryz.underlying242
 a51:=Tryz.isAgg242
 z51:=Tryz.sizeOf242
 v51:=Tryz.zeroValue242
 t70:=Tryz.underlying226
 a70:=Tryz.isAgg226
 z70:=Tryz.sizeOf226
 v70:=Tryz.zeroValue226
 t72:=Tryz.underlying228
 a72:=Tryz.isAgg228
 z72:=Tryz.sizeOf228
 v72:=Tryz.zeroValue228
 t75:=Tryz.underlying140
 a75:=Tryz.isAgg140
 z75:=Tryz.sizeOf140
 v75:=Tryz.zeroValue140
 t76:=Tryz.underlying141
 a76:=Tryz.isAgg141
 z76:=Tryz.sizeOf141
 v76:=Tryz.zeroValue141
 t105:=Tryz.underlying298
 a105:=Tryz.isAgg298
 z105:=Tryz.sizeOf298
 v105:=Tryz.zeroValue298
 t119:=Tryz.underlying311
 a119:=Tryz.isAgg311
 z119:=Tryz.sizeOf311
 t127:=Tryz.underlying272
 a127:=Tryz.isAgg272
 z127:=Tryz.sizeOf272
 v127:=Tryz.zeroValue272
 t138:=Tryz.underlying313
 a138:=Tryz.isAgg313
 z138:=Tryz.sizeOf313
 v138:=Tryz.zeroValue313
 t139:=Tryz.underlying314
 a139:=Tryz.isAgg314
 z139:=Tryz.sizeOf314
 v139:=Tryz.zeroValue314
 t146:=Tryz.underlying243
 a146:=Tryz.isAgg243
 z146:=Tryz.sizeOf243
 v146:=Tryz.zeroValue243
 t164:=Tryz.underlying295
 a164:=Tryz.isAgg295
 z164:=Tryz.sizeOf295
 v164:=Tryz.zeroValue295
 g1:=by kernel_rfl
 g3:=by kernel_rfl
 g4:=by kernel_rfl }
theorem Tryz.Builder_Extra_155:Builder.Extra Tryz.prog Tryz.lays155_ren:={
 sizeBuilder:=by kernel_rfl
 liesBuilder:=by kernel_rfl
 t5:=Tryz.underlying5
 a5:=Tryz.isAgg5
 z5:=Tryz.sizeOf5
 v5:=Tryz.zeroValue5
 infoByte:=by kernel_rfl
 cellsByte:=by kernel_rfl
 sizeByte:=by kernel_rfl
 neB5:=by decide }
open Go.RowKit Go.Sort Go.Lib in
theorem Tryz.strings_ReplaceAll (s old new:ByteArray)(m:Int)(w:World)(hs:s.size<4294967281) (p:w.cell? ⟨0,0,none⟩=some (.int .i64 m)) (u:1<=old.size) (k:s.size+Lib.countB s old*new.size<=140737488355328) :
  Calls Tryz.prog 196 #[.string s,.string old,.string new] w fun e w'=>
   e = .returned (.string ⟨(Lib.replaceAll s.data.toList old.data.toList new.data.toList).toArray⟩)/\Below w.heap.size w w':=Any.strings_ReplaceAll Tryz.lays155 Tryz.Builder_Extra_155 s old new m w hs p u k
end Go.Proofs
namespace Go.Pi
open Go.Proofs
theorem strings_ReplaceAll.ok (n:Nat):strings_ReplaceAll.e.Oks E (cx n) n:=fun _ _ _ _ h=>nRepl_ok (g:=0) (fun s old new m w z u p k=>Tryz.strings_ReplaceAll s old new m w z u p k) (.tail _ (.head _)) h
end Go.Pi
end
section
namespace Go.Proofs
open Go.Shelf Go.RowKit Go.Lib Go.Pi
section
variable {P:Program}
theorem t3_ (TS TE TI:TypeId)(Z:Value)(i0:TypeInfo) (uS:P.underlying TS=some (.slice TE)) (uI:P.underlying TI=some (.int .i64)) (hi0:P.info? TE=some i0) (hz2:i0.zero=some Z) (hz0:i0.size=1) (hz1:i0.bytes=16) (hZK:Z.cells.size=1)
  (w:World) (g n c i:Nat) (cur:Array Value) (hg:w.heap[g]?=some (.cells cur TE (0,0))) (hs:cur.size=c) (hnc:n<=c) (hi:i<n)
  (gv m vc:Nat) (curv:Array Value) (Tv:TypeId) (hgv:w.heap[gv]?=some (.cells curv Tv (0,0))) (hmv:m<=curv.size) (us:List Value) (hul:us=curv.toList.take (m)) (h1u:∀ v ∈ us,v.oneCell'=true) (hm:0<m) (hroom:c<n+m)
  (hbig:(n+m)*16<=140737488355328) (h1:∀ v ∈ cur.toList.take (n),v.oneCell'=true) :
  ∃ G N W1 R1 W2 A,Hid (N=w.heap.size)/\n+m<=G/\G<=maxLen /\
    (∀ ty,(Builtin.append_ #[TS,TI] ty #[.slice (some ⟨g,0,none⟩) i c,.int .i64 ((n:Int)+(m:Int) - (i:Int))]).run P w = .ok (.slice (some ⟨N,0,none⟩) (n+m) G) W1) /\
    (∀ ty dc,(Builtin.copy_ #[TS,TS] ty #[.slice (some ⟨N,i,none⟩) (n+m - i) dc,.slice (some ⟨gv,0,none⟩) m vc]).run P W1 = .ok (goInt m) (W1.setRow N R1)) /\
    (W1.setRow N R1).drew=W2 /\
    (∀ ty dc sc,(Builtin.copy_ #[TS,TS] ty #[.slice (some ⟨N,(i+m),none⟩) (n+m - (i+m)) dc,.slice (some ⟨g,i,none⟩) (n - i) sc]).run P W2 = .ok (goInt (n - i)) (W2.setRow N A)) /\
    Hid (n+m<=G/\G<=maxLen/\(W2.setRow N A).heap[w.heap.size]?=some (.cells A TE (0,0))/\A.size=G/\A.toList.take ((n+m))=(cur.toList.take (n)).take (i)++us++(cur.toList.take (n)).drop (i)/\w.grownBy (W2.setRow N A) none):=by
 have p:us.length=m:=by rw [hul,List.length_take,Array.length_toList];omega
 have hsz:(P.info? TE).map (·.size)=some 1:=by rw [hi0];simp [hz0]
 have hgd:w.drew.heap[g]?=some (.cells cur TE (0,0)):=hg;have hgl:g<w.heap.size:=(Array.getElem?_eq_some_iff.1 hg).1;have hgvl:gv<w.heap.size:=(Array.getElem?_eq_some_iff.1 hgv).1;obtain ⟨olds,z⟩:∃ olds,olds=(cur.toList.take (n)).take (i):=⟨_,rfl⟩
 have J:olds.length=i:=by rw [z];simp [hs];omega
 obtain ⟨G,hG⟩:∃ G,G=grownCap w (n+m) c TE:=⟨_,rfl⟩
 have hGn:n+m<=G:=by rw [hG];exact grownCap_ge w _ _ _
 have hGm:G<=maxLen:=by rw [hG];exact grownCap_le_maxLen w (n+m) c TE (by unfold maxLen;omega)
 obtain ⟨ROW,U⟩:∃ ROW:Array Value,ROW=olds.toArray++Builtin.zeroCells Z.cells (n+m - i)++Builtin.zeroCells Z.cells (G - (n+m)):=⟨_,rfl⟩
 have Y:ROW.size=G:=by rw [U];simp [Builtin.zeroCells,J,hZK];omega
 have hRt:ROW.toList.take (i)=olds:=by rw [U];simp only [Array.toList_append,List.append_assoc];rw [List.take_append_of_le_length (by simp [J]),List.take_of_length_le (by simp [J])]
 have hkk:(n:Int)+(m:Int) - (i:Int)=((n+m - i:Nat):Int):=by omega
 have hrz:∀ ty,(Builtin.append_ #[TS,TI] ty #[.slice (some ⟨g,0,none⟩) i c,.int .i64 ((n:Int)+(m:Int) - (i:Int))]).run P w =
   .ok (.slice (some ⟨w.heap.size,0,none⟩) (n+m) G) (w.drew.alloc (.cells ROW TE)):=fun ty=>by
  have h:=Lib.run_append_grow_zeros (P:=P) w TS TI ty TE i0 _ .i64 .i64 uS uI hi0 hz2 (some ⟨g,0,none⟩) i c olds (by
   rw [hz0];exact run_firstCells_some w.drew 1 i ⟨g,0,none⟩ i c olds (by rw [Nat.mul_one];exact J) (fun j v T=>by
    have hj2:=(List.getElem?_eq_some_iff.1 T).1;rw [z,List.getElem?_take_of_lt (by omega),List.getElem?_take_of_lt (by omega),Array.getElem?_toList] at T;rw [Addr.add_lit,Nat.zero_add];simp only [World.cell?,hgd];exact T)) (n+m - i) (by omega) (by omega) (by omega) (by omega) (by rw [hz1];omega) (by rw [hz1,show i+(n+m - i)=n+m by omega];exact growslice_fits hroom hbig)
  rw [show i+(n+m - i)=n+m by omega,<-hG,<-U] at h;rw [hkk];exact h
 obtain ⟨N,hN⟩:∃ N,N=w.heap.size:=⟨_,rfl⟩
 rw [<-hN] at hrz;obtain ⟨W1,V⟩:∃ W1,W1=w.drew.alloc (.cells ROW TE):=⟨_,rfl⟩
 rw [<-V] at hrz;have hN1:W1.heap[N]?=some (.cells ROW TE (0,0)):=by rw [V,hN];exact heap_alloc_new w.drew _
 have O:∀ b,b<w.heap.size->W1.heap[b]?=w.heap[b]?:=fun b hb=>by rw [V];exact heap_alloc_old w.drew _ hb
 have I:w.grownBy W1 none:=by rw [V];exact ⟨rfl,rfl,rfl,by simp,fun k hk _=>heap_alloc_old w.drew _ hk⟩
 obtain ⟨R1,hR1⟩:∃ R1,R1=(ROW.toList.take (i)++us++ROW.toList.drop (i+us.length)).toArray:=⟨_,rfl⟩
 have hR1s:R1.size=G:=by rw [hR1];simp [p,Y];omega
 have hcp1:∀ ty dc,(Builtin.copy_ #[TS,TS] ty #[.slice (some ⟨N,i,none⟩) (n+m - i) dc,.slice (some ⟨gv,0,none⟩) m vc]).run P W1 = .ok (goInt m) (W1.setRow N R1):=fun ty dc=>by
  have:=ex_ (P:=P) W1 TS TS ty TE 1 N (i) (n+m - i) dc ⟨gv,0,none⟩ m vc ROW TE us uS hsz hN1 (by rw [p];simp only [Nat.min_def];split<;>omega)
   (fun j v T=>by
     have hj2:=(List.getElem?_eq_some_iff.1 T).1;rw [hul,List.getElem?_take_of_lt (by omega),Array.getElem?_toList] at T;rw [Addr.add_lit,Nat.zero_add];simp only [World.cell?,O gv hgvl,hgv];exact T) (by rw [p,Y];omega) h1u
  rw [this,hR1]
  congr 2
  simp only [Nat.min_def];split<;>omega
 obtain ⟨W2,u⟩:∃ W2,W2=(W1.setRow N R1).drew:=⟨_,rfl⟩
 have hN2:W2.heap[N]?=some (.cells R1 TE (0,0)):=by rw [u];exact setRow_heap _ _ _ _ _ _ hN1
 have hg2:W2.heap[g]?=some (.cells cur TE (0,0)):=by rw [u];show (W1.setRow N R1).heap[g]?=_;rw [setRow_other _ _ _ _ (by omega),O g hgl];exact hg
 obtain ⟨mv,B⟩:∃ mv,mv=(cur.toList.take (n)).drop (i):=⟨_,rfl⟩
 have S:mv.length=(n - i):=by rw [B];simp [hs];omega
 obtain ⟨A,hA⟩:∃ A,A=(R1.toList.take ((i+m))++mv++R1.toList.drop ((i+m)+mv.length)).toArray:=⟨_,rfl⟩
 have hcp2:∀ ty dc sc,(Builtin.copy_ #[TS,TS] ty #[.slice (some ⟨N,(i+m),none⟩) (n+m - (i+m)) dc,.slice (some ⟨g,i,none⟩) (n - i) sc]).run P W2 = .ok (goInt (n - i)) (W2.setRow N A):=fun ty dc sc=>by
  have:=ex_ (P:=P) W2 TS TS ty TE 1 N ((i+m)) (n+m - (i+m)) dc ⟨g,i,none⟩ (n - i) sc R1 TE mv uS hsz hN2 (by rw [S];simp only [Nat.min_def];split<;>omega)
   (fun j v T=>by
     have hj2:=(List.getElem?_eq_some_iff.1 T).1;rw [B,List.getElem?_drop,List.getElem?_take_of_lt (by omega),Array.getElem?_toList] at T;rw [Addr.add_lit];simp only [World.cell?,hg2];exact T) (by rw [S,hR1s];omega) (fun v hv=>h1 v (by rw [B] at hv;exact List.mem_of_mem_drop hv))
  rw [this,hA]
  congr 2
  simp only [Nat.min_def];split<;>omega
 have kA:Hid (n+m<=G/\G<=maxLen/\(W2.setRow N A).heap[w.heap.size]?=some (.cells A TE (0,0))/\A.size=G/\A.toList.take ((n+m))=(cur.toList.take (n)).take (i)++us++(cur.toList.take (n)).drop (i)/\w.grownBy (W2.setRow N A) none):=by
  refine ⟨hGn,hGm,by rw [<-hN];exact setRow_heap _ _ _ _ _ _ hN2,by rw [hA];simp [S,hR1s];omega,?_,?_⟩
  . have e1:R1.toList.take ((i+m))=olds++us:=by
     rw [hR1];simp only [List.toList_toArray];rw [List.take_append_of_le_length (by simp [p,Y];omega),List.take_of_length_le (by simp [p,Y];omega),hRt]
    rw [hA];simp only [List.toList_toArray];rw [e1,List.take_append_of_le_length (by simp [J,p,S];omega),List.take_of_length_le (by simp [J,p,S];omega),z,B]
  . refine ⟨by rw [u];exact I.os,by rw [u];exact I.tape,by rw [u];exact I.output,?_,fun k hk hne => ?_⟩
    . have:(W2.setRow N A).heap.size=W1.heap.size:=by rw [u];simp [World.setRow,World.drew]
      rw [this];exact I.size
    . rw [setRow_other _ _ _ _ (by omega),u]
      show (W1.setRow N R1).heap[k]?=_;rw [setRow_other _ _ _ _ (by omega)];exact O k hk
 exact ⟨G,N,W1,R1,W2,A,hN,hGn,hGm,hrz,hcp1,u.symm,hcp2,kA⟩
end
set_option maxRecDepth 1000000 in
theorem InsEnd237 (w:World)(S:Value)(n:Nat)(vals:List Value)(T:w.ownsRow 0 9 1 S n vals)(gv m vc:Nat)(us:List Value)(V:us.length=m)(J:∀ j u,us[j]?=some u->w.cell? ⟨gv,j,none⟩=some u)(h1u:∀ v ∈ us,v.oneCell'=true)(hm:0<m) (hb:(n+m)*16<=140737488355328) :
  Calls Tryz.prog 237 #[S,.int .i64 n,.slice (some ⟨gv,0,none⟩) m vc] w fun e w'=>∃ R,e = .returned R/\w'.ownsRow 0 9 1 R (n+m) (vals++us)/\lh_ w w' (fun b=>cG_ S b≠0) /\
   ∀ b,cG_ R b≠0->(w.heap.size<=b\/cG_ S b≠0)/\b<w'.heap.size:=by
 obtain ⟨i0,p⟩:=Option.isSome_iff_exists.1 (show (Tryz.prog.info? 9).isSome=true by kernel_rfl);have k:i0.size=1:=by
  have:(Tryz.prog.info? 9).map (·.size)=some 1:=by kernel_rfl
  rw [p] at this;simpa using this
 have I:i0.bytes=16:=by
  have:(Tryz.prog.info? 9).map (·.bytes)=some 16:=by kernel_rfl
  rw [p] at this;simpa using this
 have B:i0.zero=some (.string ByteArray.empty):=by
  have:(Tryz.prog.info? 9).bind (·.zero)=some (.string ByteArray.empty):=by kernel_rfl
  rw [p] at this;simpa using this
 have hz3:¬ ((m:Int)=0):=by omega
 have U:Tryz.prog.follows .mixedOrders=true:=by kernel_rfl
 have z:∀ ty,∃ v' w',(Builtin.append_ #[27,27] ty #[S,.slice (some ⟨gv,0,none⟩) m vc]).run Tryz.prog w = .ok v' w'/\w'.ownsRow 0 9 1 v' (n+m) (vals++us)/\lh_ w w' (fun b=>cG_ S b≠0) /\
   ∀ b,cG_ v' b≠0->(w.heap.size<=b\/cG_ S b≠0)/\b<w'.heap.size:=fun ty=>by
  have:=gC_ (P:=Tryz.prog) w 27 ty 9 i0 _ Tryz.underlying27 p B (by rw [k];rfl) (by rw [k];decide) S n vals (by rw [k];exact T) (.slice (some ⟨gv,0,none⟩) m vc) m us (by rw [k,Nat.mul_one];exact V) (.inl ⟨_,_,rfl,fun j u h=>by rw [Addr.add_lit,Nat.zero_add];exact J j u h⟩) h1u (by unfold maxLen;omega) (by rw [I];exact hb);rw [k] at this;exact this
 obtain ⟨v',w',k1,k2,k3⟩:=z 27;rcases (ey_.1 T).2 with ⟨rfl,rfl⟩|⟨g,c,cur,rfl,-,hg,hnc,Z,Y,O⟩
 . clear z T J B p k I
   go_enter Tryz.func237,Tryz.ntmps237
   go_wp2_with (at_builtin;refine Lib.wpList_append_run _ rfl _ _ 27 27 rfl _ _ rfl rfl _ _ k1 ?_)
   go_ret
   exact ⟨_,rfl,k2,k3⟩
 . clear z T J B hg O Y p k I
   unfold maxLen at Z
   go_enter Tryz.func237,Tryz.ntmps237
   go_wp2_with (at_builtin;refine Lib.wpList_append_run _ rfl _ _ 27 27 rfl _ _ rfl rfl _ _ k1 ?_)
   all_goals (go_ret;exact ⟨_,rfl,k2,k3⟩)
set_option maxRecDepth 1000000 in
theorem ur_ (w:World)(S:Value)(n i:Nat)(vals:List Value)(J:w.ownsRow 0 9 1 S n vals)(U:Value)(us:List Value)(z:w.ownsRow 0 9 1 U 0 us)(hi:i<=n) :
  Calls Tryz.prog 237 #[S,.int .i64 i,U] w fun e w'=>e = .returned S/\w'=w:=by
 rcases (ey_.1 J).2 with ⟨rfl,rfl⟩|⟨g,c,cur,rfl,-,V,Z,I,p,k⟩
 . have T:i=0:=by omega
   subst T;rcases (ey_.1 z).2 with ⟨rfl,-⟩|⟨gv,vc,curv,rfl,-,u,O,I,p,k⟩
   . clear J z
     go_enter Tryz.func237,Tryz.ntmps237
     go_wp2_with fail
     go_ret
     exact ⟨rfl,rfl⟩
   . clear J z u p k
     go_enter Tryz.func237,Tryz.ntmps237
     go_wp2_with fail
     go_ret
     exact ⟨rfl,rfl⟩
 . unfold maxLen at I
   have hic:i<=c:=by omega
   rcases (ey_.1 z).2 with ⟨rfl,-⟩|⟨gv,vc,curv,rfl,-,u,O,Y,B,m⟩
   . clear J z V p k
     go_enter Tryz.func237,Tryz.ntmps237
     go_wp2_with fail
     all_goals (go_ret;exact ⟨rfl,rfl⟩)
   . clear J z V p k u B m
     go_enter Tryz.func237,Tryz.ntmps237
     go_wp2_with fail
     all_goals (go_ret;exact ⟨rfl,rfl⟩)
set_option maxRecDepth 1000000 in
theorem se_ (w:World)(g n c i:Nat)(cur:Array Value) (hg:w.heap[g]?=some (.cells cur 9 (0,0))) (hs:cur.size=c) (hc:c<=9223372036854775807) (hi:i<n)
  (gv m vc:Nat) (curv:Array Value) (Tv:TypeId) (z:w.heap[gv]?=some (.cells curv Tv (0,0))) (hmv:m<=curv.size) (U:gv≠g) (us:List Value) (O:us=curv.toList.take (m)) (h1u:∀ v ∈ us,v.oneCell'=true) (hm:0<m) (hroom:n+m<=c)
  (h1:∀ v ∈ cur.toList.take (n),v.oneCell'=true) :
  Calls Tryz.prog 237 #[.slice (some ⟨g,0,none⟩) n c,.int .i64 i,.slice (some ⟨gv,0,none⟩) m vc] w fun e w'=>e = .returned (.slice (some ⟨g,0,none⟩) (n+m) c) /\
   ∃ A,w'=w.drew.setRow g A/\A.size=cur.size/\A.toList.take ((n+m))=(cur.toList.take (n)).take (i)++us++(cur.toList.take (n)).drop (i):=by
 have S:(Tryz.prog.info? 9).map (·.size)=some 1:=by kernel_rfl
 have k:us.length=m:=by rw [O,List.length_take,Array.length_toList];omega
 have hov:∀ lb cb,(callFunc 264 #[.slice (some ⟨gv,0,none⟩) m vc,.slice (some ⟨g,(i+m),none⟩) lb cb]).run Tryz.prog w = .ok (.value (.bool false)) w:=fun lb cb=>by
  rw [run_callFunc_extern Tryz.func264 (by kernel_rfl) (by kernel_rfl) (by kernel_rfl) (e:=Extern.SlicesOverlaps.overlaps #[27,27] #[4]) (by kernel_rfl),
   Lib.run_overlaps_apart w 27 4 9 Tryz.underlying27 1 Tryz.sizeOf9 ⟨gv,0,none⟩ ⟨g,(i+m),none⟩ m vc lb cb U Tv 9 curv.size cur.size (by simp [World.shape?,z]) (by simp [World.shape?,hg]) (by omega) (by simp [World.frozen?,z]) (by simp [World.frozen?,z])]
  rfl
 obtain ⟨mv,p⟩:∃ mv,mv=(cur.toList.take (n)).drop (i):=⟨_,rfl⟩
 have u:mv.length=(n - i):=by rw [p];simp [hs];omega
 have I:w.drew.heap[g]?=some (.cells cur 9 (0,0)):=hg;obtain ⟨B,hB⟩:∃ B,B=(cur.toList.take ((i+m))++mv++cur.toList.drop ((i+m)+mv.length)).toArray:=⟨_,rfl⟩
 have Z:∀ ty dc sc,(Builtin.copy_ #[27,27] ty #[.slice (some ⟨g,(i+m),none⟩) (n+m - (i+m)) dc,.slice (some ⟨g,i,none⟩) (n+m - i) sc]).run Tryz.prog w.drew = .ok (goInt (n - i)) (w.drew.setRow g B):=fun ty dc sc=>by
  have:=ex_ (P:=Tryz.prog) w.drew 27 27 ty 9 1 g ((i+m)) (n+m - (i+m)) dc ⟨g,i,none⟩ (n+m - i) sc cur 9 mv Tryz.underlying27 S I (by rw [u];simp only [Nat.min_def];split<;>omega)
   (fun j v T=>by
     have hj2:=(List.getElem?_eq_some_iff.1 T).1;rw [p,List.getElem?_drop,List.getElem?_take_of_lt (by omega),Array.getElem?_toList] at T;rw [Addr.add_lit];simp only [World.cell?,I];exact T) (by rw [u,hs];omega) (fun v hv=>h1 v (by rw [p] at hv;exact List.mem_of_mem_drop hv))
  rw [this,hB]
  congr 2
  simp only [Nat.min_def];split<;>omega
 have J:B.size=cur.size:=by rw [hB];simp [u,hs];omega
 have V:(w.drew.setRow g B).heap[g]?=some (.cells B 9 (0,0)):=setRow_heap _ _ _ _ _ _ I;obtain ⟨A,hA⟩:∃ A,A=(B.toList.take (i)++us++B.toList.drop (i+us.length)).toArray:=⟨_,rfl⟩
 have Y:∀ ty dc,(Builtin.copy_ #[27,27] ty #[.slice (some ⟨g,i,none⟩) (n+m - i) dc,.slice (some ⟨gv,0,none⟩) m vc]).run Tryz.prog (w.drew.setRow g B) = .ok (goInt m) (w.drew.setRow g A):=fun ty dc=>by
  have:=ex_ (P:=Tryz.prog) (w.drew.setRow g B) 27 27 ty 9 1 g (i) (n+m - i) dc ⟨gv,0,none⟩ m vc B 9 us Tryz.underlying27 S V (by rw [k];simp only [Nat.min_def];split<;>omega)
   (fun j v T=>by
     have hj2:=(List.getElem?_eq_some_iff.1 T).1;rw [O,List.getElem?_take_of_lt (by omega),Array.getElem?_toList] at T;rw [Addr.add_lit,Nat.zero_add];have e:(w.drew.setRow g B).heap[gv]?=some (.cells curv Tv (0,0)):=by rw [setRow_other _ _ _ _ U];exact z
     simp only [World.cell?,e];exact T) (by rw [k,J,hs];omega) h1u
  rw [this,hA,setRow_setRow]
  congr 2
  simp only [Nat.min_def];split<;>omega
 have kA:Hid (A.size=cur.size/\A.toList.take ((n+m))=(cur.toList.take (n)).take (i)++us++mv):=by
  have e1:B.toList.take (i)=(cur.toList.take (n)).take (i):=by
   rw [hB];simp only [List.toList_toArray,List.append_assoc];rw [List.take_append_of_le_length (by simp [hs];omega),List.take_take,List.take_take]
   congr 1;omega
  have e2:(B.toList.drop (i+us.length)).take mv.length=mv:=by rw [hB];simp only [List.toList_toArray,List.append_assoc];rw [List.drop_append,List.drop_eq_nil_of_le (by simp [k,hs];omega),List.nil_append,List.length_take,show i+us.length - min ((i+m)) cur.toList.length=0 by simp [k,hs];omega,List.drop_zero,List.take_append_of_le_length (Nat.le_refl _),List.take_of_length_le (Nat.le_refl _)]
  refine ⟨by rw [hA];simp [k,J,hs];omega,?_⟩;rw [hA];simp only [List.toList_toArray];rw [List.take_append,List.take_of_length_le (by simp [k,J,hs];omega),e1]
  congr 1
  rw [show (n+m) - (List.take (i) (List.take (n) cur.toList)++us).length=mv.length by simp [k,u,hs];omega];exact e2
 rw [p] at kA;have hnc:n<=c:=by omega
 have hic:i<=c:=by omega
 have hz1:¬ ((m:Int)=0):=by omega
 have hz2:¬ ((i:Int)=(n:Int)):=by omega
 have mixed:Tryz.prog.follows .mixedOrders=true:=by kernel_rfl
 have hw1:IntKind.i64.wrap ((i:Int)+(m:Int))=(i:Int)+(m:Int):=by rw [IntKind.wrap_i64];omega
 have hb1:(0:Int)<=(i:Int)+(m:Int):=by omega
 have hin:i<=n:=by omega
 have htn:((i:Int)+(m:Int)).toNat=i+m:=by omega
 have hb2:¬ (c=i+m):=by omega
 have hb3:(i:Int)<=(n:Int)+(m:Int):=by omega
 have hb4:¬ (c=i):=by omega
 clear hB J V hA p u I hg z O k h1 h1u S hs hmv
 go_enter Tryz.func237,Tryz.ntmps237
 go_wp2_with (simp only [hov])
 go_region_law_o (refine ga_ rfl _ _ 27 27 rfl _ _ (by simp [Act.eval,Act.put]) (by simp [Act.eval,Act.put]) (Z _ _ _) ?_)
 go_wp2_with (at_builtin;refine h8_ _ rfl _ _ 27 27 rfl _ _ rfl rfl (Y _ _) ?_)
 go_ret
 exact ⟨rfl,A,rfl,kA.out.1,kA.out.2⟩
set_option maxRecDepth 1000000 in
theorem ut_ (w:World)(g n c i:Nat)(cur:Array Value) (hg:w.heap[g]?=some (.cells cur 9 (0,0))) (hs:cur.size=c) (hnc:n<=c) (hi:i<n)
  (gv m vc:Nat) (curv:Array Value) (Tv:TypeId) (S:w.heap[gv]?=some (.cells curv Tv (0,0))) (O:m<=curv.size) (us:List Value) (J:us=curv.toList.take (m)) (V:∀ v ∈ us,v.oneCell'=true) (hm:0<m) (u:c<n+m)
  (p:(n+m)*16<=140737488355328) (h1:∀ v ∈ cur.toList.take (n),v.oneCell'=true) :
  Calls Tryz.prog 237 #[.slice (some ⟨g,0,none⟩) n c,.int .i64 i,.slice (some ⟨gv,0,none⟩) m vc] w fun e w'=>∃ C A,e = .returned (.slice (some ⟨w.heap.size,0,none⟩) (n+m) C)/\n+m<=C/\C<=maxLen /\
   w'.heap[w.heap.size]?=some (.cells A 9 (0,0))/\A.size=C/\A.toList.take ((n+m))=(cur.toList.take (n)).take (i)++us++(cur.toList.take (n)).drop (i)/\w.grownBy w' none:=by
 obtain ⟨i0,k⟩:=Option.isSome_iff_exists.1 (show (Tryz.prog.info? 9).isSome=true by kernel_rfl);have I:i0.size=1:=by
  have:(Tryz.prog.info? 9).map (·.size)=some 1:=by kernel_rfl
  rw [k] at this;simpa using this
 have B:i0.bytes=16:=by
  have:(Tryz.prog.info? 9).map (·.bytes)=some 16:=by kernel_rfl
  rw [k] at this;simpa using this
 have z:i0.zero=some (.string ByteArray.empty):=by
  have:(Tryz.prog.info? 9).bind (·.zero)=some (.string ByteArray.empty):=by kernel_rfl
  rw [k] at this;simpa using this
 obtain ⟨G,N,W1,R1,W2,A,hNN,hGn,hGm,Z,hcp1,U,T,kA⟩:=t3_ 27 9 3 _ i0 Tryz.underlying27 Tryz.underlying3 k z I B rfl w g n c i cur hg hs hnc hi gv m vc curv Tv S O us J V hm u p h1;have hic:i<=c:=by omega
 have hz3:¬ ((m:Int)=0):=by omega
 have hz4:¬ ((i:Int)=(n:Int)):=by omega
 have hz5:(c:Int)<(n:Int)+(m:Int):=by omega
 have Y:Tryz.prog.follows .mixedOrders=true:=by kernel_rfl
 have hG63:G<=9223372036854775807:=by unfold maxLen at hGm;omega
 have hw1:IntKind.i64.wrap ((n:Int)+(m:Int))=(n:Int)+(m:Int):=by rw [IntKind.wrap_i64];omega
 have hw2:IntKind.i64.wrap ((n:Int)+(m:Int) - (i:Int))=(n:Int)+(m:Int) - (i:Int):=by rw [IntKind.wrap_i64];omega
 have hw3:IntKind.i64.wrap ((i:Int)+(m:Int))=(i:Int)+(m:Int):=by rw [IntKind.wrap_i64];omega
 have hb1:(0:Int)<=(i:Int)+(m:Int):=by omega
 have htn:((i:Int)+(m:Int)).toNat=i+m:=by omega
 have hGi:¬ (G=i):=by omega
 have hGim:¬ (G=i+m):=by omega
 have hb3:(i:Int)<=(n:Int)+(m:Int):=by omega
 have hb4:¬ (c=i):=by omega
 have hinm:i<=n+m:=by omega
 have himn:i+m<=n+m:=by omega
 have hin:i<=n:=by omega
 clear J h1 V hg S hs O I B z k p
 go_enter Tryz.func237,Tryz.ntmps237
 go_wp2_with (at_builtin;refine Lib.wpList_append_run _ rfl _ _ 27 3 rfl _ _ rfl rfl _ _ (Z _) ?_)
 go_region_law_o (simp only [U];refine ga_ rfl _ _ 27 27 rfl _ _ (by simp [Act.eval,Act.put]) (by simp [Act.eval,Act.put]) (T _ _ _) ?_)
 go_wp2_with fail
 go_ret
 exact ⟨G,A,by rw [hNN.out];rfl,kA.out⟩
theorem insM237:InsM Tryz.prog 237 9 1 16:=by
 intro w S n vals U m us i V hU hdis hi h1 T hb;simp only [Nat.mul_one];have hvl:=(ey_.1 V).1;by_cases hm:m=0
 . subst hm
   have hus:us=[]:=by have:=(ey_.1 hU).1;(try rw [Nat.zero_mul] at this);exact List.eq_nil_of_length_eq_zero this
   subst hus;refine (ur_ w S n i vals V U [] hU hi).mono ?_
   rintro e w' ⟨rfl,rfl⟩
   refine ⟨S,rfl,by rw [List.append_nil,List.take_append_drop];exact V,⟨rfl,rfl,rfl,Nat.le_refl _,fun _ _ _=>rfl⟩,fun b hb=>⟨.inr hb,pc_ V b hb⟩⟩
 . rcases (ey_.1 hU).2 with ⟨rfl,h0⟩|⟨gv,vc,curv,rfl,-,Z,hmc,hcm,hcs,z⟩
   . exact absurd h0 hm
   . by_cases hin:i=n
     . subst hin
       rw [List.take_of_length_le (by omega),List.drop_eq_nil_of_le (by omega),List.append_nil];exact InsEnd237 w S i vals V gv m vc us (ey_.1 hU).1 (fun j u h=>by have:=hU.cells (g:=gv) rfl j u h;rwa [Addr.add_lit,Nat.zero_add] at this) T (by omega) hb
     . rcases (ey_.1 V).2 with ⟨rfl,h0⟩|⟨g,c,cur,rfl,-,hg,hnc,J,p,k⟩
       . omega
       . have hne:gv≠g:=fun e=>by subst e;have:=hdis gv (by simp [cG_]);simp [cG_] at this
         have Y:m<=curv.size:=by rw [hcs];exact hmc
         by_cases B:n+m<=c
         . refine (se_ w g n c i cur hg p (by unfold maxLen at J;omega) (by omega) gv m vc curv 9 Z Y hne us z.symm T (by omega) B (by rw [k];exact h1)).mono ?_
           rintro e w' ⟨rfl,A,rfl,hA,O⟩
           rw [k] at O;have hgd:w.drew.heap[g]?=some (.cells cur 9 (0,0)):=hg;have hA2:=setRow_heap w.drew g cur A _ _ hgd;refine ⟨_,rfl,ey_.2 ⟨by rw [<-O];simp [hA,p];omega,.inr ⟨g,c,A,rfl,Nat.zero_le _,hA2,B,J,by rw [hA,p],O⟩⟩,⟨rfl,rfl,rfl,ks_ w g A,fun b _ hn => ?_⟩,fun b hb=>⟨.inr hb,?_⟩⟩
           . rw [setRow_other _ _ _ _ (fun e=>hn (by subst e;simp [cG_]))];rfl
           . have:g=b:=by simp only [cG_] at hb;exact Classical.byContradiction fun h=>hb (if_neg h)
             subst this;exact (Array.getElem?_eq_some_iff.1 hA2).1
         . refine (ut_ w g n c i cur hg p hnc (by omega) gv m vc curv 9 Z Y us z.symm T (by omega) (by omega) hb (by rw [k];exact h1)).mono ?_
           rintro e w' ⟨C,A,rfl,hC,hCm,hN,hA,O,I⟩
           rw [k] at O;refine ⟨_,rfl,ey_.2 ⟨by rw [<-O];simp [hA];omega,.inr ⟨_,C,A,rfl,Nat.zero_le _,hN,hC,hCm,hA,O⟩⟩,⟨I.os,I.tape,I.output,I.size,fun b hb _=>I.block b hb (by simp)⟩,fun b hb => ?_⟩;have:w.heap.size=b:=by simp only [cG_] at hb;exact Classical.byContradiction fun h=>hb (if_neg h)
           subst this;exact ⟨.inl (Nat.le_refl _),(Array.getElem?_eq_some_iff.1 hN).1⟩
end Go.Proofs
namespace Go.Pi
open Go.Proofs
theorem cO_.ok (n:Nat):cO_.e.Oks E (cx n) n:=fun _ _ _ _ h=>nIns_ok (t:=.str) (m1:=.d) (m2:=.d) (by decide) (by decide) insM237 h
end Go.Pi
end
section
namespace Go.Proofs
open Go.Shelf Go.RowKit Go.Lib Go.Pi
section
variable {P:Program}
theorem t2_ (TS TE TI:TypeId)(Z:Value)(i0:TypeInfo) (uS:P.underlying TS=some (.slice TE)) (uI:P.underlying TI=some (.int .i64)) (hi0:P.info? TE=some i0) (hz2:i0.zero=some Z) (hz0:i0.size=5) (hz1:i0.bytes=80) (hZK:Z.cells.size=5)
  (w:World) (g n c i:Nat) (cur:Array Value) (hg:w.heap[g]?=some (.cells cur TE (0,0))) (hs:cur.size=c*5) (hnc:n<=c) (hi:i<n)
  (gv m vc:Nat) (curv:Array Value) (Tv:TypeId) (hgv:w.heap[gv]?=some (.cells curv Tv (0,0))) (hmv:m*5<=curv.size) (us:List Value) (hul:us=curv.toList.take (m*5)) (h1u:∀ v ∈ us,v.oneCell'=true) (hm:0<m) (hroom:c<n+m)
  (hbig:(n+m)*80<=140737488355328) (h1:∀ v ∈ cur.toList.take (n*5),v.oneCell'=true) :
  ∃ G N W1 R1 W2 A,Hid (N=w.heap.size)/\n+m<=G/\G<=maxLen /\
    (∀ ty,(Builtin.append_ #[TS,TI] ty #[.slice (some ⟨g,0,none⟩) i c,.int .i64 ((n:Int)+(m:Int) - (i:Int))]).run P w = .ok (.slice (some ⟨N,0,none⟩) (n+m) G) W1) /\
    (∀ ty dc,(Builtin.copy_ #[TS,TS] ty #[.slice (some ⟨N,i*5,none⟩) (n+m - i) dc,.slice (some ⟨gv,0,none⟩) m vc]).run P W1 = .ok (goInt m) (W1.setRow N R1)) /\
    (W1.setRow N R1).drew=W2 /\
    (∀ ty dc sc,(Builtin.copy_ #[TS,TS] ty #[.slice (some ⟨N,(i+m)*5,none⟩) (n+m - (i+m)) dc,.slice (some ⟨g,i*5,none⟩) (n - i) sc]).run P W2 = .ok (goInt (n - i)) (W2.setRow N A)) /\
    Hid (n+m<=G/\G<=maxLen/\(W2.setRow N A).heap[w.heap.size]?=some (.cells A TE (0,0))/\A.size=G*5/\A.toList.take ((n+m)*5)=(cur.toList.take (n*5)).take (i*5)++us++(cur.toList.take (n*5)).drop (i*5)/\w.grownBy (W2.setRow N A) none):=by
 have p:us.length=m*5:=by rw [hul,List.length_take,Array.length_toList];omega
 have hsz:(P.info? TE).map (·.size)=some 5:=by rw [hi0];simp [hz0]
 have hgd:w.drew.heap[g]?=some (.cells cur TE (0,0)):=hg;have hgl:g<w.heap.size:=(Array.getElem?_eq_some_iff.1 hg).1;have hgvl:gv<w.heap.size:=(Array.getElem?_eq_some_iff.1 hgv).1;obtain ⟨olds,z⟩:∃ olds,olds=(cur.toList.take (n*5)).take (i*5):=⟨_,rfl⟩
 have J:olds.length=i*5:=by rw [z];simp [hs];omega
 obtain ⟨G,hG⟩:∃ G,G=grownCap w (n+m) c TE:=⟨_,rfl⟩
 have hGn:n+m<=G:=by rw [hG];exact grownCap_ge w _ _ _
 have hGm:G<=maxLen:=by rw [hG];exact grownCap_le_maxLen w (n+m) c TE (by unfold maxLen;omega)
 obtain ⟨ROW,U⟩:∃ ROW:Array Value,ROW=olds.toArray++Builtin.zeroCells Z.cells (n+m - i)++Builtin.zeroCells Z.cells (G - (n+m)):=⟨_,rfl⟩
 have Y:ROW.size=G*5:=by rw [U];simp [Builtin.zeroCells,J,hZK];omega
 have hRt:ROW.toList.take (i*5)=olds:=by rw [U];simp only [Array.toList_append,List.append_assoc];rw [List.take_append_of_le_length (by simp [J]),List.take_of_length_le (by simp [J])]
 have hkk:(n:Int)+(m:Int) - (i:Int)=((n+m - i:Nat):Int):=by omega
 have hrz:∀ ty,(Builtin.append_ #[TS,TI] ty #[.slice (some ⟨g,0,none⟩) i c,.int .i64 ((n:Int)+(m:Int) - (i:Int))]).run P w =
   .ok (.slice (some ⟨w.heap.size,0,none⟩) (n+m) G) (w.drew.alloc (.cells ROW TE)):=fun ty=>by
  have h:=Lib.run_append_grow_zeros (P:=P) w TS TI ty TE i0 _ .i64 .i64 uS uI hi0 hz2 (some ⟨g,0,none⟩) i c olds (by
   rw [hz0];exact run_firstCells_some w.drew 5 i ⟨g,0,none⟩ i c olds J (fun j v T=>by
    have hj2:=(List.getElem?_eq_some_iff.1 T).1;rw [z,List.getElem?_take_of_lt (by omega),List.getElem?_take_of_lt (by omega),Array.getElem?_toList] at T;rw [Addr.add_lit,Nat.zero_add];simp only [World.cell?,hgd];exact T)) (n+m - i) (by omega) (by omega) (by omega) (by omega) (by rw [hz1];omega) (by rw [hz1,show i+(n+m - i)=n+m by omega];exact growslice_fits hroom hbig)
  rw [show i+(n+m - i)=n+m by omega,<-hG,<-U] at h;rw [hkk];exact h
 obtain ⟨N,hN⟩:∃ N,N=w.heap.size:=⟨_,rfl⟩
 rw [<-hN] at hrz;obtain ⟨W1,V⟩:∃ W1,W1=w.drew.alloc (.cells ROW TE):=⟨_,rfl⟩
 rw [<-V] at hrz;have hN1:W1.heap[N]?=some (.cells ROW TE (0,0)):=by rw [V,hN];exact heap_alloc_new w.drew _
 have O:∀ b,b<w.heap.size->W1.heap[b]?=w.heap[b]?:=fun b hb=>by rw [V];exact heap_alloc_old w.drew _ hb
 have I:w.grownBy W1 none:=by rw [V];exact ⟨rfl,rfl,rfl,by simp,fun k hk _=>heap_alloc_old w.drew _ hk⟩
 obtain ⟨R1,hR1⟩:∃ R1,R1=(ROW.toList.take (i*5)++us++ROW.toList.drop (i*5+us.length)).toArray:=⟨_,rfl⟩
 have hR1s:R1.size=G*5:=by rw [hR1];simp [p,Y];omega
 have hcp1:∀ ty dc,(Builtin.copy_ #[TS,TS] ty #[.slice (some ⟨N,i*5,none⟩) (n+m - i) dc,.slice (some ⟨gv,0,none⟩) m vc]).run P W1 = .ok (goInt m) (W1.setRow N R1):=fun ty dc=>by
  have:=ex_ (P:=P) W1 TS TS ty TE 5 N (i*5) (n+m - i) dc ⟨gv,0,none⟩ m vc ROW TE us uS hsz hN1 (by rw [p];simp only [Nat.min_def];split<;>omega)
   (fun j v T=>by
     have hj2:=(List.getElem?_eq_some_iff.1 T).1;rw [hul,List.getElem?_take_of_lt (by omega),Array.getElem?_toList] at T;rw [Addr.add_lit,Nat.zero_add];simp only [World.cell?,O gv hgvl,hgv];exact T) (by rw [p,Y];omega) h1u
  rw [this,hR1]
  congr 2
  simp only [Nat.min_def];split<;>omega
 obtain ⟨W2,u⟩:∃ W2,W2=(W1.setRow N R1).drew:=⟨_,rfl⟩
 have hN2:W2.heap[N]?=some (.cells R1 TE (0,0)):=by rw [u];exact setRow_heap _ _ _ _ _ _ hN1
 have hg2:W2.heap[g]?=some (.cells cur TE (0,0)):=by rw [u];show (W1.setRow N R1).heap[g]?=_;rw [setRow_other _ _ _ _ (by omega),O g hgl];exact hg
 obtain ⟨mv,B⟩:∃ mv,mv=(cur.toList.take (n*5)).drop (i*5):=⟨_,rfl⟩
 have S:mv.length=(n - i)*5:=by rw [B];simp [hs];omega
 obtain ⟨A,hA⟩:∃ A,A=(R1.toList.take ((i+m)*5)++mv++R1.toList.drop ((i+m)*5+mv.length)).toArray:=⟨_,rfl⟩
 have hcp2:∀ ty dc sc,(Builtin.copy_ #[TS,TS] ty #[.slice (some ⟨N,(i+m)*5,none⟩) (n+m - (i+m)) dc,.slice (some ⟨g,i*5,none⟩) (n - i) sc]).run P W2 = .ok (goInt (n - i)) (W2.setRow N A):=fun ty dc sc=>by
  have:=ex_ (P:=P) W2 TS TS ty TE 5 N ((i+m)*5) (n+m - (i+m)) dc ⟨g,i*5,none⟩ (n - i) sc R1 TE mv uS hsz hN2 (by rw [S];simp only [Nat.min_def];split<;>omega)
   (fun j v T=>by
     have hj2:=(List.getElem?_eq_some_iff.1 T).1;rw [B,List.getElem?_drop,List.getElem?_take_of_lt (by omega),Array.getElem?_toList] at T;rw [Addr.add_lit];simp only [World.cell?,hg2];exact T) (by rw [S,hR1s];omega) (fun v hv=>h1 v (by rw [B] at hv;exact List.mem_of_mem_drop hv))
  rw [this,hA]
  congr 2
  simp only [Nat.min_def];split<;>omega
 have kA:Hid (n+m<=G/\G<=maxLen/\(W2.setRow N A).heap[w.heap.size]?=some (.cells A TE (0,0))/\A.size=G*5/\A.toList.take ((n+m)*5)=(cur.toList.take (n*5)).take (i*5)++us++(cur.toList.take (n*5)).drop (i*5)/\w.grownBy (W2.setRow N A) none):=by
  refine ⟨hGn,hGm,by rw [<-hN];exact setRow_heap _ _ _ _ _ _ hN2,by rw [hA];simp [S,hR1s];omega,?_,?_⟩
  . have e1:R1.toList.take ((i+m)*5)=olds++us:=by
     rw [hR1];simp only [List.toList_toArray];rw [List.take_append_of_le_length (by simp [p,Y];omega),List.take_of_length_le (by simp [p,Y];omega),hRt]
    rw [hA];simp only [List.toList_toArray];rw [e1,List.take_append_of_le_length (by simp [J,p,S];omega),List.take_of_length_le (by simp [J,p,S];omega),z,B]
  . refine ⟨by rw [u];exact I.os,by rw [u];exact I.tape,by rw [u];exact I.output,?_,fun k hk hne => ?_⟩
    . have:(W2.setRow N A).heap.size=W1.heap.size:=by rw [u];simp [World.setRow,World.drew]
      rw [this];exact I.size
    . rw [setRow_other _ _ _ _ (by omega),u]
      show (W1.setRow N R1).heap[k]?=_;rw [setRow_other _ _ _ _ (by omega)];exact O k hk
 exact ⟨G,N,W1,R1,W2,A,hN,hGn,hGm,hrz,hcp1,u.symm,hcp2,kA⟩
end
set_option maxRecDepth 1000000 in
theorem InsEnd238 (w:World)(S:Value)(n:Nat)(vals:List Value)(T:w.ownsRow 0 29 5 S n vals)(gv m vc:Nat)(us:List Value)(V:us.length=m*5)(J:∀ j u,us[j]?=some u->w.cell? ⟨gv,j,none⟩=some u)(h1u:∀ v ∈ us,v.oneCell'=true)(hm:0<m) (hb:(n+m)*80<=140737488355328) :
  Calls Tryz.prog 238 #[S,.int .i64 n,.slice (some ⟨gv,0,none⟩) m vc] w fun e w'=>∃ R,e = .returned R/\w'.ownsRow 0 29 5 R (n+m) (vals++us)/\lh_ w w' (fun b=>cG_ S b≠0) /\
   ∀ b,cG_ R b≠0->(w.heap.size<=b\/cG_ S b≠0)/\b<w'.heap.size:=by
 obtain ⟨i0,p⟩:=Option.isSome_iff_exists.1 (show (Tryz.prog.info? 29).isSome=true by kernel_rfl);have k:i0.size=5:=by
  have:(Tryz.prog.info? 29).map (·.size)=some 5:=by kernel_rfl
  rw [p] at this;simpa using this
 have I:i0.bytes=80:=by
  have:(Tryz.prog.info? 29).map (·.bytes)=some 80:=by kernel_rfl
  rw [p] at this;simpa using this
 have B:i0.zero=some (.agg #[.int .i64 0,.int .i64 0,.string ByteArray.empty,.slice none 0 0,.slice none 0 0]):=by
  have:(Tryz.prog.info? 29).bind (·.zero)=some (.agg #[.int .i64 0,.int .i64 0,.string ByteArray.empty,.slice none 0 0,.slice none 0 0]):=by kernel_rfl
  rw [p] at this;simpa using this
 have hz3:¬ ((m:Int)=0):=by omega
 have U:Tryz.prog.follows .mixedOrders=true:=by kernel_rfl
 have z:∀ ty,∃ v' w',(Builtin.append_ #[26,26] ty #[S,.slice (some ⟨gv,0,none⟩) m vc]).run Tryz.prog w = .ok v' w'/\w'.ownsRow 0 29 5 v' (n+m) (vals++us)/\lh_ w w' (fun b=>cG_ S b≠0) /\
   ∀ b,cG_ v' b≠0->(w.heap.size<=b\/cG_ S b≠0)/\b<w'.heap.size:=fun ty=>by
  have:=gC_ (P:=Tryz.prog) w 26 ty 29 i0 _ Tryz.underlying26 p B (by rw [k];rfl) (by rw [k];decide) S n vals (by rw [k];exact T) (.slice (some ⟨gv,0,none⟩) m vc) m us (by rw [k];exact V) (.inl ⟨_,_,rfl,fun j u h=>by rw [Addr.add_lit,Nat.zero_add];exact J j u h⟩) h1u (by unfold maxLen;omega) (by rw [I];exact hb);rw [k] at this;exact this
 obtain ⟨v',w',k1,k2,k3⟩:=z 26;rcases T.2 with ⟨rfl,rfl⟩|⟨g,c,cur,rfl,-,hg,hnc,Z,Y,O⟩
 . clear z T J B p k I
   go_enter Tryz.func238,Tryz.ntmps238
   go_wp2_with (at_builtin;refine Lib.wpList_append_run _ rfl _ _ 26 26 rfl _ _ rfl rfl _ _ k1 ?_)
   go_ret
   exact ⟨_,rfl,k2,k3⟩
 . clear z T J B hg O Y p k I
   unfold maxLen at Z
   go_enter Tryz.func238,Tryz.ntmps238
   go_wp2_with (at_builtin;refine Lib.wpList_append_run _ rfl _ _ 26 26 rfl _ _ rfl rfl _ _ k1 ?_)
   all_goals (go_ret;exact ⟨_,rfl,k2,k3⟩)
set_option maxRecDepth 1000000 in
theorem uq_ (w:World)(S:Value)(n i:Nat)(vals:List Value)(J:w.ownsRow 0 29 5 S n vals)(U:Value)(us:List Value)(z:w.ownsRow 0 29 5 U 0 us)(hi:i<=n) :
  Calls Tryz.prog 238 #[S,.int .i64 i,U] w fun e w'=>e = .returned S/\w'=w:=by
 rcases J.2 with ⟨rfl,rfl⟩|⟨g,c,cur,rfl,-,V,Z,I,p,k⟩
 . have T:i=0:=by omega
   subst T;rcases z.2 with ⟨rfl,-⟩|⟨gv,vc,curv,rfl,-,u,O,I,p,k⟩
   . clear J z
     go_enter Tryz.func238,Tryz.ntmps238
     go_wp2_with fail
     go_ret
     exact ⟨rfl,rfl⟩
   . clear J z u p k
     go_enter Tryz.func238,Tryz.ntmps238
     go_wp2_with fail
     go_ret
     exact ⟨rfl,rfl⟩
 . unfold maxLen at I
   have hic:i<=c:=by omega
   rcases z.2 with ⟨rfl,-⟩|⟨gv,vc,curv,rfl,-,u,O,Y,B,m⟩
   . clear J z V p k
     go_enter Tryz.func238,Tryz.ntmps238
     go_wp2_with fail
     all_goals (go_ret;exact ⟨rfl,rfl⟩)
   . clear J z V p k u B m
     go_enter Tryz.func238,Tryz.ntmps238
     go_wp2_with fail
     all_goals (go_ret;exact ⟨rfl,rfl⟩)
set_option maxRecDepth 1000000 in
theorem sd_ (w:World)(g n c i:Nat)(cur:Array Value) (hg:w.heap[g]?=some (.cells cur 29 (0,0))) (hs:cur.size=c*5) (hc:c<=9223372036854775807) (hi:i<n)
  (gv m vc:Nat) (curv:Array Value) (Tv:TypeId) (z:w.heap[gv]?=some (.cells curv Tv (0,0))) (hmv:m*5<=curv.size) (U:gv≠g) (us:List Value) (O:us=curv.toList.take (m*5)) (h1u:∀ v ∈ us,v.oneCell'=true) (hm:0<m) (hroom:n+m<=c)
  (h1:∀ v ∈ cur.toList.take (n*5),v.oneCell'=true) :
  Calls Tryz.prog 238 #[.slice (some ⟨g,0,none⟩) n c,.int .i64 i,.slice (some ⟨gv,0,none⟩) m vc] w fun e w'=>e = .returned (.slice (some ⟨g,0,none⟩) (n+m) c) /\
   ∃ A,w'=w.drew.setRow g A/\A.size=cur.size/\A.toList.take ((n+m)*5)=(cur.toList.take (n*5)).take (i*5)++us++(cur.toList.take (n*5)).drop (i*5):=by
 have S:(Tryz.prog.info? 29).map (·.size)=some 5:=by kernel_rfl
 have k:us.length=m*5:=by rw [O,List.length_take,Array.length_toList];omega
 have hov:∀ lb cb,(callFunc 266 #[.slice (some ⟨gv,0,none⟩) m vc,.slice (some ⟨g,(i+m)*5,none⟩) lb cb]).run Tryz.prog w = .ok (.value (.bool false)) w:=fun lb cb=>by
  rw [run_callFunc_extern Tryz.func266 (by kernel_rfl) (by kernel_rfl) (by kernel_rfl) (e:=Extern.SlicesOverlaps.overlaps #[26,26] #[4]) (by kernel_rfl),
   Lib.run_overlaps_apart w 26 4 29 Tryz.underlying26 5 Tryz.sizeOf29 ⟨gv,0,none⟩ ⟨g,(i+m)*5,none⟩ m vc lb cb U Tv 29 curv.size cur.size (by simp [World.shape?,z]) (by simp [World.shape?,hg]) (by omega) (by simp [World.frozen?,z]) (by simp [World.frozen?,z])]
  rfl
 obtain ⟨mv,p⟩:∃ mv,mv=(cur.toList.take (n*5)).drop (i*5):=⟨_,rfl⟩
 have u:mv.length=(n - i)*5:=by rw [p];simp [hs];omega
 have I:w.drew.heap[g]?=some (.cells cur 29 (0,0)):=hg;obtain ⟨B,hB⟩:∃ B,B=(cur.toList.take ((i+m)*5)++mv++cur.toList.drop ((i+m)*5+mv.length)).toArray:=⟨_,rfl⟩
 have Z:∀ ty dc sc,(Builtin.copy_ #[26,26] ty #[.slice (some ⟨g,(i+m)*5,none⟩) (n+m - (i+m)) dc,.slice (some ⟨g,i*5,none⟩) (n+m - i) sc]).run Tryz.prog w.drew = .ok (goInt (n - i)) (w.drew.setRow g B):=fun ty dc sc=>by
  have:=ex_ (P:=Tryz.prog) w.drew 26 26 ty 29 5 g ((i+m)*5) (n+m - (i+m)) dc ⟨g,i*5,none⟩ (n+m - i) sc cur 29 mv Tryz.underlying26 S I (by rw [u];simp only [Nat.min_def];split<;>omega)
   (fun j v T=>by
     have hj2:=(List.getElem?_eq_some_iff.1 T).1;rw [p,List.getElem?_drop,List.getElem?_take_of_lt (by omega),Array.getElem?_toList] at T;rw [Addr.add_lit];simp only [World.cell?,I];exact T) (by rw [u,hs];omega) (fun v hv=>h1 v (by rw [p] at hv;exact List.mem_of_mem_drop hv))
  rw [this,hB]
  congr 2
  simp only [Nat.min_def];split<;>omega
 have J:B.size=cur.size:=by rw [hB];simp [u,hs];omega
 have V:(w.drew.setRow g B).heap[g]?=some (.cells B 29 (0,0)):=setRow_heap _ _ _ _ _ _ I;obtain ⟨A,hA⟩:∃ A,A=(B.toList.take (i*5)++us++B.toList.drop (i*5+us.length)).toArray:=⟨_,rfl⟩
 have Y:∀ ty dc,(Builtin.copy_ #[26,26] ty #[.slice (some ⟨g,i*5,none⟩) (n+m - i) dc,.slice (some ⟨gv,0,none⟩) m vc]).run Tryz.prog (w.drew.setRow g B) = .ok (goInt m) (w.drew.setRow g A):=fun ty dc=>by
  have:=ex_ (P:=Tryz.prog) (w.drew.setRow g B) 26 26 ty 29 5 g (i*5) (n+m - i) dc ⟨gv,0,none⟩ m vc B 29 us Tryz.underlying26 S V (by rw [k];simp only [Nat.min_def];split<;>omega)
   (fun j v T=>by
     have hj2:=(List.getElem?_eq_some_iff.1 T).1;rw [O,List.getElem?_take_of_lt (by omega),Array.getElem?_toList] at T;rw [Addr.add_lit,Nat.zero_add];have e:(w.drew.setRow g B).heap[gv]?=some (.cells curv Tv (0,0)):=by rw [setRow_other _ _ _ _ U];exact z
     simp only [World.cell?,e];exact T) (by rw [k,J,hs];omega) h1u
  rw [this,hA,setRow_setRow]
  congr 2
  simp only [Nat.min_def];split<;>omega
 have kA:Hid (A.size=cur.size/\A.toList.take ((n+m)*5)=(cur.toList.take (n*5)).take (i*5)++us++mv):=by
  have e1:B.toList.take (i*5)=(cur.toList.take (n*5)).take (i*5):=by
   rw [hB];simp only [List.toList_toArray,List.append_assoc];rw [List.take_append_of_le_length (by simp [hs];omega),List.take_take,List.take_take]
   congr 1;omega
  have e2:(B.toList.drop (i*5+us.length)).take mv.length=mv:=by rw [hB];simp only [List.toList_toArray,List.append_assoc];rw [List.drop_append,List.drop_eq_nil_of_le (by simp [k,hs];omega),List.nil_append,List.length_take,show i*5+us.length - min ((i+m)*5) cur.toList.length=0 by simp [k,hs];omega,List.drop_zero,List.take_append_of_le_length (Nat.le_refl _),List.take_of_length_le (Nat.le_refl _)]
  refine ⟨by rw [hA];simp [k,J,hs];omega,?_⟩;rw [hA];simp only [List.toList_toArray];rw [List.take_append,List.take_of_length_le (by simp [k,J,hs];omega),e1]
  congr 1
  rw [show (n+m)*5 - (List.take (i*5) (List.take (n*5) cur.toList)++us).length=mv.length by simp [k,u,hs];omega];exact e2
 rw [p] at kA;have hnc:n<=c:=by omega
 have hic:i<=c:=by omega
 have hz1:¬ ((m:Int)=0):=by omega
 have hz2:¬ ((i:Int)=(n:Int)):=by omega
 have mixed:Tryz.prog.follows .mixedOrders=true:=by kernel_rfl
 have hw1:IntKind.i64.wrap ((i:Int)+(m:Int))=(i:Int)+(m:Int):=by rw [IntKind.wrap_i64];omega
 have hb1:(0:Int)<=(i:Int)+(m:Int):=by omega
 have hin:i<=n:=by omega
 have htn:((i:Int)+(m:Int)).toNat=i+m:=by omega
 have hb2:¬ (c=i+m):=by omega
 have hb3:(i:Int)<=(n:Int)+(m:Int):=by omega
 have hb4:¬ (c=i):=by omega
 clear hB J V hA p u I hg z O k h1 h1u S hs hmv
 go_enter Tryz.func238,Tryz.ntmps238
 go_wp2_with (simp only [hov])
 go_region_law_o (refine ga_ rfl _ _ 26 26 rfl _ _ (by simp [Act.eval,Act.put]) (by simp [Act.eval,Act.put]) (Z _ _ _) ?_)
 go_wp2_with (at_builtin;refine h8_ _ rfl _ _ 26 26 rfl _ _ rfl rfl (Y _ _) ?_)
 go_ret
 exact ⟨rfl,A,rfl,kA.out.1,kA.out.2⟩
set_option maxRecDepth 1000000 in
theorem us_ (w:World)(g n c i:Nat)(cur:Array Value) (hg:w.heap[g]?=some (.cells cur 29 (0,0))) (hs:cur.size=c*5) (hnc:n<=c) (hi:i<n)
  (gv m vc:Nat) (curv:Array Value) (Tv:TypeId) (S:w.heap[gv]?=some (.cells curv Tv (0,0))) (O:m*5<=curv.size) (us:List Value) (J:us=curv.toList.take (m*5)) (V:∀ v ∈ us,v.oneCell'=true) (hm:0<m) (u:c<n+m)
  (p:(n+m)*80<=140737488355328) (h1:∀ v ∈ cur.toList.take (n*5),v.oneCell'=true) :
  Calls Tryz.prog 238 #[.slice (some ⟨g,0,none⟩) n c,.int .i64 i,.slice (some ⟨gv,0,none⟩) m vc] w fun e w'=>∃ C A,e = .returned (.slice (some ⟨w.heap.size,0,none⟩) (n+m) C)/\n+m<=C/\C<=maxLen /\
   w'.heap[w.heap.size]?=some (.cells A 29 (0,0))/\A.size=C*5/\A.toList.take ((n+m)*5)=(cur.toList.take (n*5)).take (i*5)++us++(cur.toList.take (n*5)).drop (i*5)/\w.grownBy w' none:=by
 obtain ⟨i0,k⟩:=Option.isSome_iff_exists.1 (show (Tryz.prog.info? 29).isSome=true by kernel_rfl);have I:i0.size=5:=by
  have:(Tryz.prog.info? 29).map (·.size)=some 5:=by kernel_rfl
  rw [k] at this;simpa using this
 have B:i0.bytes=80:=by
  have:(Tryz.prog.info? 29).map (·.bytes)=some 80:=by kernel_rfl
  rw [k] at this;simpa using this
 have z:i0.zero=some (.agg #[.int .i64 0,.int .i64 0,.string ByteArray.empty,.slice none 0 0,.slice none 0 0]):=by
  have:(Tryz.prog.info? 29).bind (·.zero)=some (.agg #[.int .i64 0,.int .i64 0,.string ByteArray.empty,.slice none 0 0,.slice none 0 0]):=by kernel_rfl
  rw [k] at this;simpa using this
 obtain ⟨G,N,W1,R1,W2,A,hNN,hGn,hGm,Z,hcp1,U,T,kA⟩:=t2_ 26 29 3 _ i0 Tryz.underlying26 Tryz.underlying3 k z I B rfl w g n c i cur hg hs hnc hi gv m vc curv Tv S O us J V hm u p h1;have hic:i<=c:=by omega
 have hz3:¬ ((m:Int)=0):=by omega
 have hz4:¬ ((i:Int)=(n:Int)):=by omega
 have hz5:(c:Int)<(n:Int)+(m:Int):=by omega
 have Y:Tryz.prog.follows .mixedOrders=true:=by kernel_rfl
 have hG63:G<=9223372036854775807:=by unfold maxLen at hGm;omega
 have hw1:IntKind.i64.wrap ((n:Int)+(m:Int))=(n:Int)+(m:Int):=by rw [IntKind.wrap_i64];omega
 have hw2:IntKind.i64.wrap ((n:Int)+(m:Int) - (i:Int))=(n:Int)+(m:Int) - (i:Int):=by rw [IntKind.wrap_i64];omega
 have hw3:IntKind.i64.wrap ((i:Int)+(m:Int))=(i:Int)+(m:Int):=by rw [IntKind.wrap_i64];omega
 have hb1:(0:Int)<=(i:Int)+(m:Int):=by omega
 have htn:((i:Int)+(m:Int)).toNat=i+m:=by omega
 have hGi:¬ (G=i):=by omega
 have hGim:¬ (G=i+m):=by omega
 have hb3:(i:Int)<=(n:Int)+(m:Int):=by omega
 have hb4:¬ (c=i):=by omega
 have hinm:i<=n+m:=by omega
 have himn:i+m<=n+m:=by omega
 have hin:i<=n:=by omega
 clear J h1 V hg S hs O I B z k p
 go_enter Tryz.func238,Tryz.ntmps238
 go_wp2_with (at_builtin;refine Lib.wpList_append_run _ rfl _ _ 26 3 rfl _ _ rfl rfl _ _ (Z _) ?_)
 go_region_law_o (simp only [U];refine ga_ rfl _ _ 26 26 rfl _ _ (by simp [Act.eval,Act.put]) (by simp [Act.eval,Act.put]) (T _ _ _) ?_)
 go_wp2_with fail
 go_ret
 exact ⟨G,A,by rw [hNN.out];rfl,kA.out⟩
theorem insM238:InsM Tryz.prog 238 29 5 80:=by
 intro w S n vals U m us i V hU hdis hi h1 T hb;have hvl:=V.1;by_cases hm:m=0
 . subst hm
   have hus:us=[]:=by have:=hU.1;rw [Nat.zero_mul] at this;exact List.eq_nil_of_length_eq_zero this
   subst hus;refine (uq_ w S n i vals V U [] hU hi).mono ?_
   rintro e w' ⟨rfl,rfl⟩
   refine ⟨S,rfl,by rw [List.append_nil,List.take_append_drop];exact V,⟨rfl,rfl,rfl,Nat.le_refl _,fun _ _ _=>rfl⟩,fun b hb=>⟨.inr hb,pc_ V b hb⟩⟩
 . rcases hU.2 with ⟨rfl,h0⟩|⟨gv,vc,curv,rfl,-,Z,hmc,hcm,hcs,z⟩
   . exact absurd h0 hm
   . by_cases hin:i=n
     . subst hin
       rw [List.take_of_length_le (by omega),List.drop_eq_nil_of_le (by omega),List.append_nil];exact InsEnd238 w S i vals V gv m vc us hU.1 (fun j u h=>by have:=hU.cells (g:=gv) rfl j u h;rwa [Addr.add_lit,Nat.zero_add] at this) T (by omega) hb
     . rcases V.2 with ⟨rfl,h0⟩|⟨g,c,cur,rfl,-,hg,hnc,J,p,k⟩
       . omega
       . have hne:gv≠g:=fun e=>by subst e;have:=hdis gv (by simp [cG_]);simp [cG_] at this
         have Y:m*5<=curv.size:=by rw [hcs];exact Nat.mul_le_mul_right _ hmc
         by_cases B:n+m<=c
         . refine (sd_ w g n c i cur hg p (by unfold maxLen at J;omega) (by omega) gv m vc curv 29 Z Y hne us z.symm T (by omega) B (by rw [k];exact h1)).mono ?_
           rintro e w' ⟨rfl,A,rfl,hA,O⟩
           rw [k] at O;have hgd:w.drew.heap[g]?=some (.cells cur 29 (0,0)):=hg;have hA2:=setRow_heap w.drew g cur A _ _ hgd;refine ⟨_,rfl,⟨by rw [<-O];simp [hA,p];omega,.inr ⟨g,c,A,rfl,Nat.zero_le _,hA2,B,J,by rw [hA,p],O⟩⟩,⟨rfl,rfl,rfl,ks_ w g A,fun b _ hn => ?_⟩,fun b hb=>⟨.inr hb,?_⟩⟩
           . rw [setRow_other _ _ _ _ (fun e=>hn (by subst e;simp [cG_]))];rfl
           . have:g=b:=by simp only [cG_] at hb;exact Classical.byContradiction fun h=>hb (if_neg h)
             subst this;exact (Array.getElem?_eq_some_iff.1 hA2).1
         . refine (us_ w g n c i cur hg p hnc (by omega) gv m vc curv 29 Z Y us z.symm T (by omega) (by omega) hb (by rw [k];exact h1)).mono ?_
           rintro e w' ⟨C,A,rfl,hC,hCm,hN,hA,O,I⟩
           rw [k] at O;refine ⟨_,rfl,⟨by rw [<-O];simp [hA];omega,.inr ⟨_,C,A,rfl,Nat.zero_le _,hN,hC,hCm,hA,O⟩⟩,⟨I.os,I.tape,I.output,I.size,fun b hb _=>I.block b hb (by simp)⟩,fun b hb => ?_⟩;have:w.heap.size=b:=by simp only [cG_] at hb;exact Classical.byContradiction fun h=>hb (if_neg h)
           subst this;exact ⟨.inl (Nat.le_refl _),(Array.getElem?_eq_some_iff.1 hN).1⟩
end Go.Proofs
namespace Go.Pi
open Go.Proofs
theorem cF_.ok (n:Nat):cF_.e.Oks E (cx n) n:=fun _ _ _ _ h=>nIns_ok (t:=.iJson) (m1:=.d) (m2:=.d) (by decide) (by decide) insM238 h
end Go.Pi
end
section
namespace Go.Proofs
open Go.Shelf Go.RowKit Go.Lib Go.Pi
set_option maxRecDepth 1000000 in
theorem Delete240 (w:World)(g n c i j:Nat)(cur:Array Value) (hg:w.heap[g]?=some (.cells cur 29 (0,0))) (hs:cur.size=c*5) (hn:n<=c) (hc:c<=9223372036854775807) (hij:i<j) (hj:j<=n)
  (h1:∀ v ∈ cur.toList.take (n*5),v.oneCell'=true) :
  Calls Tryz.prog 240 #[.slice (some ⟨g,0,none⟩) n c,.int .i64 i,.int .i64 j] w fun e w'=>e = .returned (.slice (some ⟨g,0,none⟩) (n - (j - i)) c) /\
   ∃ A,w'=w.drew.setRow g A/\A.size=cur.size/\A.toList.take ((n - (j - i))*5)=(cur.toList.take (n*5)).take (i*5)++(cur.toList.take (n*5)).drop (j*5):=by
 have hic:i<=c:=by omega
 have hjc:j<=c:=by omega
 obtain ⟨news,m⟩:∃ news,news=(cur.toList.take (n*5)).drop (j*5):=⟨_,rfl⟩
 have k:news.length=(n - j)*5:=by rw [m,List.length_drop,List.length_take,Array.length_toList,hs];omega
 have I:w.drew.heap[g]?=some (.cells cur 29 (0,0)):=hg;obtain ⟨A,hA,O⟩:∃ A:Addr,(if c=j then some (⟨g,0,none⟩:Addr) else some ⟨g,j*5,none⟩)=some A/\Hid (∀ t u,news[t]?=some u->w.drew.cell? (A.add t)=some u):=by
  by_cases h:c=j
  . refine ⟨⟨g,0,none⟩,by simp [h],fun t u z => ?_⟩
    have h0:news.length=0:=by rw [k];omega
    rw [List.length_eq_zero_iff.1 h0] at z;simp at z
  . refine ⟨⟨g,j*5,none⟩,by simp [h],fun t u z => ?_⟩
    have ht:=(List.getElem?_eq_some_iff.1 z).1;rw [k] at ht;rw [m,List.getElem?_drop,List.getElem?_take_of_lt (by omega),Array.getElem?_toList] at z;rw [Addr.add_lit];simp only [World.cell?,I];exact z
 obtain ⟨i0,V⟩:=Option.isSome_iff_exists.1 (show (Tryz.prog.info? 29).isSome=true by kernel_rfl);have S:i0.size=5:=by
  have:(Tryz.prog.info? 29).map (·.size)=some 5:=by kernel_rfl
  rw [V] at this;simpa using this
 have U:∀ ty,(Builtin.append_ #[26,26] ty #[.slice (some ⟨g,0,none⟩) i c,.slice (some A) (n - j) (c - j)]).run Tryz.prog w.drew = .ok (.slice (some ⟨g,0,none⟩) (i+(n - j)) c) (w.drew.setRow g (cur.toList.take (i*5)++news++cur.toList.drop (i*5+news.length)).toArray):=fun ty=>by
  have:=run_append_room (P:=Tryz.prog) w.drew 26 ty 29 i0 Tryz.underlying26 V g i c cur I A (n - j) (c - j) news (by rw [k,S];try rw [Nat.mul_one]) O.out (fun u z=>h1 u (by rw [m] at z;exact List.mem_of_mem_drop z)) (by omega) (by rw [S,k,hs];omega);rw [S] at this
  first|exact this|(rw [Nat.mul_one] at this;exact this)
 obtain ⟨B,hB⟩:∃ B,B=(cur.toList.take (i*5)++news++cur.toList.drop (i*5+news.length)).toArray:=⟨_,rfl⟩
 have p:B.size=cur.size:=by rw [hB];simp [k,hs];omega
 have hBt:B.toList.take ((i+(n - j))*5)=(cur.toList.take (n*5)).take (i*5)++news:=by rw [hB];simp only [List.toList_toArray];rw [List.take_append_of_le_length (by simp [k,hs];omega),List.take_of_length_le (by simp [k,hs];omega),List.take_take,Nat.min_eq_left (by omega)]
 have Y:(w.drew.setRow g B).heap[g]?=some (.cells B 29 (0,0)):=setRow_heap _ _ _ _ _ _ I;obtain ⟨Z,hZ⟩:∃ Z,Z=(Builtin.zeroCells (Value.agg #[.int .i64 0,.int .i64 0,.string ByteArray.empty,.slice none 0 0,.slice none 0 0]).cells (n - (i+(n - j)))).toList:=⟨_,rfl⟩
 have T:Z.length=(n - (i+(n - j)))*5:=by rw [hZ];simp [Builtin.zeroCells,Value.cells]
 have hcl:∀ ty,(Builtin.clear_ #[26] ty #[.slice (some ⟨g,(i+(n - j))*5,none⟩) (n - (i+(n - j))) (c - (i+(n - j)))]).run Tryz.prog (w.drew.setRow g B) = .ok (.tuple #[]) ((w.drew.setRow g B).setRow g (B.toList.take ((i+(n - j))*5)++Z++B.toList.drop ((i+(n - j))*5+Z.length)).toArray):=fun ty=>by
  rw [hZ];refine mL_ _ 26 29 ty _ Tryz.underlying26 Tryz.zeroValue29 g _ _ _ (by omega) B 29 Y (by
   have e:=T;rw [hZ] at e;exact Nat.le_trans (Nat.le_of_eq (congrArg (fun q=>(i+(n - j))*5+q) e)) (by first|(rw [p,hs,<-Nat.add_mul];exact Nat.mul_le_mul_right _ (by omega))|(rw [p,hs];omega))) (fun v hv => ?_)
  exact zc_one _ (by kernel_rfl) _ v hv
 rw [<-hB] at U;obtain ⟨Z',J⟩:∃ Z',Z'=(B.toList.take ((i+(n - j))*5)++Z++B.toList.drop ((i+(n - j))*5+Z.length)).toArray:=⟨_,rfl⟩
 have kZ:Hid (Z'.size=cur.size/\Z'.toList.take ((i+(n - j))*5)=(cur.toList.take (n*5)).take (i*5)++(cur.toList.take (n*5)).drop (j*5)):=by refine ⟨by rw [J];simp [T,p,hs];omega,?_⟩;rw [J,<-m,<-hBt];simp only [List.toList_toArray,List.append_assoc];rw [List.take_append_of_le_length (by simp [p,hs];omega),List.take_take,Nat.min_self]
 rw [<-J] at hcl;clear O h1 hB p hBt Y hZ T J m k I hg;have hw1:¬ ((i:Int)=(j:Int)):=by omega
 have mixed:Tryz.prog.follows .mixedOrders=true:=by kernel_rfl
 go_enter Tryz.func240,Tryz.ntmps240
 go_wp2_with fail
 go_region_law_o (refine ia_ rfl (.tmp 22) (.tmp 25) 26 26 rfl _ _ (by simp [Act.eval,Act.put]) (by simp [Act.eval,Act.put,hA]) (U _) ?_)
 go_wp2_with fail
 go_ret
 exact ⟨by rw [show n - (j - i)=i+(n - j) by omega];rfl,Z',by rw [setRow_setRow],kZ.out.1,by rw [show n - (j - i)=i+(n - j) by omega];exact kZ.out.2⟩
set_option maxRecDepth 1000000 in
theorem ux_ (w:World)(S:Value)(n i:Nat)(vals:List Value)(z:w.ownsRow 0 29 5 S n vals)(hi:i<=n) :
  Calls Tryz.prog 240 #[S,.int .i64 i,.int .i64 i] w fun e w'=>e = .returned S/\w'=w:=by
 rcases z.2 with ⟨rfl,rfl⟩|⟨g,c,cur,rfl,-,J,B,u,p,k⟩
 . have m:i=0:=by omega
   subst m;clear z
   go_enter Tryz.func240,Tryz.ntmps240
   go_wp2_with fail
   all_goals (go_ret;exact ⟨rfl,rfl⟩)
 . unfold maxLen at u
   have I:i<=c:=by omega
   clear z J p k
   go_enter Tryz.func240,Tryz.ntmps240
   go_wp2_with fail
   all_goals (go_ret;exact ⟨rfl,rfl⟩)
theorem delM240:DelM Tryz.prog 240 29 5:=by
 intro w S n vals i j z V O Y;by_cases e:i=j
 . subst e
   refine (ux_ w S n i vals z O).mono ?_
   rintro e w' ⟨rfl,rfl⟩
   refine ⟨S,rfl,by rw [Nat.sub_self,Nat.sub_zero,List.take_append_drop];exact z,⟨rfl,rfl,rfl,Nat.le_refl _,fun _ _ _=>rfl⟩,fun b hb=>⟨.inr hb,pc_ z b hb⟩⟩
 . rcases z.2 with ⟨rfl,rfl⟩|⟨g,c,cur,rfl,-,T,I,p,m,k⟩
   . omega
   . refine (Delete240 w g n c i j cur T m I (by unfold maxLen at p;omega) (by omega) O (by rw [k];exact Y)).mono ?_
     rintro e w' ⟨rfl,A,rfl,U,B⟩
     rw [k] at B;have J:w.drew.heap[g]?=some (.cells cur 29 (0,0)):=T;have u:=setRow_heap w.drew g cur A _ _ J;refine ⟨_,rfl,⟨by rw [<-B];simp [U,m];omega,.inr ⟨g,c,A,rfl,Nat.zero_le _,u,by omega,p,by rw [U,m],B⟩⟩,⟨rfl,rfl,rfl,ks_ w g A,fun b _ hn => ?_⟩,fun b hb=>⟨.inr hb,?_⟩⟩
     . rw [setRow_other _ _ _ _ (fun e=>hn (by subst e;simp [cG_]))];rfl
     . have:g=b:=by simp only [cG_] at hb;exact Classical.byContradiction fun h=>hb (if_neg h)
       subst this;exact (Array.getElem?_eq_some_iff.1 u).1
end Go.Proofs
namespace Go.Pi
open Go.Proofs
theorem c2_.ok (n:Nat):c2_.e.Oks E (cx n) n:=fun _ _ _ _ h=>nDel_ok (t:=.iJson) (m:=.d) (by decide) delM240 h
end Go.Pi
end
section
namespace Go.Proofs
open Go.Shelf Go.RowKit Go.Lib Go.Pi
set_option maxRecDepth 1000000 in
theorem Delete241 (w:World)(g n c i j:Nat)(cur:Array Value) (hg:w.heap[g]?=some (.cells cur 9 (0,0))) (hs:cur.size=c) (hn:n<=c) (hc:c<=9223372036854775807) (hij:i<j) (hj:j<=n)
  (h1:∀ v ∈ cur.toList.take (n),v.oneCell'=true) :
  Calls Tryz.prog 241 #[.slice (some ⟨g,0,none⟩) n c,.int .i64 i,.int .i64 j] w fun e w'=>e = .returned (.slice (some ⟨g,0,none⟩) (n - (j - i)) c) /\
   ∃ A,w'=w.drew.setRow g A/\A.size=cur.size/\A.toList.take ((n - (j - i)))=(cur.toList.take (n)).take (i)++(cur.toList.take (n)).drop (j):=by
 have hic:i<=c:=by omega
 have hjc:j<=c:=by omega
 obtain ⟨news,m⟩:∃ news,news=(cur.toList.take (n)).drop (j):=⟨_,rfl⟩
 have k:news.length=(n - j):=by rw [m,List.length_drop,List.length_take,Array.length_toList,hs];omega
 have I:w.drew.heap[g]?=some (.cells cur 9 (0,0)):=hg;obtain ⟨A,hA,O⟩:∃ A:Addr,(if c=j then some (⟨g,0,none⟩:Addr) else some ⟨g,j,none⟩)=some A/\Hid (∀ t u,news[t]?=some u->w.drew.cell? (A.add t)=some u):=by
  by_cases h:c=j
  . refine ⟨⟨g,0,none⟩,by simp [h],fun t u z => ?_⟩
    have h0:news.length=0:=by rw [k];omega
    rw [List.length_eq_zero_iff.1 h0] at z;simp at z
  . refine ⟨⟨g,j,none⟩,by simp [h],fun t u z => ?_⟩
    have ht:=(List.getElem?_eq_some_iff.1 z).1;rw [k] at ht;rw [m,List.getElem?_drop,List.getElem?_take_of_lt (by omega),Array.getElem?_toList] at z;rw [Addr.add_lit];simp only [World.cell?,I];exact z
 obtain ⟨i0,V⟩:=Option.isSome_iff_exists.1 (show (Tryz.prog.info? 9).isSome=true by kernel_rfl);have S:i0.size=1:=by
  have:(Tryz.prog.info? 9).map (·.size)=some 1:=by kernel_rfl
  rw [V] at this;simpa using this
 have U:∀ ty,(Builtin.append_ #[27,27] ty #[.slice (some ⟨g,0,none⟩) i c,.slice (some A) (n - j) (c - j)]).run Tryz.prog w.drew = .ok (.slice (some ⟨g,0,none⟩) (i+(n - j)) c) (w.drew.setRow g (cur.toList.take (i)++news++cur.toList.drop (i+news.length)).toArray):=fun ty=>by
  have:=run_append_room (P:=Tryz.prog) w.drew 27 ty 9 i0 Tryz.underlying27 V g i c cur I A (n - j) (c - j) news (by rw [k,S];try rw [Nat.mul_one]) O.out (fun u z=>h1 u (by rw [m] at z;exact List.mem_of_mem_drop z)) (by omega) (by rw [S,k,hs];omega);rw [S] at this
  first|exact this|(rw [Nat.mul_one] at this;exact this)
 obtain ⟨B,hB⟩:∃ B,B=(cur.toList.take (i)++news++cur.toList.drop (i+news.length)).toArray:=⟨_,rfl⟩
 have p:B.size=cur.size:=by rw [hB];simp [k,hs];omega
 have hBt:B.toList.take ((i+(n - j)))=(cur.toList.take (n)).take (i)++news:=by rw [hB];simp only [List.toList_toArray];rw [List.take_append_of_le_length (by simp [k,hs];omega),List.take_of_length_le (by simp [k,hs];omega),List.take_take,Nat.min_eq_left (by omega)]
 have Y:(w.drew.setRow g B).heap[g]?=some (.cells B 9 (0,0)):=setRow_heap _ _ _ _ _ _ I;obtain ⟨Z,hZ⟩:∃ Z,Z=(Builtin.zeroCells (Value.string ByteArray.empty).cells (n - (i+(n - j)))).toList:=⟨_,rfl⟩
 have T:Z.length=(n - (i+(n - j))):=by rw [hZ];simp [Builtin.zeroCells,Value.cells]
 have hcl:∀ ty,(Builtin.clear_ #[27] ty #[.slice (some ⟨g,(i+(n - j)),none⟩) (n - (i+(n - j))) (c - (i+(n - j)))]).run Tryz.prog (w.drew.setRow g B) = .ok (.tuple #[]) ((w.drew.setRow g B).setRow g (B.toList.take ((i+(n - j)))++Z++B.toList.drop ((i+(n - j))+Z.length)).toArray):=fun ty=>by
  rw [hZ];refine mL_ _ 27 9 ty _ Tryz.underlying27 Tryz.zeroValue9 g _ _ _ (by omega) B 9 Y (by
   have e:=T;rw [hZ] at e;exact Nat.le_trans (Nat.le_of_eq (congrArg (fun q=>(i+(n - j))+q) e)) (by first|(rw [p,hs,<-Nat.add_mul];exact Nat.mul_le_mul_right _ (by omega))|(rw [p,hs];omega))) (fun v hv => ?_)
  exact zc_one _ (by kernel_rfl) _ v hv
 rw [<-hB] at U;obtain ⟨Z',J⟩:∃ Z',Z'=(B.toList.take ((i+(n - j)))++Z++B.toList.drop ((i+(n - j))+Z.length)).toArray:=⟨_,rfl⟩
 have kZ:Hid (Z'.size=cur.size/\Z'.toList.take ((i+(n - j)))=(cur.toList.take (n)).take (i)++(cur.toList.take (n)).drop (j)):=by refine ⟨by rw [J];simp [T,p,hs];omega,?_⟩;rw [J,<-m,<-hBt];simp only [List.toList_toArray,List.append_assoc];rw [List.take_append_of_le_length (by simp [p,hs];omega),List.take_take,Nat.min_self]
 rw [<-J] at hcl;clear O h1 hB p hBt Y hZ T J m k I hg;have hw1:¬ ((i:Int)=(j:Int)):=by omega
 have mixed:Tryz.prog.follows .mixedOrders=true:=by kernel_rfl
 go_enter Tryz.func241,Tryz.ntmps241
 go_wp2_with fail
 go_region_law_o (refine ia_ rfl (.tmp 22) (.tmp 25) 27 27 rfl _ _ (by simp [Act.eval,Act.put]) (by simp [Act.eval,Act.put,hA]) (U _) ?_)
 go_wp2_with fail
 go_ret
 exact ⟨by rw [show n - (j - i)=i+(n - j) by omega];rfl,Z',by rw [setRow_setRow],kZ.out.1,by rw [show n - (j - i)=i+(n - j) by omega];exact kZ.out.2⟩
set_option maxRecDepth 1000000 in
theorem uw_ (w:World)(S:Value)(n i:Nat)(vals:List Value)(z:w.ownsRow 0 9 1 S n vals)(hi:i<=n) :
  Calls Tryz.prog 241 #[S,.int .i64 i,.int .i64 i] w fun e w'=>e = .returned S/\w'=w:=by
 rcases (ey_.1 z).2 with ⟨rfl,rfl⟩|⟨g,c,cur,rfl,-,J,B,u,p,k⟩
 . have m:i=0:=by omega
   subst m;clear z
   go_enter Tryz.func241,Tryz.ntmps241
   go_wp2_with fail
   all_goals (go_ret;exact ⟨rfl,rfl⟩)
 . unfold maxLen at u
   have I:i<=c:=by omega
   clear z J p k
   go_enter Tryz.func241,Tryz.ntmps241
   go_wp2_with fail
   all_goals (go_ret;exact ⟨rfl,rfl⟩)
theorem delM241:DelM Tryz.prog 241 9 1:=by
 intro w S n vals i j z V O Y;simp only [Nat.mul_one];by_cases e:i=j
 . subst e
   refine (uw_ w S n i vals z O).mono ?_
   rintro e w' ⟨rfl,rfl⟩
   refine ⟨S,rfl,by rw [Nat.sub_self,Nat.sub_zero,List.take_append_drop];exact z,⟨rfl,rfl,rfl,Nat.le_refl _,fun _ _ _=>rfl⟩,fun b hb=>⟨.inr hb,pc_ z b hb⟩⟩
 . rcases (ey_.1 z).2 with ⟨rfl,rfl⟩|⟨g,c,cur,rfl,-,T,I,p,m,k⟩
   . omega
   . refine (Delete241 w g n c i j cur T m I (by unfold maxLen at p;omega) (by omega) O (by rw [k];exact Y)).mono ?_
     rintro e w' ⟨rfl,A,rfl,U,B⟩
     rw [k] at B;have J:w.drew.heap[g]?=some (.cells cur 9 (0,0)):=T;have u:=setRow_heap w.drew g cur A _ _ J;refine ⟨_,rfl,ey_.2 ⟨by rw [<-B];simp [U,m];omega,.inr ⟨g,c,A,rfl,Nat.zero_le _,u,by omega,p,by rw [U,m],B⟩⟩,⟨rfl,rfl,rfl,ks_ w g A,fun b _ hn => ?_⟩,fun b hb=>⟨.inr hb,?_⟩⟩
     . rw [setRow_other _ _ _ _ (fun e=>hn (by subst e;simp [cG_]))];rfl
     . have:g=b:=by simp only [cG_] at hb;exact Classical.byContradiction fun h=>hb (if_neg h)
       subst this;exact (Array.getElem?_eq_some_iff.1 u).1
end Go.Proofs
namespace Go.Pi
open Go.Proofs
theorem cP_.ok (n:Nat):cP_.e.Oks E (cx n) n:=fun _ _ _ _ h=>nDel_ok (t:=.str) (m:=.d) (by decide) delM241 h
end Go.Pi
end
section
namespace Go.Proofs
open Go.Shelf
def Tryz.lays146_ren:Go.Shelf.Ren:=⟨fun|146=>254|221=>279|268=>288|138=>275|143=>72|195=>285|197=>276|218=>286|219=>113|260=>287|217=>156|225=>157|224=>158|267=>159|266=>213|314=>214|n=>n,fun|9=>9|31=>27|3=>3|4=>4|0=>0|105=>298|21=>21|5=>5|46=>184|119=>311|139=>314|138=>313|146=>243|51=>242|n=>n,fun|1=>0|3=>6|4=>7|n=>n⟩
theorem Tryz.lays146:Go.Proofs.Lays.n146 Tryz.prog Tryz.lays146_ren:={
 mixed:=by kernel_rfl
 f138:=Tryz.func275.trans (congrArg some (by kernel_rfl))
 f143:=Tryz.func72.trans (congrArg some (by kernel_rfl))
 f146:=Tryz.func254.trans (congrArg some (by kernel_rfl))
 f195:=Tryz.func285.trans (congrArg some (by kernel_rfl))
 f197:=Tryz.func276.trans (congrArg some (by kernel_rfl))
 f217:=Tryz.func156.trans (congrArg some (by kernel_rfl))
 f218:=Tryz.func286.trans (congrArg some (by kernel_rfl))
 f219:=Tryz.func113.trans (congrArg some (by kernel_rfl))
 f221:=Tryz.func279.trans (congrArg some (by kernel_rfl))
 f224:=Tryz.func158.trans (congrArg some (by kernel_rfl))
 f225:=Tryz.func157.trans (congrArg some (by kernel_rfl))
 f260:=Tryz.func287.trans (congrArg some (by kernel_rfl))
 f266:=Tryz.func213.trans (congrArg some (by kernel_rfl))
 f267:=Tryz.func159.trans (congrArg some (by kernel_rfl))
 f268:=Tryz.func288.trans (congrArg some (by kernel_rfl))
 f314:=Tryz.func214.trans (congrArg some (by kernel_rfl))
 t0:=Tryz.underlying0
 a0:=Tryz.isAgg0
 z0:=Tryz.sizeOf0
 v0:=Tryz.zeroValue0
 t3:=Tryz.underlying3
 a3:=Tryz.isAgg3
 z3:=Tryz.sizeOf3
 v3:=Tryz.zeroValue3
 t4:=Tryz.underlying4
 a4:=Tryz.isAgg4
 z4:=Tryz.sizeOf4
 v4:=Tryz.zeroValue4
 t5:=Tryz.underlying5
 a5:=Tryz.isAgg5
 z5:=Tryz.sizeOf5
 v5:=Tryz.zeroValue5
 t9:=Tryz.underlying9
 a9:=Tryz.isAgg9
 z9:=Tryz.sizeOf9
 v9:=Tryz.zeroValue9
 t21:=Tryz.underlying21
 a21:=Tryz.isAgg21
 z21:=Tryz.sizeOf21
 v21:=Tryz.zeroValue21
 t31:=Tryz.underlying27
 a31:=Tryz.isAgg27
 z31:=Tryz.sizeOf27
 v31:=Tryz.zeroValue27
 t46:=Tryz.underlying184
 a46:=Tryz.isAgg184
 z46:=Tryz.sizeOf184
 v46:=Tryz.zeroValue184
 t51:=Tryz.underlying242
 a51:=Tryz.isAgg242
 z51:=Tryz.sizeOf242
 v51:=Tryz.zeroValue242
 t105:=Tryz.underlying298
 a105:=Tryz.isAgg298
 z105:=Tryz.sizeOf298
 v105:=Tryz.zeroValue298
 t119:=Tryz.underlying311
 a119:=Tryz.isAgg311
 z119:=Tryz.sizeOf311
 t138:=Tryz.underlying313
 a138:=Tryz.isAgg313
 z138:=Tryz.sizeOf313
 v138:=Tryz.zeroValue313
 t139:=Tryz.underlying314
 a139:=Tryz.isAgg314
 z139:=Tryz.sizeOf314
 v139:=Tryz.zeroValue314
 t146:=Tryz.underlying243
 a146:=Tryz.isAgg243
 z146:=Tryz.sizeOf243
 v146:=Tryz.zeroValue243
 g1:=by kernel_rfl
 g3:=by kernel_rfl
 g4:=by kernel_rfl }
open Go.RowKit Go.Sort Go.Lib in
theorem Tryz.strings_Split (s sep:ByteArray)(m:Int)(w:World)(hs:s.size<4294967281) (k:w.cell? ⟨0,0,none⟩=some (.int .i64 m)) (p:1<=sep.size) :
  Calls Tryz.prog 254 #[.string s,.string sep] w fun e w'=>
   e = .returned (.slice (some ⟨w.heap.size,0,none⟩) (Lib.countB s sep+1) (Lib.countB s sep+1))/\w'=w.alloc (.cells ((Lib.splitB sep 0 (Lib.countB s sep) s).map Value.string).toArray 9):=Any.strings_Split Tryz.lays146 (by kernel_rfl) s sep m w hs k p
end Go.Proofs
namespace Go.Pi
open Go.Proofs
theorem strings_Split.ok (n:Nat):strings_Split.e.Oks E (cx n) n:=fun _ _ _ _ h=>nSplit_ok (g:=0) (T:=9) (fun s sep m w u p k=>Tryz.strings_Split s sep m w u p k) (.tail _ (.head _)) rfl (fun _ _=>rfl) rfl h
end Go.Pi
end
namespace Go.Pi
section
open Go.Proofs
theorem zer:zl ents=zr ents:=by kernel_rfl
theorem fcts:factL E.P ents ents=factR ents:=by kernel_rfl
theorem cxok (n nt:Nat)(a:AllE E n ents):CxOk E (cx n nt):=⟨ttOk,tcOk,u8Ok,KE_ok fcts a⟩
theorem allOk:∀ n,AllE E n ents
 |0=>all0 zer
 |n+1=>allS_ok (fun nt=>cxok n nt (allOk n)) (fun _=>KE_par) (show AllS E (cx n) n ents from ⟨laws_FnHeard.ok n,gG_.ok n,bc_.ok n,bb_.ok n,dz_.ok n,dw_.ok n,dX_.ok n,ds_.ok n,ei_.ok n,dd_.ok n,ae_.ok n,cv_.ok n,ct_.ok n,aL_.ok n,dk_.ok n,d9_.ok n,hW_.ok n,aq_.ok n,ce_.ok n,ap_.ok n,dy_.ok n,aw_.ok n,bl_.ok n,et_.ok n,ed_.ok n,aF_.ok n,bo_.ok n,eE_.ok n,dL_.ok n,bs_.ok n,aN_.ok n,c9_.ok n,bP_.ok n,dt_.ok n,aI_.ok n,em_.ok n,dV_.ok n,eg_.ok n,bk_.ok n,cS_.ok n,eB_.ok n,eX_.ok n,bz_.ok n,fi_.ok n,cT_.ok n,cV_.ok n,strings_Index.ok n,b1_.ok n,aP_.ok n,ev_.ok n,ah_.ok n,dR_.ok n,br_.ok n,az_.ok n,dJ_.ok n,b8_.ok n,dI_.ok n,cL_.ok n,bM_.ok n,dh_.ok n,c0_.ok n,fo_.ok n,b4_.ok n,an_.ok n,cH_.ok n,fj_.ok n,strconv_Itoa.ok n,a9_.ok n,eF_.ok n,aO_.ok n,ek_.ok n,cX_.ok n,d1_.ok n,dg_.ok n,eG_.ok n,cR_.ok n,ch_.ok n,aU_.ok n,cE_.ok n,ep_.ok n,dD_.ok n,a4_.ok n,dT_.ok n,ca_.ok n,d8_.ok n,aK_.ok n,aZ_.ok n,b2_.ok n,ec_.ok n,ew_.ok n,dE_.ok n,eu_.ok n,dr_.ok n,c8_.ok n,bD_.ok n,bx_.ok n,e1_.ok n,dO_.ok n,aS_.ok n,bI_.ok n,cu_.ok n,da_.ok n,aR_.ok n,cs_.ok n,dC_.ok n,bY_.ok n,strings_Join.ok n,dF_.ok n,bT_.ok n,eD_.ok n,bv_.ok n,aE_.ok n,bS_.ok n,eV_.ok n,b6_.ok n,bH_.ok n,eY_.ok n,c7_.ok n,cq_.ok n,aV_.ok n,bt_.ok n,a1_.ok n,dN_.ok n,bG_.ok n,a5_.ok n,ay_.ok n,eA_.ok n,bL_.ok n,aQ_.ok n,cg_.ok n,ba_.ok n,a3_.ok n,dS_.ok n,fk_.ok n,bq_.ok n,cd_.ok n,fs_.ok n,bX_.ok n,b3_.ok n,fl_.ok n,fK_.ok n,dv_.ok n,fr_.ok n,fn_.ok n,av_.ok n,fm_.ok n,ez_.ok n,ef_.ok n,dU_.ok n,b5_.ok n,ad_.ok n,es_.ok n,dH_.ok n,strings_ReplaceAll.ok n,bi_.ok n,cm_.ok n,bN_.ok n,de_.ok n,aD_.ok n,as_.ok n,aB_.ok n,eN_.ok n,bE_.ok n,aC_.ok n,ea_.ok n,bh_.ok n,cf_.ok n,cB_.ok n,bR_.ok n,bW_.ok n,dQ_.ok n,bQ_.ok n,du_.ok n,dm_.ok n,b7_.ok n,bK_.ok n,b0_.ok n,eW_.ok n,aJ_.ok n,aG_.ok n,cl_.ok n,bV_.ok n,bw_.ok n,bm_.ok n,au_.ok n,d2_.ok n,al_.ok n,cO_.ok n,cF_.ok n,eh_.ok n,c2_.ok n,cP_.ok n,fh_.ok n,cy_.ok n,strings_Split.ok n,eb_.ok n,e2_.ok n,cA_.ok n,dp_.ok n,dP_.ok n,aH_.ok n,af_.ok n,dl_.ok n,cp_.ok n,cY_.ok n,trivial⟩)
end
inductive Kd where
 |i (k:IntKind)
 |b
 |s
 |sl (t:TC)
def kdsL (P:Program) (rec_:TypeId->Option (List Kd)):List Field->Nat->Option (List Kd)
 |[],_=>some []
 |f::fs,off=>cond (Nat.beq f.offset off) (match rec_ f.type with
  |some ks=>cond (Nat.beq (P.cellsOf f.type) ks.length) (match kdsL P rec_ fs (off+ks.length) with
   |some r=>some (ks++r)
   |none=>none) none
  |none=>none) none
def kds (P:Program)(e9_:TypeId->Option TC):Nat->TypeId->Option (List Kd)
 |0,_=>none
 |d+1,T=>match P.underlying T with
  |some (.int k)=>some [.i k]
  |some .bool=>some [.b]
  |some .string=>some [.s]
  |some (.slice e)=>match e9_ e with
   |some t=>some [.sl t]
   |none=>none
  |some (.struct fs)=>match kdsL P (kds P e9_ d) fs.toList 0 with
   |some ks=>cond (Nat.beq (P.cellsOf T) ks.length) (some ks) none
   |none=>none
  |_=>none
inductive Good [aj_]:AV->Prop
 |i (k n):(Lit.int k n).wf=true->Good (.i k n)
 |b (q):Good (.b q)
 |s (l):l.length<=maxLen->Good (.s l)
 |sl (t xs):xs.length<=maxLen->(∀ x ∈ xs,∀ c ∈ aj_.enc .v t x,Good c)->Good (.sl .v t xs)
def KindOk:Kd->AV->Prop
 |.i k,a=>∃ n,a = .i k n
 |.b,a=>∃ q,a = .b q
 |.s,a=>∃ l,a = .s l
 |.sl t,a=>∃ xs,a = .sl .v t xs
def lI_:List Kd->List AV->Prop
 |[],[]=>True
 |k::ks,a::l=>KindOk k a/\lI_ ks l
 |_,_=>False
section
variable {H:Type} {enc:TypeId×Value->H} {P:Program} {w:World} {spare:Nat->Bool}
def rh_ (enc:TypeId×Value->H)(P:Program)(w:World)(spare:Nat->Bool)(eid:TC->TypeId)(F:Nat):Kd->Value->Prop
 |.i k,v=>∃ n,v = .int k n/\(Lit.int k n).wf=true
 |.b,v=>∃ q,v = .bool q
 |.s,v=>∃ s:ByteArray,v = .string s/\s.size<=maxLen
 |.sl t,v=>v = .slice none 0 0\/∃ (a:Addr) (len cap N:Nat),v = .slice (some a) len cap/\len<=cap/\cap<=maxLen/\N<F /\
   ∀ i,i<len->∃ cs x,w.cells? 0 (a.add (i*P.cellsOf (eid t))) (P.cellsOf (eid t))=some cs/\DataW.trod enc P w 0 spare true N (eid t) cs=some x
def fT_ (enc:TypeId×Value->H)(P:Program)(w:World)(spare:Nat->Bool)(eid:TC->TypeId)(F:Nat):List Kd->List Value->Prop
 |[],[]=>True
 |k::ks,v::vs=>rh_ enc P w spare eid F k v/\fT_ enc P w spare eid F ks vs
 |_,_=>False
theorem rh_.mono {eid:TC->TypeId}{F F':Nat}(m:F<=F'){k:Kd}{v:Value}(h:rh_ enc P w spare eid F k v):rh_ enc P w spare eid F' k v:=by
 cases k with
 |sl t=>
  rcases h with h|⟨a,len,cap,N,I,B,z,u,p⟩
  . exact .inl h
  . exact .inr ⟨a,len,cap,N,I,B,z,Nat.lt_of_lt_of_le u m,p⟩
 |_=>exact h
theorem fT_.mono {eid:TC->TypeId}{F F':Nat}(m:F<=F'):∀ {ks:List Kd}{vs:List Value},fT_ enc P w spare eid F ks vs->fT_ enc P w spare eid F' ks vs
 |[],[],_=>trivial
 |k::ks,v::vs,h=>⟨h.1.mono m,fT_.mono m h.2⟩
 |[],_::_,h=>h.elim
 |_::_,[],h=>h.elim
theorem fT_.append {eid:TC->TypeId}{F:Nat}:∀ {ks:List Kd}{vs:List Value}{ks':List Kd}{vs':List Value},fT_ enc P w spare eid F ks vs->fT_ enc P w spare eid F ks' vs'->fT_ enc P w spare eid F (ks++ks') (vs++vs')
 |[],[],_,_,_,h=>h
 |k::ks,v::vs,_,_,h,h'=>⟨h.1,fT_.append h.2 h'⟩
 |[],_::_,_,_,h,_=>h.elim
 |_::_,[],_,_,h,_=>h.elim
theorem ow_ {e9_:TypeId->Option TC}{eid:TC->TypeId}{n:Nat}{rec_:TypeId->Option (List Kd)}{cs:List Value}(k:∀ T ks cs x,rec_ T=some ks->DataW.trod enc P w 0 spare true n T cs=some x->fT_ enc P w spare eid n ks cs) :
  ∀ (fs:List Field)(off:Nat)(ks:List Kd),kdsL P rec_ fs off=some ks->(∀ f ∈ fs,∃ x,DataW.trod enc P w 0 spare true n f.type ((cs.drop f.offset).take (P.cellsOf f.type))=some x)->off+ks.length=cs.length->fT_ enc P w spare eid n ks (cs.drop off)
 |[],off,ks,h,_,hl=>by simp only [kdsL,Option.some.injEq] at h;subst h;rw [List.drop_eq_nil_of_le (by simp at hl;omega)];trivial
 |f::fs,off,ks,h,hx,hl=>by
  simp only [kdsL] at h;obtain ⟨I,p⟩:=cn_ h;have I:=df_.1 I;cases hr:rec_ f.type with
  |none=>rw [hr] at p;cases p
  |some k1=>
   rw [hr] at p;obtain ⟨B,m⟩:=cn_ p;have B:=df_.1 B;cases z:kdsL P rec_ fs (off+k1.length) with
   |none=>rw [z] at m;cases m
   |some r=>
    rw [z] at m;simp only [Option.some.injEq] at m;subst m;obtain ⟨x,u⟩:=hx f (List.mem_cons_self ..);have J:=k _ _ _ _ hr u;have S:=ow_ (e9_:=e9_) k fs (off+k1.length) r z (fun g O=>hx g (List.mem_cons_of_mem _ O)) (by simp at hl;omega);rw [I,B] at J;have:cs.drop off=(cs.drop off).take k1.length++cs.drop (off+k1.length):=by rw [<-List.drop_drop,List.take_append_drop]
    rw [this];exact J.append S
theorem oQ_ {e9_:TypeId->Option TC}{eid:TC->TypeId}(p:∀ e t,e9_ e=some t->eid t=e):∀ (d F:Nat)(T:TypeId)(ks:List Kd)(cs:List Value)(x:DataW H×List MemPlace),kds P e9_ d T=some ks->DataW.trod enc P w 0 spare true F T cs=some x->fT_ enc P w spare eid F ks cs
 |0,F,T,ks,cs,x,m,h=>by cases m
 |d+1,F,T,ks,cs,x,m,h=>by
  simp only [kds] at m;cases z:P.underlying T with
  |none=>rw [z] at m;cases m
  |some u=>
   rw [z] at m;cases u<;>simp only at m<;>(try (cases m;done))
   case bool=>
    cases m;obtain ⟨q,rfl,_⟩:=DataW.trod_bool z h;exact ⟨⟨q,rfl⟩,trivial⟩
   case int k=>
    cases m;obtain ⟨n,rfl,_,Z⟩:=DataW.trod_int z h;exact ⟨⟨n,rfl,Z⟩,trivial⟩
   case string=>
    cases m;obtain ⟨s,rfl,_,hs⟩:=DataW.trod_string z h;exact ⟨⟨s,rfl,hs⟩,trivial⟩
   case slice e=>
    cases hc:e9_ e with
    |none=>rw [hc] at m;cases m
    |some t=>
     rw [hc] at m;cases m;have he:=p e t hc;rcases DataW.trod_slice z h with ⟨rfl,_⟩|⟨a,len,cap,elems,jl_,n,V,rfl,_,_,hl,hm,U,hel,_,_⟩
     . exact ⟨.inl rfl,trivial⟩
     . refine ⟨.inr ⟨a,len,cap,n,rfl,hl,hm,by omega,fun i hi => ?_⟩,trivial⟩
       have I:=hel i hi;rw [List.getElem?_eq_getElem (by omega)] at I;rw [Option.bind_eq_some_iff] at I;obtain ⟨cs,k1,k2⟩:=I;exact ⟨cs,_,by rw [he];exact k1,by rw [he];exact k2⟩
   case struct fs=>
    obtain ⟨xs,n,V,_,hcl,O,hx⟩:=DataW.trod_struct z h;cases B:kdsL P (kds P e9_ d) fs.toList 0 with
    |none=>rw [B] at m;cases m
    |some ks'=>
     rw [B] at m;obtain ⟨I,h2⟩:=cn_ m;have I:=df_.1 I;cases h2;subst V;have:=ow_ (e9_:=e9_) (eid:=eid) (n:=n) (cs:=cs) (fun T ks cs x k1 k2=>oQ_ p d n T ks cs x k1 k2) fs.toList 0 ks B (fun f hf=>by
      obtain ⟨i,hi⟩:=List.getElem?_of_mem hf;have J:fs[i]?=some f:=by simpa using hi
      have Y:=hx i f J;have S:i<xs.length:=by rw [O];exact (Array.getElem?_eq_some_iff.1 J).1
      rw [List.getElem?_eq_getElem S] at Y;exact ⟨_,Y⟩) (by omega)
     exact (this.mono (Nat.le_succ n))
end
section
variable [aj_]
open aj_
variable {H:Type} {enc':TypeId×Value->H} {E:Env} {w:World} {spare:Nat->Bool}
abbrev NoF:Nat->Prop:=fun _=>False
omit [aj_] in
theorem mF_:∀ {ks:List Kd}{l c:List AV},lI_ ks l->sims .v l c->c=l
 |[],[],[],_,_=>rfl
 |k::ks,a::l,b::c,h,hs=>by have e:=mF_ h.2 hs.2;subst e;have p:=h.1;have m:=hs.1;cases k<;>obtain ⟨x,rfl⟩:=p<;>simp only [AV.sim] at m<;>rw [m]
 |[],[],_::_,_,h=>h.elim
 |[],_::_,_,h,_=>h.elim
 |_::_,[],_,h,_=>h.elim
 |_::_,_::_,[],_,h=>h.elim
structure nu_ (E:Env) (e9_:TypeId->Option TC) (kinds:TC->List Kd) (d:Nat):Prop where
 codeOk:∀ e t,e9_ e=some t->E.eid t=e
 kdsOk:∀ t,kds E.P e9_ d (E.eid t)=some (kinds t)
 dec:∀ t l,lI_ (kinds t) l->∃ y,dec t l=some y
 cells:∀ t,E.P.cellsOf (E.eid t)=t.width
theorem qn_ [ai_]{t:TC}{N:Nat} (hel:∀ cs x,DataW.trod enc' E.P w 0 spare true N (E.eid t) cs=some x->∃ y:El t,RL E w NoF (enc .v t y) cs (fun _=>0)/\∀ c ∈ enc .v t y,Good c) {b o:Nat} (u:E.P.cellsOf (E.eid t)=t.width) :
  ∀ len,(∀ i,i<len->∃ cs x,w.cells? 0 ((⟨b,o,none⟩:Addr).add (i*E.P.cellsOf (E.eid t))) (E.P.cellsOf (E.eid t))=some cs/\DataW.trod enc' E.P w 0 spare true N (E.eid t) cs=some x) ->
  ∃ (xs:List (El t)) (vals:List Value),xs.length=len/\vals.length=len*t.width/\RL E w NoF (aT_ .v t xs) vals (fun _=>0)/\w.rangeAt b o vals/\∀ x ∈ xs,∀ c ∈ enc .v t x,Good c
 |0,_=>⟨[],[],rfl,by simp,RL.nil (fun _=>0) fun _=>rfl,fun j v h=>by simp at h,fun x hx=>by cases hx⟩
 |len+1,h=>by
  obtain ⟨xs,vals,O,J,I,B,z⟩:=qn_ hel u len fun i hi=>h i (by omega);obtain ⟨cs,x,k1,k2⟩:=h len (Nat.lt_succ_self _);obtain ⟨y,j1,j2⟩:=hel cs x k2;obtain ⟨_,hl,hc⟩:=World.cells?_some k1;rw [u] at hl hc;refine ⟨xs++[y],vals++cs,by simp [O],by rw [List.length_append,J,hl];exact (Nat.succ_mul _ _).symm,?_,fun j v k => ?_,fun x hx => ?_⟩
  . rw [cI_]
    refine RL.append I (φ':=fun _=>0) ?_ (fun b=>rfl);simpa [aT_] using j1
  . by_cases m:j<vals.length
    . rw [List.getElem?_append_left m] at k
      exact B j v k
    . rw [List.getElem?_append_right (by omega)] at k
      have p:j - vals.length<t.width:=by rw [<-hl];exact (List.getElem?_eq_some_iff.1 k).1
      have:=hc (j - vals.length) p;rw [Addr.add_mid,Addr.add_mid,k] at this;rw [<-this]
      congr 2
      omega
  . rcases List.mem_append.1 hx with hx|hx
    . exact z x hx
    . rw [List.mem_singleton] at hx;subst hx;exact j2
theorem cell_open [ai_]{e9_:TypeId->Option TC}{kinds:TC->List Kd}{d:Nat}(O:nu_ E e9_ kinds d){F:Nat} (ih:∀ N,N<F->∀ t cs x,DataW.trod enc' E.P w 0 spare true N (E.eid t) cs=some x->∃ y:El t,RL E w NoF (enc .v t y) cs (fun _=>0)/\∀ c ∈ enc .v t y,Good c) {k:Kd} {v:Value} (h:rh_ enc' E.P w spare E.eid F k v) :
  ∃ a,KindOk k a/\RL E w NoF [a] [v] (fun _=>0)/\Good a:=by
 cases k with
 |i k=>obtain ⟨n,rfl,I⟩:=h;exact ⟨.i k n,⟨n,rfl⟩,.scal _ _ _ _ _ rfl (.nil _ fun _=>rfl),.i _ _ I⟩
 |b=>obtain ⟨q,rfl⟩:=h;exact ⟨.b q,⟨q,rfl⟩,.scal _ _ _ _ _ rfl (.nil _ fun _=>rfl),.b _⟩
 |s=>
  obtain ⟨s,rfl,hs⟩:=h;refine ⟨.s s.data.toList,⟨_,rfl⟩,.scal _ _ _ _ _ ?_ (.nil _ fun _=>rfl),.s _ ?_⟩
  . show Value.string s = .string ⟨s.data.toList.toArray⟩
    simp
  . rw [Array.length_toList];exact hs
 |sl t=>
  rcases h with rfl|⟨a,len,cap,N,rfl,hl,U,S,hel⟩
  . exact ⟨.sl .v t [],⟨_,rfl⟩,.view t [] none 0 0 [] (fun _=>0) _ _ _ ⟨rfl,Nat.le_refl _⟩ (.nil _ fun _=>rfl) (fun _=>rfl) (fun J=>by omega) (.nil _ fun _=>rfl),.sl _ _ (Nat.zero_le _) (fun x hx=>by cases hx)⟩
  . cases len with
    |zero=>exact ⟨.sl .v t [],⟨_,rfl⟩,.view t [] (some a) 0 cap [] (fun _=>0) _ _ _ ⟨rfl,hl⟩ (.nil _ fun _=>rfl) (fun _=>rfl) (fun J=>by omega) (.nil _ fun _=>rfl),.sl _ _ (Nat.zero_le _) (fun x hx=>by cases hx)⟩
    |succ len=>
     have u:=O.cells t;have p:0<t.width:=ai_.pos t;obtain ⟨cs0,x0,k1,_⟩:=hel 0 (Nat.succ_pos _);obtain ⟨_,z,B⟩:=World.cells?_some k1;have m:=B 0 (by rw [u];exact p);rw [List.getElem?_eq_getElem (by rw [z,u];exact p)] at m;have ha:a.spot=none:=by
      have T:(a.add (0*E.P.cellsOf (E.eid t))).add 0=a:=by simp [Addr.add]
      rw [T] at m;unfold World.cell? at m;split at m
      . cases hs:a.spot with
        |none=>rfl
        |some q=>simp [hs] at m
      . cases m
     obtain ⟨b,o,sp⟩:=a;simp only at ha;subst ha;have hb:b<w.heap.size:=World.cells?_block k1 (by rw [u];exact p) |> fun h=>by simpa [Addr.add] using h
     obtain ⟨xs,vals,e1,e2,e3,e4,e5⟩:=qn_ (ih N S t) u (len+1) hel;refine ⟨.sl .v t xs,⟨_,rfl⟩,?_,.sl _ _ (by omega) e5⟩;exact .view t xs (some ⟨b,o,none⟩) (len+1) cap vals (fun _=>0) _ _ _ ⟨e1.symm,hl⟩ e3 (fun _=>rfl) (fun _=>⟨b,o,rfl,e4,hb,fun h=>h⟩) (.nil _ fun _=>rfl)
theorem lf_ [ai_]{e9_:TypeId->Option TC}{kinds:TC->List Kd}{d:Nat}(m:nu_ E e9_ kinds d){F:Nat} (ih:∀ N,N<F->∀ t cs x,DataW.trod enc' E.P w 0 spare true N (E.eid t) cs=some x->∃ y:El t,RL E w NoF (enc .v t y) cs (fun _=>0)/\∀ c ∈ enc .v t y,Good c) :
  ∀ {ks:List Kd}{vs:List Value},fT_ enc' E.P w spare E.eid F ks vs->∃ l,lI_ ks l/\RL E w NoF l vs (fun _=>0)/\∀ c ∈ l,Good c
 |[],[],_=>⟨[],trivial,.nil _ fun _=>rfl,fun c hc=>by cases hc⟩
 |k::ks,v::vs,h=>by
  obtain ⟨a,z,u,p⟩:=cell_open m ih h.1;obtain ⟨l,k1,k2,k3⟩:=lf_ m ih h.2;refine ⟨a::l,⟨z,k1⟩,RL.cons u k2 (fun b=>rfl),fun c hc => ?_⟩;rcases List.mem_cons.1 hc with rfl|hc
  . exact p
  . exact k3 c hc
 |[],_::_,h=>h.elim
 |_::_,[],h=>h.elim
theorem el_open [ai_]{e9_:TypeId->Option TC}{kinds:TC->List Kd}{d:Nat}(k:nu_ E e9_ kinds d):∀ (F:Nat)(t:TC)(cs:List Value)(x:DataW H×List MemPlace),DataW.trod enc' E.P w 0 spare true F (E.eid t) cs=some x ->
  ∃ y:El t,RL E w NoF (enc .v t y) cs (fun _=>0)/\∀ c ∈ enc .v t y,Good c:=by
 intro F;induction F using Nat.strongRecOn with
 |_ F ih=>
  intro t cs x h;have J:=oQ_ k.codeOk d F _ _ _ _ (k.kdsOk t) h;obtain ⟨l,p,I,B⟩:=lf_ k ih J;obtain ⟨y,u⟩:=k.dec t l p;have z:=ai_.dec .v t l y u;have m:=mF_ p z;exact ⟨y,by rw [m];exact I,by rw [m];exact B⟩
theorem arg_open [ai_]{e9_:TypeId->Option TC}{kinds:TC->List Kd}{d:Nat}(k:nu_ E e9_ kinds d){T:TypeId}{ks:List Kd}(m:kds E.P e9_ d T=some ks){v:Value}{dd:DataW H}{ps:List MemPlace}(h:DataW.Trod enc' E.P w 0 spare true T v dd ps) :
  ∃ l,lI_ ks l/\RL E w NoF l v.cells.toList (fun _=>0)/\∀ c ∈ l,Good c:=by
 obtain ⟨F,p⟩:=h;exact lf_ k (fun N _=>el_open k N) (oQ_ k.codeOk d F T ks _ _ m p)
end
section
open Go.RowKit
variable [aj_]
open aj_
omit [aj_] in
theorem dK_ {k:Kd}{ks:List Kd}{l:List AV} (h:lI_ (k::ks) l):∃ a l',l=a::l'/\KindOk k a/\lI_ ks l':=by
 cases l with
 |nil=>exact h.elim
 |cons a l=>exact ⟨a,l,rfl,h.1,h.2⟩
omit [aj_] in
theorem ej_ {l:List AV}(h:lI_ [] l):l=[]:=by
 cases l with
 |nil=>rfl
 |cons a l=>exact h.elim
def codeL (eid:TC->TypeId):List TC->TypeId->Option TC
 |[],_=>none
 |t::ts,e=>cond (Nat.beq (eid t) e) (some t) (codeL eid ts e)
omit [aj_] in
theorem tm_ {eid:TC->TypeId}{e:TypeId}{t:TC}:∀ ts,codeL eid ts e=some t->eid t=e
 |[],h=>by cases h
 |u::ts,h=>by
  simp only [codeL] at h;cases hb:Nat.beq (eid u) e with
  |true=>rw [hb] at h;cases h;exact df_.1 hb
  |false=>rw [hb] at h;exact tm_ ts h
theorem law_true [ai_]{E:Env}{f:FuncId}{avs:List AV}{outs:List AV}{ps:List PS} (h:ff_ E f avs (.b true) outs ps) {w:World} (m:Glob E w NoF) {Vs:List Value} (hr:RL E w NoF avs Vs (fun _=>0)) :
  Calls E.P f Vs.toArray w fun e W'=>e = .returned (.bool true)/\Below w.heap.size w W':=by
 refine (h w NoF Vs _ hr (fun _=>Nat.zero_le _) (fun b hb=>hb.elim) m).mono fun e W' ⟨V,φ',he,u,_,_,e1,e2,e3,e4,e5⟩=>⟨?_,e1,e2,e3,e4,fun k p=>e5 k p rfl⟩
 cases u with
 |scal a v l vs φ hs _=>rw [he,show V = .bool true from hs]
end
section
open Go.Proofs Go.Proofs.YtmgcfhlcdhlafaaGreatDoor
open Go.ChangeShapes Go.WideShapes Go.ChangeAt Go.RowKit
def e9_:TypeId->Option TC:=codeL eid [.u8,.str,.int,.iRow,.s_iRow,.iCond,.iKid,.iEvent,.iJson,.iOp,.iMut,.iChange]
def kinds:TC->List Kd
 |.u8=>[.i .u8]
 |.str=>[.s]
 |.int=>[.i .i64]
 |.iRow=>[.i .i64,.sl .int]
 |.s_iRow=>[.sl .iRow]
 |.iCond=>[.i .i64,.i .i64,.i .i64]
 |.iKid=>[.i .i64,.i .i64]
 |.iEvent=>[.i .i64,.i .i64,.i .i64,.i .i64,.i .i64,.s,.sl .iJson,.sl .str,.sl .iOp]
 |.iJson=>[.i .i64,.i .i64,.s,.sl .iJson,.sl .str]
 |.iOp=>[.i .i64,.sl .str,.i .i64,.i .i64,.s,.sl .iJson,.sl .str]
 |.iMut=>[.i .i64,.i .i64,.i .i64,.sl .int]
 |.iChange=>[.i .i64,.b,.b,.i .i64,.sl .int,.i .i64,.sl .int]
theorem kindsOk:nu_ E e9_ kinds 12 where
 codeOk:=fun e t h=>tm_ _ h
 kdsOk:=by intro t;cases t<;>kernel_rfl
 cells:=by intro t;cases t<;>kernel_rfl
 dec:=by
  intro t l h;cases t with
  |u8=>
   iterate 1 (replace h:=dK_ h;obtain ⟨_,_,rfl,⟨_,rfl⟩,h⟩:=h)
   replace h:=ej_ h;subst h;exact ⟨_,rfl⟩
  |str=>
   iterate 1 (replace h:=dK_ h;obtain ⟨_,_,rfl,⟨_,rfl⟩,h⟩:=h)
   replace h:=ej_ h;subst h;exact ⟨_,rfl⟩
  |int=>
   iterate 1 (replace h:=dK_ h;obtain ⟨_,_,rfl,⟨_,rfl⟩,h⟩:=h)
   replace h:=ej_ h;subst h;exact ⟨_,rfl⟩
  |iRow=>
   iterate 2 (replace h:=dK_ h;obtain ⟨_,_,rfl,⟨_,rfl⟩,h⟩:=h)
   replace h:=ej_ h;subst h;exact ⟨_,rfl⟩
  |s_iRow=>
   iterate 1 (replace h:=dK_ h;obtain ⟨_,_,rfl,⟨_,rfl⟩,h⟩:=h)
   replace h:=ej_ h;subst h;exact ⟨_,rfl⟩
  |iCond=>
   iterate 3 (replace h:=dK_ h;obtain ⟨_,_,rfl,⟨_,rfl⟩,h⟩:=h)
   replace h:=ej_ h;subst h;exact ⟨_,rfl⟩
  |iKid=>
   iterate 2 (replace h:=dK_ h;obtain ⟨_,_,rfl,⟨_,rfl⟩,h⟩:=h)
   replace h:=ej_ h;subst h;exact ⟨_,rfl⟩
  |iEvent=>
   iterate 9 (replace h:=dK_ h;obtain ⟨_,_,rfl,⟨_,rfl⟩,h⟩:=h)
   replace h:=ej_ h;subst h;exact ⟨_,rfl⟩
  |iJson=>
   iterate 5 (replace h:=dK_ h;obtain ⟨_,_,rfl,⟨_,rfl⟩,h⟩:=h)
   replace h:=ej_ h;subst h;exact ⟨_,rfl⟩
  |iOp=>
   iterate 7 (replace h:=dK_ h;obtain ⟨_,_,rfl,⟨_,rfl⟩,h⟩:=h)
   replace h:=ej_ h;subst h;exact ⟨_,rfl⟩
  |iMut=>
   iterate 4 (replace h:=dK_ h;obtain ⟨_,_,rfl,⟨_,rfl⟩,h⟩:=h)
   replace h:=ej_ h;subst h;exact ⟨_,rfl⟩
  |iChange=>
   iterate 7 (replace h:=dK_ h;obtain ⟨_,_,rfl,⟨_,rfl⟩,h⟩:=h)
   replace h:=ej_ h;subst h;exact ⟨_,rfl⟩
namespace laws_FnHeard
theorem own:ownKnob Tryz.prog.godebug=none:=by kernel_rfl
theorem laidOut:laidOutB Tryz.prog=true:=by kernel_rfl
def tF_:DataW Unit->ByteArray
 |.iface _ (.ptr (.agg [.lit (.string l)]))=>⟨l.toArray⟩
 |_=>ByteArray.empty
def tab1:DataW Unit->List Value
 |.lit (.int k n)=>[Value.int k n]
 |_=>[]
def tab2:DataW Unit->List Value
 |.agg l=>l.flatMap tab1
 |d=>tab1 d
def gg_:DataW Unit->Array Value
 |.agg l=>(l.flatMap tab2).toArray
 |_ => #[]
def Pure:Prop:=∀ (o:List Int),(∀ c ∈ ([.sl .v .u8 o]:List AV),Good c)->∃ n,Go.Pi.laws_FnHeard n o=some true
noncomputable def low:Nat:=(World.holding Tryz.prog default ⟨#[],#[],[]⟩).heap.size
noncomputable def qB_ (os:Os):World :=
 let w0:=World.holding Tryz.prog os ⟨#[.cells #[.string (tF_ Rows.laid_strconv_ErrRange)] 303,.cells #[.string (tF_ Rows.laid_strconv_ErrSyntax)] 303],#[],[]⟩
 let put:=fun (h:Array Obj) (g:Nat) (cs:Array Value)=>h.modify g fun
  |.cells _ t frozen=>.cells cs t frozen
  |o=>o
 { w0 with heap:=put (put (put (put (put (put (put (w0.heap) 4 (gg_ Rows.laid_math_bits_deBruijn32tab)) 5 (gg_ Rows.laid_math_bits_deBruijn64tab)) 3 (gg_ Rows.laid_internal_strconv_uint64pow10)) 7 (gg_ Rows.laid_unicode_utf8_acceptRanges)) 2 (#[.iface 301 (.pointer (some ⟨low+0,0,none⟩))])) 1 (#[.iface 301 (.pointer (some ⟨low+1,0,none⟩))])) 6 (gg_ Rows.laid_unicode_utf8_first) }
theorem pu_ (os:Os)(args:Array Value):laidMet Tryz.prog Rows.fnHeardRow.laid ((qB_ os).forCall (fun _ _=>0) ⟨#[],args,[]⟩).memory :=
 laidMet_of_run' 8 (by kernel_rfl) (by kernel_rfl)
theorem lifted (z:Pure)(os:Os)(started:os.Started)(H:Type)(enc:TypeId×Value->H) :
  ReturnsInHanded {} Tryz.checked os 7 .any (fun w args=>(Rows.fnHeardSpec.pre enc Tryz.prog Tryz.f7 Rows.fnHeardRow.domain false w args/\laidMet Tryz.prog Rows.fnHeardRow.laid w)/\sizedMet enc Tryz.prog Tryz.f7 (OpenSpec.ofChange Rows.fnHeardSpec) false w args) (Rows.fnHeardSpec.post enc Tryz.prog Tryz.f7 false true false false):=by
 refine returnsInHanded_of_calls own started (by kernel_rfl) (ChangeSpec.witness_at (enc:=enc) (C:=Tryz.checked) (os:=os) (X:=fun w _=>laidMet Tryz.prog Rows.fnHeardRow.laid w) false (qB_ os) #[.slice none 0 0] 8 rfl (by kernel_rfl) (by kernel_rfl) (by kernel_rfl) (by kernel_rfl) (by kernel_rfl) (pu_ os _)) ?_;intro w0 tape inp _ O _ hok S _;obtain ⟨_,_,_,fn',I,_,_,_,_,u⟩:=hok;obtain rfl:fn'=Tryz.f7:=Option.some.inj (I.symm.trans Tryz.func7);obtain ⟨⟨⟨ds,gs,before,J,U⟩,V⟩,hz⟩:=S;have Y:=DataW.Whole.of_heap (w':=w0.forCall tape inp) (by rfl) J;have Z:laidMet Tryz.prog Rows.fnHeardRow.laid (w0.forCall tape inp):=V.of_heap (by rfl);clear J V hz I U;generalize w0.forCall tape inp=W at O u Y Z ⊢;generalize inp.args=args at u Y ⊢;generalize w0.heap.size=base at u
 suffices hgo:Calls Tryz.prog 7 args W fun e W'=>∃ v,e = .returned v/\Rows.fnHeardSpec.post enc Tryz.prog Tryz.f7 false true false false W args v W' from hgo.mono fun e W' ⟨v,he,z⟩=>by subst he;exact ChangeSpec.post_blind z
 have B:∀ (j:Nat) t v,Tryz.f7.params[j]?=some t->args[j]?=some v->Value.okWide Tryz.prog W .any base t v:=u;have hW':=Y;obtain ⟨p,q,hA0,hV,rfl,hfz,hnd⟩:=Y;have hA:DataW.TrodAll enc Tryz.prog W 0 (fun _=>true) true Tryz.f7.params.toList args.toList ds p:=hA0;rw [Tryz.params7] at hA B;obtain ⟨v0,vs0,d0,ds0,p0,q0,hargs,rfl,rfl,h0,r0⟩:=trodAll_cons hA;obtain ⟨rfl,rfl,rfl⟩:=trodAll_nil r0;obtain rfl:args = #[v0]:=by cases args;simp_all
 obtain ⟨rfl,rfl⟩:=trodVars_none hV;obtain ⟨c0,len0,cap0,rfl⟩:=okWide_slice Tryz.underlying22 (B 0 22 v0 rfl rfl);have lt0:∀ x ∈ p0,x.block<W.heap.size:=by obtain ⟨m,hm⟩:=h0;exact DataW.trod_lt m _ _ _ hm
 obtain ⟨l0,k0,e0,g0⟩:=arg_open kindsOk (T:=22) (ks:=[.sl .u8]) (by kernel_rfl) h0;replace k0:=dK_ k0;obtain ⟨_,_,rfl,⟨z0,rfl⟩,k0⟩:=k0;replace k0:=ej_ k0;subst k0;have hT:Lib.TabIs Tryz.prog W "internal/strconv.uint64pow10" .u64 Lib.pow10Tab:=Lib.tabIs_of_head (t:=292) (e:=267) (n:=20) nd_ (by kernel_rfl) (by kernel_rfl) (by kernel_rfl) (by kernel_rfl) (by kernel_rfl) (show laidMet Tryz.prog ((_,Lib.tabData .u64 Lib.pow10Tab)::_) W from Z.tail.tail)
 obtain ⟨mx,hmx⟩:=cell_of_shapedOpen_int (g:=0) (t:=3) (k:=.i64) (zero:=#[.int .i64 0]) O (by decide +kernel) (by kernel_rfl) rfl (by kernel_rfl) (by kernel_rfl) (by kernel_rfl);have hgl:Glob E W NoF:=fun p z=>by
  rcases List.mem_cons.1 z with rfl|z
  . obtain ⟨T,fr,h⟩:=tab_glob hT nd_;exact ⟨⟨_,T,fr,h,rfl⟩,fun h=>h.elim⟩
  rcases List.mem_cons.1 z with rfl|z
  . exact ⟨int_glob hmx,fun h=>h.elim⟩
  rcases List.mem_cons.1 z with rfl|z
  . exact ⟨te_ (d:=.ptr (.agg [.lit (.string (tF_ Rows.laid_strconv_ErrSyntax).data.toList)])) (show laidMet Tryz.prog (("strconv.ErrSyntax", .iface "*errors.errorString" (.ptr (.agg [.lit (.string (tF_ Rows.laid_strconv_ErrSyntax).data.toList)])))::_) W from Z.tail.tail.tail.tail.tail) (by kernel_rfl) (by kernel_rfl),fun h=>h.elim⟩
  rcases List.mem_singleton.1 z with rfl;exact ⟨te_ (d:=.ptr (.agg [.lit (.string (tF_ Rows.laid_strconv_ErrRange).data.toList)])) (show laidMet Tryz.prog (("strconv.ErrRange", .iface "*errors.errorString" (.ptr (.agg [.lit (.string (tF_ Rows.laid_strconv_ErrRange).data.toList)])))::_) W from Z.tail.tail.tail.tail) (by kernel_rfl) (by kernel_rfl),fun h=>h.elim⟩
 obtain ⟨n,hn⟩:=z z0 g0;refine (law_true ((AllE.get (e:=laws_FnHeard.e) 0 (allOk n) (by kernel_rfl)) (z0,()) _ hn) hgl (RL.cons e0 (.nil _ fun _=>rfl) (fun b=>rfl))).mono fun e W' ⟨he,bel⟩ => ?_;subst he;exact ⟨_,rfl,_,_,_,[],_,[],hW',trodAll_mk1 (shut_bool Tryz.underlying4 _),(trodAll_cons_mk (Below.trod laidOut (by kernel_rfl) (of_decide_eq_true (by kernel_rfl)) h0 bel lt0) trodAll_mk0),rfl,bel.frame _,fun h=>by cases h⟩
theorem jf0:(Rows.fnHeardRow.wf (OpenSpec.ofChange Rows.fnHeardSpec))=true:=by kernel_rfl
theorem jf1:(laidOutB Tryz.prog)=true:=by kernel_rfl
theorem jf2:(mapsRowed Tryz.prog)=true:=by kernel_rfl
theorem jf3:(Tryz.f7.params.all (Tryz.prog.readableRec ·))=true:=by kernel_rfl
theorem jf4:(namedTie Tryz.prog Rows.fnHeardRow.named Rows.fnHeardSpec.vars)=true:=by kernel_rfl
theorem jf5:((Rows.fnHeardRow.stops==[]))=true:=by kernel_rfl
theorem jf6:((Tryz.prog.stops==[]))=true:=by kernel_rfl
theorem jf7:((Rows.fnHeardRow.knobs==[]))=true:=by kernel_rfl
theorem jf8:((Tryz.prog.stopKnobs==[]))=true:=by kernel_rfl
theorem jf9:((Rows.fnHeardRow.inPlace==Tryz.prog.inPlace 7))=true:=by kernel_rfl
theorem jf10:((Rows.fnHeardRow.unfollowed==Tryz.prog.unfollowed 7))=true:=by kernel_rfl
theorem jf11:((Rows.fnHeardRow.recurses==Tryz.prog.recurses 7))=true:=by kernel_rfl
theorem jf12:((Rows.fnHeardRow.named==Tryz.prog.varsNamed 7))=true:=by kernel_rfl
theorem jf13:((Rows.fnHeardRow.maps==(Tryz.f7.params.toList++Rows.fnHeardSpec.plain.varTypes Tryz.prog).any (Tryz.prog.mapsRec ·)))=true:=by kernel_rfl
theorem jf14:((Rows.fnHeardRow.ifaces==(Tryz.f7.params.toList++Rows.fnHeardSpec.plain.varTypes Tryz.prog).any (Tryz.prog.ifacesRec ·)))=true:=by kernel_rfl
theorem jf15:((Rows.fnHeardRow.mapsOut==Tryz.prog.mapsAmong Tryz.f7.resultTypes.toList))=true:=by kernel_rfl
theorem jf16:((Rows.fnHeardRow.loops==(Tryz.f7.params.toList++Rows.fnHeardSpec.plain.varTypes Tryz.prog).any (Tryz.prog.loopsFrom ·)))=true:=by kernel_rfl
theorem jf17:((Rows.fnHeardRow.wideKeys==(Tryz.f7.params.toList++Rows.fnHeardSpec.plain.varTypes Tryz.prog++Tryz.f7.resultTypes.toList).any (Tryz.prog.wideKeysFrom ·)))=true:=by kernel_rfl
theorem jf18:(Rows.fnHeardSpec.vars.all (Tryz.prog.varReadable ·))=true:=by kernel_rfl
theorem jf19:(Tryz.f7.resultTypes.all (fun t=>Tryz.prog.readableRec t&&decide (t<Tryz.prog.types.size)))=true:=by kernel_rfl
theorem jf20:((Rows.fnHeardRow.ifacesOut==Tryz.f7.resultTypes.toList.any (Tryz.prog.ifacesRec ·)))=true:=by kernel_rfl
theorem jf21:((Rows.fnHeardRow.loopsOut==Tryz.f7.resultTypes.toList.any (Tryz.prog.loopsFrom ·)))=true:=by kernel_rfl
theorem jf22:((Rows.fnHeardRow.plainKeys==Tryz.prog.plainKeys))=true:=by kernel_rfl
theorem jf23:(Rows.fnHeardRow.shortTexts.isNone)=true:=by kernel_rfl
theorem jf24:(Tryz.prog.stopsHeard)=true:=by kernel_rfl
theorem jf25:(Tryz.prog.mayEnter)=true:=by kernel_rfl
theorem jf26:((Rows.fnHeardRow.lifted==Tryz.prog.liftsFinal))=true:=by kernel_rfl
theorem jf27:((Tryz.prog.make==some Rows.fnHeardRow.make))=true:=by kernel_rfl
theorem jf28:((Rows.fnHeardRow.kinds==(if Rows.fnHeardRow.domain.isEmpty then [] else Tryz.f7.params.toList.map fun t=>match Tryz.prog.underlying t with|some (.int k)=>some k|_=>none)))=true:=by kernel_rfl
theorem jf29:((Rows.fnHeardRow.pinned==Rows.fnHeardRow.pinnedBy))=true:=by kernel_rfl
theorem jf30:((Rows.fnHeardRow.veiled==(Tryz.f7.params.toList++Rows.fnHeardSpec.plain.varTypes Tryz.prog++Tryz.f7.resultTypes.toList).any (Tryz.prog.veiledRec ·)))=true:=by kernel_rfl
theorem jf31:(Rows.fnHeardRow.veiledFits Tryz.prog Tryz.f7.params.toList (Tryz.f7.params.toList++Rows.fnHeardSpec.plain.varTypes Tryz.prog++Tryz.f7.resultTypes.toList))=true:=by kernel_rfl
theorem jP_ {a b:Bool}(h:a=true)(k:b=true):(a&&b)=true:=by rw [h,k];rfl
theorem facts:joinedFacts Tryz.pinned.checked.prog 7 Tryz.f7 Rows.fnHeardSpec Rows.fnHeardRow=true:=(jP_ (jP_ (jP_ (jP_ (jP_ (jP_ (jP_ (jP_ (jP_ (jP_ (jP_ (jP_ (jP_ (jP_ (jP_ (jP_ (jP_ (jP_ (jP_ (jP_ (jP_ (jP_ (jP_ (jP_ (jP_ (jP_ (jP_ (jP_ (jP_ (jP_ (jP_ jf0 jf1) jf2) jf3) jf4) jf5) jf6) jf7) jf8) jf9) jf10) jf11) jf12) jf13) jf14) jf15) jf16) jf17) jf18) jf19) jf20) jf21) jf22) jf23) jf24) jf25) jf26) jf27) jf28) jf29) jf30) jf31)
theorem over (k:Pure):Rows.fnHeardRow.holds Tryz.pinned (OpenSpec.ofChange Rows.fnHeardSpec) :=
 OpenClaim.holds_of_wide 7 Tryz.f7 rfl rfl rfl rfl rfl rfl rfl ⟨rfl,rfl,rfl,rfl,rfl⟩ rfl rfl rfl rfl rfl (by kernel_rfl) Tryz.func7 facts
  (of_decide_eq_true (by kernel_rfl)) (by unfold Func.isWrapper;first|(rw [if_pos (by decide +kernel)];kernel_rfl)|(rw [if_neg (by decide +kernel)];exact ⟨rfl,rfl⟩))
  (fun os started H enc _=>lifted k os started H enc)
end laws_FnHeard
theorem laws_FnHeard.card (p:laws_FnHeard.Pure):Rows.FnHeardCardSaid :=
 Claim7.holds_tied_plain_at .later [] [.data,.data,.data,.data,.sentinel,.sentinel,.pinned] true (true, "731b7772da27f61403887da7ecfe18ed66ccaf2196a907d38826c3c3cd6f3b07") true
  (laws_FnHeard.over p) (fun _ h=>by cases h) (by kernel_rfl) (fun _ h=>by cases h) fnHeard_row_tie rfl ⟨rfl,rfl⟩ (by kernel_rfl) rfl
  (fun f fn z k=>by
    obtain rfl:f=7:=Option.some.inj ((show Tryz.prog.funcNamed "loop.example/g00198/laws.FnHeard" = some 7 by kernel_rfl).symm.trans z) |>.symm;obtain rfl:fn=Tryz.f7:=(Option.some.inj (Tryz.func7.symm.trans k)).symm;exact ⟨by kernel_rfl,fun j t m=>by
     rw [Tryz.params7] at m;have u:t ∈ ([22]:List TypeId):=List.mem_of_getElem? (show ([22]:List TypeId)[j]?=some t by simpa using m);have:=List.all_eq_true.1 (show ([22]:List TypeId).all (fun t => !Tryz.prog.wantsStandIn t)=true by kernel_rfl) t u;exact (by simpa using this:Tryz.prog.wantsStandIn t=false)⟩)
  (by kernel_rfl)
end
section
variable {α β:Type}
def Ev (f:Nat->Nat->Option α)(v:α):Prop:=∃ M,∀ n N,M<=n->M<=N->f n N=some v
theorem ac_ {v w:α}:Ev (fun _ _=>some v) w↔v=w :=
 ⟨fun ⟨M,h⟩=>Option.some.inj (h M M (Nat.le_refl _) (Nat.le_refl _)),fun h=>⟨0,fun _ _ _ _=>by rw [h]⟩⟩
theorem dZ_ {f:Nat->Nat->Option α}{v w:α}(h:Ev f v):Ev f w↔v=w:=by
 constructor
 . rintro ⟨M',h'⟩
   obtain ⟨M,h⟩:=h;have a:=h (max M M') (max M M') (by omega) (by omega);have b:=h' (max M M') (max M M') (by omega) (by omega);rw [a] at b;exact Option.some.inj b
 . rintro rfl;exact h
theorem ab_ {f:Nat->Nat->Option α}{a:α}(h:Ev f a){g:Nat->Nat->α->Option β}{v:β}:Ev (fun n N=>(f n N).bind (g n N)) v↔Ev (fun n N=>g n N a) v:=by
 obtain ⟨M,h⟩:=h;constructor
 . rintro ⟨M',h'⟩
   refine ⟨max M M',fun n N m k => ?_⟩;have:=h' n N (by omega) (by omega);simp only [h n N (by omega) (by omega),Option.bind_some] at this;exact this
 . rintro ⟨M',h'⟩
   refine ⟨max M M',fun n N m k => ?_⟩;simp only [h n N (by omega) (by omega),Option.bind_some];exact h' n N (by omega) (by omega)
theorem do_ {v:α}:Ev (fun _ _=>none) v↔False:=by
 simp only [iff_false]
 rintro ⟨M,h⟩
 cases h M M (Nat.le_refl _) (Nat.le_refl _)
theorem ag_ {c:Bool}{f g:Nat->Nat->Option α}{v:α}:Ev (fun n N=>cond c (f n N) (g n N)) v↔(c=true->Ev f v)/\(c=false->Ev g v):=by cases c<;>simp
theorem a2_ {i:Int}{len:Nat}{f:Nat->Nat->Option α}{v:α}:Ev (fun n N=>inB i len (f n N)) v↔(0<=i/\i<(len:Int))/\Ev f v:=by unfold inB;rw [ag_,ag_];by_cases m:0<=i<;>by_cases k:i<(len:Int)<;>simp [m,k,do_]
theorem ak_ {f:Nat->Nat->Option α}{v:α} (h:Ev (fun n N=>f (n+1) N) v):Ev f v:=by
 obtain ⟨M,h⟩:=h;refine ⟨M+1,fun n N p k => ?_⟩;obtain ⟨m,rfl⟩:∃ m,n=m+1:=⟨n - 1,by omega⟩
 exact h m N (by omega) (by omega)
theorem c3_ {f:Nat->Nat->Option α}{v:α}(h:Ev f v):Ev (fun n _=>f n n) v:=by obtain ⟨M,h⟩:=h;exact ⟨M,fun n N k m=>h n n k k⟩
theorem aY_ {f:Nat->Nat->Option α}{v:α} (h:Ev (fun n N=>f n (N+1)) v):Ev f v:=by
 obtain ⟨M,h⟩:=h;refine ⟨M+1,fun n N p k => ?_⟩;obtain ⟨m,rfl⟩:∃ m,N=m+1:=⟨N - 1,by omega⟩
 exact h n m (by omega) (by omega)
theorem ev_ex {f:Nat->Option α}{v:α} (h:Ev (fun n _=>f n) v):∃ n,f n=some v:=by obtain ⟨M,h⟩:=h;exact ⟨M,h M M (Nat.le_refl _) (Nat.le_refl _)⟩
end
abbrev b9_:Nat:=9223372036854775807
theorem W_id {n:Int}(h : -9223372036854775808<=n)(h':n<9223372036854775808):W n=n:=by show IntKind.i64.wrap n=n;rw [IntKind.wrap_i64];omega
theorem W_up {i:Nat}{len:Nat}(h:i<len)(hl:len<=b9_):W ((i:Int)+1)=((i+1:Nat):Int):=by rw [W_id (by omega) (by simp only [b9_] at hl;omega)];omega
theorem dA_ {α:Type}(d:α){a:List α}{i:Nat}(h:i<a.length):a.drop i=a.getD i d::a.drop (i+1):=by rw [List.drop_eq_getElem_cons h,List.getD_eq_getElem?_getD,List.getElem?_eq_getElem h];rfl
theorem th_ {α:Type}{a:List α}{i:Nat}(h:a.length<=i):a.drop i=[]:=List.drop_eq_nil_of_le h
theorem bB_ {α:Type}(d:α){a:List α}{i:Nat}(h:i<a.length):a.getD i d ∈ a:=by rw [List.getD_eq_getElem?_getD,List.getElem?_eq_getElem h];exact List.getElem_mem h
end Go.Pi
