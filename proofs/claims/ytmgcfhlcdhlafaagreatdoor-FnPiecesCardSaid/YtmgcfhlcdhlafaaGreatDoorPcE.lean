/- FnPieces: in whatever drawn pieces a line comes, and nothing behind them, the same events are told, and the same waits. No condition. Text 5 of 7. -/
import Derived.Test.YtmgcfhlcdhlafaaGreatDoorPcD
import Derived.Shelf.RegionOpenPlain
import Derived.WalkKit
import Derived.Deep.RegionLaw
import Derived.Lib.Walk
import Derived.Lib.SliceRun
import Derived.Laws.CopyRow
import Derived.RowKit
import Derived.Lib.Overlaps
import Derived.Lib.AppendZerosOnto
import Derived.Laws.NewBlocks
import Derived.Laws.Externs
import Derived.Shelf.Strings.Search3
import Derived.Shelf.Strconv.AtoiAll
import Derived.Shelf.Strings.Search2
import Derived.Shelf.Strings.OnBuilder
import Derived.Shelf.Strings.Replace
import Derived.Shelf.Strings.Split
import Derived.ChangeArms
import Derived.DataReads
import Derived.ChangeOld
import Derived.Test.YtmgcfhlcdhlafaaGreatDoorRows
import Derived.ProofKit
import Derived.OpenShut
import Derived.JoinedOf
import Derived.JoinedAt
import Derived.ChangeVars
import Derived.ChangeMaps5
import Derived.Test.YtmgcfhlcdhlafaaGreatDoorTie
import Derived.Test.YtmgcfhlcdhlafaaGreatDoorCards
import Derived.IntWalk
import Derived.Lib.ItoaLen
import Derived.Lib.AtoiAllCases
set_option linter.unusedVariables false
set_option maxRecDepth 100000
set_option linter.unusedSimpArgs false
section
namespace Go.Pi
def aC_.p (m:M):List Pat:=[.s,.b]
abbrev aC_.c:Type:=Bs × Bool × Unit
def aC_.of:aC_.c→aC_:=fun (x0,x1,_)=>⟨x0,x1⟩
def aC_.to (s:aC_):aC_.c:=(s.wait,s.bad,())
def af_.p (m:M):List Pat:=[.sl m .u8,.i .i64,.i .i64]
abbrev af_.c:Type:=(List Int) × Int × Int × Unit
def af_.of:af_.c→af_:=fun (x0,x1,x2,_)=>⟨x0,x1,x2⟩
def af_.to (s:af_):af_.c:=(s.b,s.i,s.h,())
def aa_.p (m:M):List Pat:=[.i .i64,.i .i64,.s,.sl m .iJson,.sl m .str]
abbrev aa_.c:Type:=Int × Int × Bs × (List aa_) × (List Bs) × Unit
def aa_.of:aa_.c→aa_:=fun (x0,x1,x2,x3,x4,_)=>⟨x0,x1,x2,x3,x4⟩
def aa_.to (s:aa_):aa_.c:=(s.kind,s.n_,s.s,s.list,s.names,())
def TOp.p (m:M):List Pat:=[.i .i64,.sl m .str,.i .i64,.i .i64,.s,.sl m .iJson,.sl m .str]
abbrev TOp.c:Type:=Int × (List Bs) × Int × Int × Bs × (List aa_) × (List Bs) × Unit
def TOp.of:TOp.c→TOp:=fun (x0,x1,x2,x3,x4,x5,x6,_)=>⟨x0,x1,⟨x2,x3,x4,x5,x6⟩⟩
def TOp.to (s:TOp):TOp.c:=(s.kind,s.way,s.value.kind,s.value.n_,s.value.s,s.value.list,s.value.names,())
def aD_.p (m:M):List Pat:=[.i .i64,.i .i64,.i .i64,.i .i64,.i .i64,.s,.sl m .iJson,.sl m .str,.sl m .iOp]
abbrev aD_.c:Type:=Int × Int × Int × Int × Int × Bs × (List aa_) × (List Bs) × (List TOp) × Unit
def aD_.of:aD_.c→aD_:=fun (x0,x1,x2,x3,x4,x5,x6,x7,x8,_)=>⟨x0,x1,x2,⟨x3,x4,x5,x6,x7⟩,x8⟩
def aD_.to (s:aD_):aD_.c:=(s.kind,s.version,s.base,s.doc.kind,s.doc.n_,s.doc.s,s.doc.list,s.doc.names,s.ops,())
abbrev bi_.c:Type:=(List Int) × Unit
def bi_.of:bi_.c→bi_:=fun (x0,_)=>⟨x0⟩
def bi_.to (s:bi_):bi_.c:=(s.cols,())
def TRow.p (m:M):List Pat:=[.i .i64,.sl m .int]
abbrev TRow.c:Type:=Int × (List Int) × Unit
def TRow.of:TRow.c→TRow:=fun (x0,x1,_)=>⟨x0,x1⟩
def TRow.to (s:TRow):TRow.c:=(s.id_,s.cells,())
def aw_.p (m:M):List Pat:=[.sl m .int,.i .i64,.sl m .s_iRow]
abbrev aw_.c:Type:=(List Int) × Int × (List (List TRow)) × Unit
def aw_.of:aw_.c→aw_:=fun (x0,x1,x2,_)=>⟨⟨x0⟩,x1,x2⟩
def aw_.to (s:aw_):aw_.c:=(s.schema.cols,s.version,s.tables,())
def cj_.p (m:M):List Pat:=[.i .i64,.i .i64,.i .i64]
abbrev cj_.c:Type:=Int × Int × Int × Unit
def cj_.of:cj_.c→cj_:=fun (x0,x1,x2,_)=>⟨x0,x1,x2⟩
def ax_.p (m:M):List Pat:=[.i .i64,.sl m .iCond,.i .i64,.b,.i .i64,.sl m .int,.b,.i .i64,.i .i64]
abbrev ax_.c:Type:=Int × (List cj_) × Int × Bool × Int × (List Int) × Bool × Int × Int × Unit
def ax_.of:ax_.c→ax_:=fun (x0,x1,x2,x3,x4,x5,x6,x7,x8,_)=>⟨x0,x1,x2,x3,x4,x5,x6,x7,x8⟩
def ax_.to (s:ax_):ax_.c:=(s.table,s.where_,s.order,s.down,s.first,s.show_,s.kids,s.kidTable,s.kidCol,())
def TKid.p (m:M):List Pat:=[.i .i64,.i .i64]
def bF_.p (m:M):List Pat:=[.i .i64,.sl m .iCond,.i .i64,.b,.i .i64,.sl m .int,.b,.i .i64,.i .i64,.sl m .iRow,.sl m .iKid]
abbrev bF_.c:Type:=Int × (List cj_) × Int × Bool × Int × (List Int) × Bool × Int × Int × (List TRow) × (List TKid) × Unit
def bF_.of:bF_.c→bF_:=fun (x0,x1,x2,x3,x4,x5,x6,x7,x8,x9,x10,_)=>⟨⟨x0,x1,x2,x3,x4,x5,x6,x7,x8⟩,x9,x10⟩
def bF_.to (s:bF_):bF_.c:=(s.q.table,s.q.where_,s.q.order,s.q.down,s.q.first,s.q.show_,s.q.kids,s.q.kidTable,s.q.kidCol,s.rows,s.kids,())
def cB_.p (m:M):List Pat:=[.i .i64,.sl m .iCond,.i .i64,.b,.i .i64,.sl m .int,.b,.i .i64,.i .i64,.sl m .iRow,.sl m .iKid,.i .i64,.i .i64,.sl m .iCond,.i .i64,.b,.i .i64,.sl m .int,.b,.i .i64,.i .i64,.sl m .iRow,.sl m .iKid,.i .i64,.b]
abbrev cB_.c:Type:=Int × (List cj_) × Int × Bool × Int × (List Int) × Bool × Int × Int × (List TRow) × (List TKid) × Int × Int × (List cj_) × Int × Bool × Int × (List Int) × Bool × Int × Int × (List TRow) × (List TKid) × Int × Bool × Unit
def cB_.of:cB_.c→cB_:=fun (x0,x1,x2,x3,x4,x5,x6,x7,x8,x9,x10,x11,x12,x13,x14,x15,x16,x17,x18,x19,x20,x21,x22,x23,x24,_)=>⟨⟨⟨x0,x1,x2,x3,x4,x5,x6,x7,x8⟩,x9,x10⟩,x11,⟨⟨x12,x13,x14,x15,x16,x17,x18,x19,x20⟩,x21,x22⟩,x23,x24⟩
def cB_.to (s:cB_):cB_.c:=(s.view.q.table,s.view.q.where_,s.view.q.order,s.view.q.down,s.view.q.first,s.view.q.show_,s.view.q.kids,s.view.q.kidTable,s.view.q.kidCol,s.view.rows,s.view.kids,s.version,s.last.q.table,s.last.q.where_,s.last.q.order,s.last.q.down,s.last.q.first,s.last.q.show_,s.last.q.kids,s.last.q.kidTable,s.last.q.kidCol,s.last.rows,s.last.kids,s.lastVersion,s.began,())
def TMut.p (m:M):List Pat:=[.i .i64,.i .i64,.i .i64,.sl m .int]
abbrev TMut.c:Type:=Int × Int × Int × (List Int) × Unit
def TMut.of:TMut.c→TMut:=fun (x0,x1,x2,x3,_)=>⟨x0,x1,⟨x2,x3⟩⟩
def TMut.to (s:TMut):TMut.c:=(s.kind,s.table,s.row.id_,s.row.cells,())
def a0_.p (m:M):List Pat:=[.i .i64,.b,.b,.i .i64,.sl m .int,.i .i64,.sl m .int]
abbrev a0_.c:Type:=Int × Bool × Bool × Int × (List Int) × Int × (List Int) × Unit
def a0_.of:a0_.c→a0_:=fun (x0,x1,x2,x3,x4,x5,x6,_)=>⟨x0,x1,x2,⟨x3,x4⟩,⟨x5,x6⟩⟩
def a0_.to (s:a0_):a0_.c:=(s.table,s.had,s.has,s.old.id_,s.old.cells,s.new.id_,s.new.cells,())
abbrev aX_.c:Type:=Bs × Bool × Unit
def aX_.of:aX_.c→aX_:=fun (x0,x1,_)=>⟨x0,x1⟩
def aX_.to (s:aX_):aX_.c:=(s.text,s.bad,())
def a8_.p (m:M):List Pat:=[.s,.i .i64,.b,.i .i64]
abbrev a8_.c:Type:=Bs × Int × Bool × Int × Unit
def a8_.of:a8_.c→a8_:=fun (x0,x1,x2,x3,_)=>⟨x0,x1,x2,x3⟩
def a8_.to (s:a8_):a8_.c:=(s.s,s.at_,s.ok,s.left,())
def rd0:RD:=⟨Bool,[.b],fun (a0,_)=>a0,fun r=>(r,())⟩
def gc_.e:FE:=mkE rd0 8 6 1 [.sl .v .u8] [.tmp 2] [] [] [] (un1 gc_)
def od0:OD:=⟨[(0,.view .u8),(3,.k),(4,.k)],(af_.p .v),[.ext]⟩
def od1:OD:=⟨[(0,.view .u8),(3,.k)],[.sl .v .u8,.i .i64],[.ext]⟩
def rd1:RD:=⟨af_,[.bx (af_.p .v)],fun (a0,_)=>(af_.of a0),fun r=>(af_.to r,())⟩
def cf_.e:FE:=mkE rd1 37 32 1 [.sl .v .u8] [.tmp 2] [] [(4,od0)] [(0,od1)] (un1 cf_)
def rd2:RD:=⟨Int × af_,[.i .i64,.bx (af_.p .v)],fun (a0,a1,_)=>(a0,(af_.of a1)),fun (a0,a1)=>(a0,af_.to a1,())⟩
def do_.e:FE:=mkE rd2 84 58 2 [.bx (af_.p .v)] [.tmp 2] [.pb 1 0] [] [] fun n (a0,_)=>do_ n (af_.of a0)
def an_.e:FE:=mkE rd2 39 37 2 [.bx (af_.p .v),.i .i64] [.tmp 4] [.pb 1 0] [] [] fun n (a0,a1,_)=>an_ n (af_.of a0) a1
def rd3:RD:=⟨Bool × af_,[.b,.bx (af_.p .v)],fun (a0,a1,_)=>(a0,(af_.of a1)),fun (a0,a1)=>(a0,af_.to a1,())⟩
def cA_.e:FE:=mkE rd3 71 9 2 [.bx (af_.p .v),.i .i64] [.tmp 4] [.pb 1 0] [] [] fun n (a0,a1,_)=>cA_ n (af_.of a0) a1
def rd4:RD:=⟨Bs × af_,[.s,.bx (af_.p .v)],fun (a0,a1,_)=>(a0,(af_.of a1)),fun (a0,a1)=>(a0,af_.to a1,())⟩
def dF_.e:FE:=mkE rd4 60 12 2 [.bx (af_.p .v),.sl .v .str] [.tmp 4] [.pb 1 0] [] [] fun n (a0,a1,_)=>dF_ n (af_.of a0) a1
def bH_.e:FE:=mkE rd2 81 12 2 [.bx (af_.p .v),.sl .v .int] [.tmp 4] [.pb 1 0] [] [] fun n (a0,a1,_)=>bH_ n (af_.of a0) a1
def dc_.e:FE:=mkE rd4 85 6 2 [.bx (af_.p .v)] [.tmp 2] [.pb 1 0] [] [] fun n (a0,_)=>dc_ n (af_.of a0)
def od2:OD:=⟨[(1,.k),(2,.box [.k,.k,.k,.view .iJson,.view .str]),(5,.k)],[.s,.pb 1 0,.i .i64],[.ext,.box (aa_.p .v)]⟩
def od3:OD:=⟨[],[],[.ext]⟩
def rd5:RD:=⟨Int,[.i .i64],fun (a0,_)=>a0,fun r=>(r,())⟩
def cF_.e:FE:=mkE rd5 86 21 1 [.ag (aa_.p .v),.s] [.tmp 4] [] [(3,od2)] [(0,od3)] fun n (a0,a1,_)=>cF_ n (aa_.of a0) a1
def od4:OD:=⟨[(1,.k),(3,.box [.k,.k,.k,.view .iJson,.view .str]),(5,.box [.k,.k,.k,.view .iJson,.view .str]),(6,.box [.k,.k,.k,.k,.k]),(7,.box [.k,.k,.k,.own .s .iJson,.own .d .str]),(8,.k),(9,.k)],[.s,.pb 1 0,.pb 2 0,.pb 3 0,.pb 4 0,.b,.i .i64],[.ext,.box (aa_.p .v),.box (aa_.p .v),.box [.i .i64,.i .i64,.s,.nils,.nils],.box [.i .i64,.i .i64,.s,.rt 5,.rt 6],.arr .s .iJson 2,.arr .d .str 2]⟩
def od5:OD:=⟨[(1,.k),(5,.box [.k,.k,.k,.view .iJson,.view .str]),(6,.box [.k,.k,.k,.k,.k]),(7,.box [.k,.k,.k,.own .s .iJson,.own .d .str]),(8,.k)],[.s,.pb 1 0,.pb 2 0,.pb 3 0,.b],[.ext,.box (aa_.p .v),.box [.i .i64,.i .i64,.s,.nils,.nils],.box [.i .i64,.i .i64,.s,.rt 4,.rt 5],.arr .s .iJson 2,.arr .d .str 2]⟩
def rd6:RD:=⟨aa_,[.ag [.i .i64,.i .i64,.s,.sl .s .iJson,.sl .d .str]],fun (a0,_)=>(aa_.of a0),fun r=>(aa_.to r,())⟩
def bO_.e:FE:=mkE rd6 87 83 1 [.ag (aa_.p .v),.s,.ag (aa_.p .v)] [.cell 6 29] [] [(5,od4)] [(0,od5)] fun n (a0,a1,a2,_)=>bO_ n (aa_.of a0) a1 (aa_.of a2)
def od6:OD:=⟨[(0,.box [.view .u8,.k,.k]),(1,.k),(4,.box [.k,.k,.k,.k,.k]),(6,.box [.k,.k,.k,.own .s .iJson,.k]),(7,.k)],[.pb 1 0,.i .i64,.pb 2 0,.pb 3 0,.i .i64],[.ext,.box (af_.p .v),.box [.i .i64,.i .i64,.s,.nils,.nils],.box [.i .i64,.i .i64,.s,.rt 4,.nils],.arr .s .iJson 2]⟩
def od7:OD:=⟨[(0,.box [.view .u8,.k,.k]),(1,.k),(4,.box [.k,.k,.k,.k,.k]),(8,.box [.k,.k,.k,.own .s .iJson,.own .d .str]),(9,.k)],[.pb 1 0,.i .i64,.pb 2 0,.pb 3 0,.i .i64],[.ext,.box (af_.p .v),.box [.i .i64,.i .i64,.s,.nils,.nils],.box [.i .i64,.i .i64,.s,.rt 4,.rt 5],.arr .s .iJson 2,.arr .d .str 2]⟩
def od8:OD:=⟨[(4,.box [.k,.k,.k,.k,.k]),(6,.box [.k,.k,.k,.own .s .iJson,.k])],[.pb 2 0,.pb 3 0],[.ext,.box (af_.p .v),.box [.i .i64,.i .i64,.s,.nils,.nils],.box [.i .i64,.i .i64,.s,.rt 4,.nils],.arr .s .iJson 2]⟩
def od9:OD:=⟨[(4,.box [.k,.k,.k,.k,.k]),(8,.box [.k,.k,.k,.own .s .iJson,.own .d .str])],[.pb 2 0,.pb 3 0],[.ext,.box (af_.p .v),.box [.i .i64,.i .i64,.s,.nils,.nils],.box [.i .i64,.i .i64,.s,.rt 4,.rt 5],.arr .s .iJson 2,.arr .d .str 2]⟩
def rd7:RD:=⟨aa_ × af_,[.ag [.i .i64,.i .i64,.s,.sl .s .iJson,.sl .d .str],.bx (af_.p .v)],fun (a0,a1,_)=>((aa_.of a0),(af_.of a1)),fun (a0,a1)=>(aa_.to a0,af_.to a1,())⟩
def ac_.e:FE:=mkE rd7 40 80 2 [.bx (af_.p .v),.i .i64] [.cell 4 29] [.pb 1 0] [(20,od6),(28,od7)] [(1,od8),(3,od9)] fun n (a0,a1,_)=>ac_ n (af_.of a0) a1
def od10:OD:=⟨[(0,.box [.view .u8,.k,.k]),(2,.box [.k]),(3,.box [.own .d .int]),(4,.k)],[.pb 1 0,.pb 2 0,.pb 3 0,.i .i64],[.ext,.box (af_.p .v),.box [.nils],.box [.rt 4],.arr .d .int 2]⟩
def od11:OD:=⟨[(2,.box [.k]),(3,.box [.own .d .int])],[.pb 2 0,.pb 3 0],[.ext,.box (af_.p .v),.box [.nils],.box [.rt 4],.arr .d .int 2]⟩
def rd8:RD:=⟨bi_ × af_,[.ag [.sl .d .int],.bx (af_.p .v)],fun (a0,a1,_)=>((bi_.of a0),(af_.of a1)),fun (a0,a1)=>(bi_.to a0,af_.to a1,())⟩
def aL_.e:FE:=mkE rd8 115 22 2 [.bx (af_.p .v)] [.cell 2 98] [.pb 1 0] [(4,od10)] [(0,od11)] fun n (a0,_)=>aL_ n (af_.of a0)
def b8_.e:FE:=mkE rd0 91 15 1 (cj_.p .v) [.tmp 6] [] [] [] (un3 b8_)
def od12:OD:=⟨[(1,.box [.view .int]),(3,.k)],[.pb 1 0,.i .i64],[.ext,.box [.sl .v .int]]⟩
def od13:OD:=⟨[(1,.box [.view .int])],[.pb 1 0],[.ext,.box [.sl .v .int]]⟩
def a3_.e:FE:=mkE rd0 160 22 1 [.ag [.sl .v .int]] [.tmp 2] [] [(3,od12)] [(0,od13)] fun n (a0,_)=>a3_ n (bi_.of a0)
def rd9:RD:=⟨bi_,[.ag [.sl .d .int]],fun (a0,_)=>(bi_.of a0),fun r=>(bi_.to r,())⟩
def dt_.e:FE:=mkE rd9 161 8 1 [.ag [.sl .v .int]] [.cell 2 98] [] [] [] fun n (a0,_)=>dt_ n (bi_.of a0)
def rd10:RD:=⟨aw_ × Bool,[.ag (aw_.p .d),.b],fun (a0,a1,_)=>((aw_.of a0),a1),fun (a0,a1)=>(aw_.to a0,a1,())⟩
def dO_.e:FE:=mkE rd10 114 15 1 [.ag [.sl .v .int]] [.cell 2 101,.tmp 3] [] [] [] fun n (a0,_)=>dO_ n (bi_.of a0)
def od14:OD:=⟨[(0,.box [.view .u8,.k,.k]),(1,.k),(4,.box [.k,.k]),(5,.box [.k,.own .d .int]),(6,.k)],[.pb 1 0,.i .i64,.pb 2 0,.pb 3 0,.i .i64],[.ext,.box (af_.p .v),.box [.i .i64,.nils],.box [.i .i64,.rt 4],.arr .d .int 2]⟩
def od15:OD:=⟨[(4,.box [.k,.k]),(5,.box [.k,.own .d .int])],[.pb 2 0,.pb 3 0],[.ext,.box (af_.p .v),.box [.i .i64,.nils],.box [.i .i64,.rt 4],.arr .d .int 2]⟩
def rd11:RD:=⟨TRow × af_,[.ag (TRow.p .d),.bx (af_.p .v)],fun (a0,a1,_)=>((TRow.of a0),(af_.of a1)),fun (a0,a1)=>(TRow.to a0,af_.to a1,())⟩
def a6_.e:FE:=mkE rd11 163 24 2 [.bx (af_.p .v),.i .i64] [.cell 4 173] [.pb 1 0] [(4,od14)] [(0,od15)] fun n (a0,a1,_)=>a6_ n (af_.of a0) a1
def od16:OD:=⟨[(0,.view .iRow),(1,.k),(5,.k)],[.sl .v .iRow,.i .i64,.i .i64],[.ext]⟩
def ck_.e:FE:=mkE rd5 216 20 1 [.sl .v .iRow,.i .i64] [.tmp 4] [] [(3,od16)] [(0,od3)] (un2 ck_)
def rd12:RD:=⟨TRow,[.ag (TRow.p .d)],fun (a0,_)=>(TRow.of a0),fun r=>(TRow.to r,())⟩
def cz_.e:FE:=mkE rd12 217 10 1 [.ag (TRow.p .v)] [.cell 2 173] [] [] [] fun n (a0,_)=>cz_ n (TRow.of a0)
def od17:OD:=⟨[(0,.view .iRow),(5,.k),(6,.own .d .iRow),(7,.k)],[.sl .v .iRow,.i .i64,.rt 1,.i .i64],[.ext,.arr .d .iRow 2]⟩
def od18:OD:=⟨[(6,.own .d .iRow)],[.rt 1],[.ext,.arr .d .iRow 2]⟩
def rd13:RD:=⟨(List TRow),[.sl .d .iRow],fun (a0,_)=>a0,fun r=>(r,())⟩
def bl_.e:FE:=mkE rd13 215 30 1 [.sl .v .iRow,.i .i64] [.tmp 4] [] [(5,od17)] [(0,od18)] (un2 bl_)
def od19:OD:=⟨[(3,.box [.k,.view .int]),(5,.own .d .iRow),(6,.k),(7,.k)],[.pb 1 0,.rt 2,.i .i64,.i .i64],[.ext,.box (TRow.p .v),.arr .d .iRow 2]⟩
def od20:OD:=⟨[(3,.box [.k,.view .int]),(5,.own .d .iRow),(6,.k)],[.pb 1 0,.rt 2,.i .i64],[.ext,.box (TRow.p .v),.arr .d .iRow 2]⟩
def rd14:RD:=⟨(List TRow),[.sl .s .iRow],fun (a0,_)=>a0,fun r=>(r,())⟩
def bI_.e:FE:=mkE rd14 162 55 1 [.sl .v .iRow,.ag (TRow.p .v)] [.tmp 4] [] [(6,od19)] [(0,od20)] fun n (a0,a1,_)=>bI_ n a0 (TRow.of a1)
def od21:OD:=⟨[(0,.box [.view .u8,.k,.k]),(1,.k),(5,.own .s .iRow),(6,.k)],[.pb 1 0,.i .i64,.rt 2,.i .i64],[.ext,.box (af_.p .v),.arr .s .iRow 2]⟩
def od22:OD:=⟨[(5,.own .s .iRow)],[.rt 2],[.ext,.box (af_.p .v),.arr .s .iRow 2]⟩
def rd15:RD:=⟨(List TRow) × af_,[.sl .s .iRow,.bx (af_.p .v)],fun (a0,a1,_)=>(a0,(af_.of a1)),fun (a0,a1)=>(a0,af_.to a1,())⟩
def a1_.e:FE:=mkE rd15 116 20 2 [.bx (af_.p .v),.i .i64] [.tmp 4] [.pb 1 0] [(4,od21)] [(0,od22)] fun n (a0,a1,_)=>a1_ n (af_.of a0) a1
def od23:OD:=⟨[(0,.box [.view .u8,.k,.k]),(2,.box [.k,.k,.k]),(3,.box [.own .d .int,.k,.own .s .s_iRow]),(5,.k)],[.pb 1 0,.pb 2 0,.pb 3 0,.i .i64],[.ext,.box (af_.p .v),.box [.nils,.i .i64,.nils],.box [.rt 4,.i .i64,.rt 5],.arr .d .int 2,.arr .s .s_iRow 2]⟩
def od24:OD:=⟨[(0,.box [.view .u8,.k,.k]),(2,.box [.k,.k,.k]),(3,.box [.own .d .int,.k,.own .s .s_iRow])],[.pb 1 0,.pb 2 0,.pb 3 0],[.ext,.box (af_.p .v),.box [.nils,.i .i64,.nils],.box [.rt 4,.i .i64,.rt 5],.arr .d .int 2,.arr .s .s_iRow 2]⟩
def rd16:RD:=⟨aw_ × af_,[.ag [.sl .d .int,.i .i64,.sl .s .s_iRow],.bx (af_.p .v)],fun (a0,a1,_)=>((aw_.of a0),(af_.of a1)),fun (a0,a1)=>(aw_.to a0,af_.to a1,())⟩
def aP_.e:FE:=mkE rd16 74 35 2 [.bx (af_.p .v)] [.cell 2 101] [.pb 1 0] [(4,od23)] [(0,od24)] fun n (a0,_)=>aP_ n (af_.of a0)
def cL_.e:FE:=mkE rd5 69 10 1 (TKid.p .v) [.tmp 4] [] [] [] (un2 cL_)
def od25:OD:=⟨[(0,.box [.view .u8,.k,.k]),(3,.box [.view .int]),(4,.box [.k,.k,.k,.k,.k,.k,.k,.k,.k]),(5,.box [.k,.own .d .iCond,.k,.k,.k,.k,.k,.k,.k]),(6,.k),(7,.k)],[.pb 1 0,.pb 2 0,.pb 3 0,.pb 4 0,.i .i64,.i .i64],[.ext,.box (af_.p .v),.box [.sl .v .int],.box [.i .i64,.nils,.i .i64,.b,.i .i64,.nils,.b,.i .i64,.i .i64],.box [.i .i64,.rt 5,.i .i64,.b,.i .i64,.nils,.b,.i .i64,.i .i64],.arr .d .iCond 2]⟩
def od26:OD:=⟨[(0,.box [.view .u8,.k,.k]),(3,.box [.view .int]),(4,.box [.k,.k,.k,.k,.k,.k,.k,.k,.k]),(5,.box [.k,.own .d .iCond,.k,.k,.k,.own .d .int,.k,.k,.k]),(6,.k),(8,.k)],[.pb 1 0,.pb 2 0,.pb 3 0,.pb 4 0,.i .i64,.i .i64],[.ext,.box (af_.p .v),.box [.sl .v .int],.box [.i .i64,.nils,.i .i64,.b,.i .i64,.nils,.b,.i .i64,.i .i64],.box [.i .i64,.rt 5,.i .i64,.b,.i .i64,.rt 6,.b,.i .i64,.i .i64],.arr .d .iCond 2,.arr .d .int 2]⟩
def od27:OD:=⟨[(0,.box [.view .u8,.k,.k]),(3,.box [.view .int]),(4,.box [.k,.k,.k,.k,.k,.k,.k,.k,.k]),(5,.box [.k,.own .d .iCond,.k,.k,.k,.k,.k,.k,.k]),(6,.k)],[.pb 1 0,.pb 2 0,.pb 3 0,.pb 4 0,.i .i64],[.ext,.box (af_.p .v),.box [.sl .v .int],.box [.i .i64,.nils,.i .i64,.b,.i .i64,.nils,.b,.i .i64,.i .i64],.box [.i .i64,.rt 5,.i .i64,.b,.i .i64,.nils,.b,.i .i64,.i .i64],.arr .d .iCond 2]⟩
def od28:OD:=⟨[(0,.box [.view .u8,.k,.k]),(3,.box [.view .int]),(4,.box [.k,.k,.k,.k,.k,.k,.k,.k,.k]),(5,.box [.k,.own .d .iCond,.k,.k,.k,.own .d .int,.k,.k,.k])],[.pb 1 0,.pb 2 0,.pb 3 0,.pb 4 0],[.ext,.box (af_.p .v),.box [.sl .v .int],.box [.i .i64,.nils,.i .i64,.b,.i .i64,.nils,.b,.i .i64,.i .i64],.box [.i .i64,.rt 5,.i .i64,.b,.i .i64,.rt 6,.b,.i .i64,.i .i64],.arr .d .iCond 2,.arr .d .int 2]⟩
def rd17:RD:=⟨ax_ × af_,[.ag (ax_.p .d),.bx (af_.p .v)],fun (a0,a1,_)=>((ax_.of a0),(af_.of a1)),fun (a0,a1)=>(ax_.to a0,af_.to a1,())⟩
def ai_.e:FE:=mkE rd17 76 106 2 [.bx (af_.p .v),.ag [.sl .v .int]] [.cell 4 105] [.pb 1 0] [(7,od25),(16,od26)] [(0,od27),(2,od28)] fun n (a0,a1,_)=>ai_ n (af_.of a0) (bi_.of a1)
def od29:OD:=⟨[(5,.box [.k,.view .int]),(7,.k)],[.pb 1 0,.i .i64],[.ext,.box (TRow.p .v)]⟩
def cn_.e:FE:=mkE rd0 230 51 1 [.ag [.sl .v .int],.i .i64,.ag (TRow.p .v)] [.tmp 6] [] [(6,od29)] [(0,od3)] fun n (a0,a1,a2,_)=>cn_ n (bi_.of a0) a1 (TRow.of a2)
def od30:OD:=⟨[(1,.k),(2,.view .iRow),(3,.box [.view .int]),(7,.k)],[.i .i64,.sl .v .iRow,.pb 1 0,.i .i64],[.ext,.box [.sl .v .int]]⟩
def od31:OD:=⟨[(1,.k),(2,.view .iRow),(3,.box [.view .int])],[.i .i64,.sl .v .iRow,.pb 1 0],[.ext,.box [.sl .v .int]]⟩
def b5_.e:FE:=mkE rd0 177 55 1 [.ag [.sl .v .int],.i .i64,.sl .v .iRow] [.tmp 6] [] [(3,od30)] [(0,od31)] fun n (a0,a1,a2,_)=>b5_ n (bi_.of a0) a1 a2
def od32:OD:=⟨[(1,.box [.view .int,.k,.view .s_iRow]),(3,.k)],[.pb 1 0,.i .i64],[.ext,.box (aw_.p .v)]⟩
def bC_.e:FE:=mkE rd0 124 41 1 [.ag (aw_.p .v)] [.tmp 2] [] [(6,od32)] [(0,od3)] fun n (a0,_)=>bC_ n (aw_.of a0)
def od33:OD:=⟨[(2,.box [.view .int]),(3,.box [.k,.view .iCond,.k,.k,.k,.view .int,.k,.k,.k]),(5,.k),(6,.k)],[.pb 1 0,.pb 2 0,.i .i64,.i .i64],[.ext,.box [.sl .v .int],.box (ax_.p .v)]⟩
def od34:OD:=⟨[(2,.box [.view .int]),(3,.box [.k,.view .iCond,.k,.k,.k,.view .int,.k,.k,.k]),(5,.k),(8,.k)],[.pb 1 0,.pb 2 0,.i .i64,.i .i64],[.ext,.box [.sl .v .int],.box (ax_.p .v)]⟩
def od35:OD:=⟨[(2,.box [.view .int]),(3,.box [.k,.view .iCond,.k,.k,.k,.view .int,.k,.k,.k]),(5,.k)],[.pb 1 0,.pb 2 0,.i .i64],[.ext,.box [.sl .v .int],.box (ax_.p .v)]⟩
def aA_.e:FE:=mkE rd0 164 148 1 [.ag [.sl .v .int],.ag (ax_.p .v)] [.tmp 4] [] [(7,od33),(16,od34)] [(0,od35),(2,od35)] fun n (a0,a1,_)=>aA_ n (bi_.of a0) (ax_.of a1)
def rd18:RD:=⟨ax_,[.ag (ax_.p .d)],fun (a0,_)=>(ax_.of a0),fun r=>(ax_.to r,())⟩
def ee_.e:FE:=mkE rd18 165 14 1 [.ag (ax_.p .v)] [.cell 2 105] [] [] [] fun n (a0,_)=>ee_ n (ax_.of a0)
def dQ_.e:FE:=mkE rd0 255 46 1 [.ag (cj_.p .v),.ag (TRow.p .v)] [.tmp 4] [] [] [] fun n (a0,a1,_)=>dQ_ n (cj_.of a0) (TRow.of a1)
def od36:OD:=⟨[(2,.box [.k,.view .iCond,.k,.k,.k,.view .int,.k,.k,.k]),(3,.box [.k,.view .int]),(5,.k)],[.pb 1 0,.pb 2 0,.i .i64],[.ext,.box (ax_.p .v),.box (TRow.p .v)]⟩
def bT_.e:FE:=mkE rd0 218 21 1 [.ag (ax_.p .v),.ag (TRow.p .v)] [.tmp 4] [] [(3,od36)] [(0,od3)] fun n (a0,a1,_)=>bT_ n (ax_.of a0) (TRow.of a1)
def bW_.e:FE:=mkE rd5 231 17 1 [.ag (TRow.p .v),.i .i64] [.tmp 4] [] [] [] fun n (a0,a1,_)=>bW_ n (TRow.of a0) a1
def eB_.e:FE:=mkE rd0 256 36 1 [.ag (ax_.p .v),.ag (TRow.p .v),.ag (TRow.p .v)] [.tmp 6] [] [] [] fun n (a0,a1,a2,_)=>eB_ n (ax_.of a0) (TRow.of a1) (TRow.of a2)
def od37:OD:=⟨[(1,.view .iRow),(3,.box [.k,.view .iCond,.k,.k,.k,.view .int,.k,.k,.k]),(5,.box [.k,.view .int]),(7,.own .s .iRow),(8,.k),(9,.k)],[.sl .v .iRow,.pb 1 0,.pb 2 0,.rt 3,.b,.i .i64],[.ext,.box (ax_.p .v),.box (TRow.p .v),.arr .s .iRow 2]⟩
def od38:OD:=⟨[(5,.box [.k,.view .int]),(7,.own .s .iRow),(8,.k)],[.pb 1 0,.rt 2,.b],[.ext,.box (TRow.p .v),.arr .s .iRow 2]⟩
def bX_.e:FE:=mkE rd14 219 48 1 [.ag (ax_.p .v),.sl .v .iRow,.ag (TRow.p .v)] [.tmp 6] [] [(5,od37)] [(0,od38)] fun n (a0,a1,a2,_)=>bX_ n (ax_.of a0) a1 (TRow.of a2)
def od39:OD:=⟨[(3,.box [.k,.view .iCond,.k,.k,.k,.view .int,.k,.k,.k]),(5,.own .s .iRow),(6,.view .iRow),(7,.k)],[.pb 1 0,.rt 2,.sl .v .iRow,.i .i64],[.ext,.box (ax_.p .v),.arr .s .iRow 2]⟩
def od40:OD:=⟨[(5,.own .s .iRow)],[.rt 1],[.ext,.arr .s .iRow 2]⟩
def bM_.e:FE:=mkE rd14 166 46 1 [.ag (aw_.p .v),.ag (ax_.p .v)] [.tmp 4] [] [(8,od39)] [(0,od40)] fun n (a0,a1,_)=>bM_ n (aw_.of a0) (ax_.of a1)
def od41:OD:=⟨[(0,.view .iKid),(1,.k),(2,.k),(7,.own .d .iKid),(8,.k),(9,.k)],[.sl .v .iKid,.i .i64,.i .i64,.rt 1,.b,.i .i64],[.ext,.arr .d .iKid 2]⟩
def od42:OD:=⟨[(1,.k),(2,.k),(7,.own .d .iKid),(8,.k)],[.i .i64,.i .i64,.rt 1,.b],[.ext,.arr .d .iKid 2]⟩
def rd19:RD:=⟨(List TKid),[.sl .d .iKid],fun (a0,_)=>a0,fun r=>(r,())⟩
def aQ_.e:FE:=mkE rd19 167 69 1 [.sl .v .iKid,.i .i64,.i .i64] [.tmp 6] [] [(5,od41)] [(0,od42)] (un3 aQ_)
def od43:OD:=⟨[(3,.box [.k,.view .iCond,.k,.k,.k,.view .int,.k,.k,.k]),(4,.box [.k,.k,.k,.k,.k,.k,.k,.k,.k,.k,.k]),(6,.box [.k,.own .d .iCond,.k,.k,.k,.own .d .int,.k,.k,.k,.own .s .iRow,.own .d .iKid]),(7,.view .iRow),(8,.k)],[.pb 1 0,.pb 2 0,.pb 3 0,.sl .v .iRow,.i .i64],[.ext,.box (ax_.p .v),.box [.i .i64,.nils,.i .i64,.b,.i .i64,.nils,.b,.i .i64,.i .i64,.nils,.nils],.box [.i .i64,.rt 4,.i .i64,.b,.i .i64,.rt 5,.b,.i .i64,.i .i64,.rt 6,.rt 7],.arr .d .iCond 2,.arr .d .int 2,.arr .s .iRow 2,.arr .d .iKid 2]⟩
def od44:OD:=⟨[(4,.box [.k,.k,.k,.k,.k,.k,.k,.k,.k,.k,.k]),(6,.box [.k,.own .d .iCond,.k,.k,.k,.own .d .int,.k,.k,.k,.own .s .iRow,.own .d .iKid])],[.pb 1 0,.pb 2 0],[.ext,.box [.i .i64,.nils,.i .i64,.b,.i .i64,.nils,.b,.i .i64,.i .i64,.nils,.nils],.box [.i .i64,.rt 3,.i .i64,.b,.i .i64,.rt 4,.b,.i .i64,.i .i64,.rt 5,.rt 6],.arr .d .iCond 2,.arr .d .int 2,.arr .s .iRow 2,.arr .d .iKid 2]⟩
def rd20:RD:=⟨bF_ × Bool,[.ag [.i .i64,.sl .d .iCond,.i .i64,.b,.i .i64,.sl .d .int,.b,.i .i64,.i .i64,.sl .s .iRow,.sl .d .iKid],.b],fun (a0,a1,_)=>((bF_.of a0),a1),fun (a0,a1)=>(bF_.to a0,a1,())⟩
def b4_.e:FE:=mkE rd20 117 56 1 [.ag (aw_.p .v),.ag (ax_.p .v)] [.cell 4 109,.tmp 5] [] [(8,od43)] [(0,od44)] fun n (a0,a1,_)=>b4_ n (aw_.of a0) (ax_.of a1)
def rd21:RD:=⟨cB_ × Bool,[.ag [.i .i64,.sl .d .iCond,.i .i64,.b,.i .i64,.sl .d .int,.b,.i .i64,.i .i64,.sl .s .iRow,.sl .d .iKid,.i .i64,.i .i64,.sl .d .iCond,.i .i64,.b,.i .i64,.sl .d .int,.b,.i .i64,.i .i64,.sl .d .iRow,.sl .d .iKid,.i .i64,.b],.b],fun (a0,a1,_)=>((cB_.of a0),a1),fun (a0,a1)=>(cB_.to a0,a1,())⟩
def d9_.e:FE:=mkE rd21 75 21 1 [.ag (aw_.p .v),.ag (ax_.p .v)] [.cell 4 111,.tmp 5] [] [] [] fun n (a0,a1,_)=>d9_ n (aw_.of a0) (ax_.of a1)
def od45:OD:=⟨[(0,.view .iRow),(3,.own .d .iRow),(4,.k)],[.sl .v .iRow,.rt 1,.i .i64],[.ext,.arr .d .iRow 2]⟩
def od46:OD:=⟨[(3,.own .d .iRow)],[.rt 1],[.ext,.arr .d .iRow 2]⟩
def bZ_.e:FE:=mkE rd13 176 21 1 [.sl .v .iRow] [.tmp 2] [] [(4,od45)] [(0,od46)] (un1 bZ_)
def rd22:RD:=⟨bF_,[.ag (bF_.p .d)],fun (a0,_)=>(bF_.of a0),fun r=>(bF_.to r,())⟩
def cX_.e:FE:=mkE rd22 123 14 1 [.ag (bF_.p .v)] [.cell 2 109] [] [] [] fun n (a0,_)=>cX_ n (bF_.of a0)
def rd23:RD:=⟨cB_,[.ag (cB_.p .d)],fun (a0,_)=>(cB_.of a0),fun r=>(cB_.to r,())⟩
def dR_.e:FE:=mkE rd23 118 16 1 [.ag (cB_.p .v)] [.cell 2 111] [] [] [] fun n (a0,_)=>dR_ n (cB_.of a0)
def od47:OD:=⟨[(1,.k),(2,.box [.k,.view .iCond,.k,.k,.k,.view .int,.k,.k,.k,.view .iRow,.view .iKid]),(5,.k)],[.i .i64,.pb 1 0,.i .i64],[.ext,.box (bF_.p .v)]⟩
def b9_.e:FE:=mkE rd5 224 27 1 [.ag (bF_.p .v),.i .i64] [.tmp 4] [] [(3,od47)] [(0,od3)] fun n (a0,a1,_)=>b9_ n (bF_.of a0) a1
def od48:OD:=⟨[(1,.box [.k,.view .iCond,.k,.k,.k,.view .int,.k,.k,.k,.view .iRow,.view .iKid]),(3,.own .d .int),(4,.k)],[.pb 1 0,.rt 2,.i .i64],[.ext,.box (bF_.p .v),.arr .d .int 2]⟩
def od49:OD:=⟨[(3,.own .d .int)],[.rt 1],[.ext,.arr .d .int 2]⟩
def rd24:RD:=⟨(List Int),[.sl .d .int],fun (a0,_)=>a0,fun r=>(r,())⟩
def bd_.e:FE:=mkE rd24 169 25 1 [.ag (bF_.p .v)] [.tmp 2] [] [(4,od48)] [(0,od49)] fun n (a0,_)=>bd_ n (bF_.of a0)
def eQ_.e:FE:=mkE rd5 68 10 1 (TKid.p .v) [.tmp 4] [] [] [] (un2 eQ_)
def dw_.e:FE:=mkE rd5 220 14 1 [.ag (ax_.p .v),.i .i64] [.tmp 4] [] [] [] fun n (a0,a1,_)=>dw_ n (ax_.of a0) a1
def od50:OD:=⟨[(0,.k),(3,.k),(4,.k)],[.i .i64,.b,.s],[.ext]⟩
def od51:OD:=⟨[(3,.k),(4,.k)],[.b,.s],[.ext]⟩
def pe_:RD:=⟨Bs,[.s],fun (a0,_)=>a0,fun r=>(r,())⟩
def aV_.e:FE:=mkE pe_ 51 31 1 [.i .i64] [.tmp 2] [] [(7,od50)] [(0,od51)] (un1 aV_)
def rd26:RD:=⟨aa_,[.ag (aa_.p .d)],fun (a0,_)=>(aa_.of a0),fun r=>(aa_.to r,())⟩
def c6_.e:FE:=mkE rd26 223 5 1 [.i .i64] [.cell 2 29] [] [] [] (un1 c6_)
def od52:OD:=⟨[(2,.k),(3,.box [.k,.view .iCond,.k,.k,.k,.view .int,.k,.k,.k]),(4,.box [.k,.view .int]),(6,.box [.k,.k,.k,.k,.k]),(7,.box [.k,.k,.k,.own .s .iJson,.own .d .str]),(8,.k)],[.i .i64,.pb 1 0,.pb 2 0,.pb 3 0,.pb 4 0,.i .i64],[.ext,.box (ax_.p .v),.box (TRow.p .v),.box [.i .i64,.i .i64,.s,.nils,.nils],.box [.i .i64,.i .i64,.s,.rt 5,.rt 6],.arr .s .iJson 2,.arr .d .str 2]⟩
def od53:OD:=⟨[(2,.k),(3,.box [.k,.view .iCond,.k,.k,.k,.view .int,.k,.k,.k]),(4,.box [.k,.view .int]),(6,.box [.k,.k,.k,.k,.k]),(7,.box [.k,.k,.k,.own .s .iJson,.own .d .str])],[.i .i64,.pb 1 0,.pb 2 0,.pb 3 0,.pb 4 0],[.ext,.box (ax_.p .v),.box (TRow.p .v),.box [.i .i64,.i .i64,.s,.nils,.nils],.box [.i .i64,.i .i64,.s,.rt 5,.rt 6],.arr .s .iJson 2,.arr .d .str 2]⟩
def bR_.e:FE:=mkE rd6 221 46 1 [.ag (ax_.p .v),.ag (TRow.p .v),.i .i64] [.cell 6 29] [] [(4,od52)] [(0,od53)] fun n (a0,a1,a2,_)=>bR_ n (ax_.of a0) (TRow.of a1) a2
def od54:OD:=⟨[(0,.k),(3,.k)],[.s,.i .i64],[.ext]⟩
def od55:OD:=⟨[(0,.k)],[.s],[.ext]⟩
def b7_.e:FE:=mkE rd0 188 23 1 [.s] [.tmp 2] [] [(3,od54)] [(0,od55)] (un1 b7_)
def od56:OD:=⟨[(1,.box [.k,.k,.k,.view .iJson,.view .str]),(3,.k)],[.pb 1 0,.i .i64],[.ext,.box (aa_.p .v)]⟩
def od57:OD:=⟨[(1,.box [.k,.k,.k,.view .iJson,.view .str])],[.pb 1 0],[.ext,.box (aa_.p .v)]⟩
def ag_.e:FE:=mkE rd0 189 50 1 [.ag (aa_.p .v)] [.tmp 2] [] [(6,od56)] [(0,od57)] fun n (a0,_)=>ag_ n (aa_.of a0)
def od58:OD:=⟨[(1,.k),(2,.box [.k,.k,.k,.view .iJson,.view .str]),(5,.k),(6,.k),(7,.k)],[.i .i64,.pb 1 0,.i .i64,.i .i64,.i .i64],[.ext,.box (aa_.p .v)]⟩
def od59:OD:=⟨[(2,.box [.k,.k,.k,.view .iJson,.view .str]),(5,.k),(6,.k)],[.pb 1 0,.i .i64,.i .i64],[.ext,.box (aa_.p .v)]⟩
def aR_.e:FE:=mkE rd5 134 106 1 [.ag (aa_.p .v),.i .i64] [.tmp 4] [] [(23,od58)] [(1,od59)] fun n (a0,a1,_)=>aR_ n (aa_.of a0) a1
def cS_.e:FE:=mkE rd0 93 6 1 [.ag (aa_.p .v)] [.tmp 2] [] [] [] fun n (a0,_)=>cS_ n (aa_.of a0)
def rd27:RD:=⟨aa_,[.ag (aa_.p .v)],fun (a0,_)=>(aa_.of a0),fun r=>(aa_.to r,())⟩
def dd_.e:FE:=mkE rd27 222 8 1 [.ag (aa_.p .v)] [.cell 2 29] [] [] [] fun n (a0,_)=>dd_ n (aa_.of a0)
def od60:OD:=⟨[(1,.view .iRow),(2,.view .int),(3,.box [.k,.view .iCond,.k,.k,.k,.view .int,.k,.k,.k]),(6,.box [.k,.k,.k,.k,.k]),(7,.box [.k,.k,.k,.own .s .iJson,.k]),(8,.k)],[.sl .v .iRow,.sl .v .int,.pb 1 0,.pb 2 0,.pb 3 0,.i .i64],[.ext,.box (ax_.p .v),.box [.i .i64,.i .i64,.s,.nils,.nils],.box [.i .i64,.i .i64,.s,.rt 4,.nils],.arr .s .iJson 2]⟩
def od61:OD:=⟨[(1,.view .iRow),(6,.box [.k,.k,.k,.k,.k]),(7,.box [.k,.k,.k,.own .s .iJson,.k])],[.sl .v .iRow,.pb 1 0,.pb 2 0],[.ext,.box [.i .i64,.i .i64,.s,.nils,.nils],.box [.i .i64,.i .i64,.s,.rt 3,.nils],.arr .s .iJson 2]⟩
def cl_.e:FE:=mkE rd27 168 47 1 [.ag (ax_.p .v),.sl .v .iRow,.sl .v .int] [.cell 6 29] [] [(4,od60)] [(0,od61)] fun n (a0,a1,a2,_)=>cl_ n (ax_.of a0) a1 a2
def dk_.e:FE:=mkE rd27 120 10 1 [.ag (bF_.p .v)] [.cell 2 29] [] [] [] fun n (a0,_)=>dk_ n (bF_.of a0)
def od62:OD:=⟨[(2,.box [.k,.k,.k,.view .iJson,.view .str]),(3,.box [.k,.k,.k,.view .iJson,.view .str]),(5,.k)],[.pb 1 0,.pb 2 0,.i .i64],[.ext,.box (aa_.p .v),.box (aa_.p .v)]⟩
def od63:OD:=⟨[(2,.box [.k,.k,.k,.view .iJson,.view .str]),(3,.box [.k,.k,.k,.view .iJson,.view .str]),(6,.k)],[.pb 1 0,.pb 2 0,.i .i64],[.ext,.box (aa_.p .v),.box (aa_.p .v)]⟩
def od64:OD:=⟨[(2,.box [.k,.k,.k,.view .iJson,.view .str]),(3,.box [.k,.k,.k,.view .iJson,.view .str])],[.pb 1 0,.pb 2 0],[.ext,.box (aa_.p .v),.box (aa_.p .v)]⟩
def aq_.e:FE:=mkE rd0 92 81 1 [.ag (aa_.p .v),.ag (aa_.p .v)] [.tmp 4] [] [(6,od62),(14,od63)] [(0,od64),(2,od3)] fun n (a0,a1,_)=>aq_ n (aa_.of a0) (aa_.of a1)
def dy_.e:FE:=mkE rd0 112 16 1 [.ag (aa_.p .v),.ag (aa_.p .v)] [.tmp 4] [] [] [] fun n (a0,a1,_)=>dy_ n (aa_.of a0) (aa_.of a1)
def ea_.e:FE:=mkE rd0 119 16 1 [.ag (cB_.p .v)] [.tmp 2] [] [] [] fun n (a0,_)=>ea_ n (cB_.of a0)
def od65:OD:=⟨[(0,.view .iCond),(1,.view .iCond),(5,.k)],[.sl .v .iCond,.sl .v .iCond,.i .i64],[.ext]⟩
def od66:OD:=⟨[(0,.view .iCond),(1,.view .iCond)],[.sl .v .iCond,.sl .v .iCond],[.ext]⟩
def bL_.e:FE:=mkE rd0 225 32 1 [.sl .v .iCond,.sl .v .iCond] [.tmp 4] [] [(3,od65)] [(0,od66)] (un2 bL_)
def od67:OD:=⟨[(0,.view .int),(1,.view .int),(5,.k)],[.sl .v .int,.sl .v .int,.i .i64],[.ext]⟩
def od68:OD:=⟨[(0,.view .int),(1,.view .int)],[.sl .v .int,.sl .v .int],[.ext]⟩
def b2_.e:FE:=mkE rd0 226 32 1 [.sl .v .int,.sl .v .int] [.tmp 4] [] [(3,od67)] [(0,od68)] (un2 b2_)
def dx_.e:FE:=mkE rd0 171 66 1 [.ag (ax_.p .v),.ag (ax_.p .v)] [.tmp 4] [] [] [] fun n (a0,a1,_)=>dx_ n (ax_.of a0) (ax_.of a1)
def eR_.e:FE:=mkE rd26 172 11 1 [.i .i64] [.cell 2 29] [] [] [] (un1 eR_)
def ex_.e:FE:=mkE rd27 227 12 1 [.ag (ax_.p .v),.ag (TRow.p .v),.i .i64] [.cell 6 29] [] [] [] fun n (a0,a1,a2,_)=>ex_ n (ax_.of a0) (TRow.of a1) a2
def od69:OD:=⟨[(1,.box [.k,.view .iCond,.k,.k,.k,.view .int,.k,.k,.k,.view .iRow,.view .iKid]),(4,.own .s .iJson),(5,.own .d .int),(6,.k)],[.pb 1 0,.rt 2,.rt 3,.i .i64],[.ext,.box (bF_.p .v),.arr .s .iJson 2,.arr .d .int 2]⟩
def od70:OD:=⟨[(4,.own .s .iJson),(5,.own .d .int)],[.rt 1,.rt 2],[.ext,.arr .s .iJson 2,.arr .d .int 2]⟩
def rd28:RD:=⟨(List aa_) × (List Int),[.sl .s .iJson,.sl .d .int],fun (a0,a1,_)=>(a0,a1),fun (a0,a1)=>(a0,a1,())⟩
def bu_.e:FE:=mkE rd28 173 49 1 [.ag (bF_.p .v)] [.tmp 2,.tmp 3] [] [(5,od69)] [(0,od70)] fun n (a0,_)=>bu_ n (bF_.of a0)
def od71:OD:=⟨[(0,.view .int),(1,.k),(5,.k)],[.sl .v .int,.i .i64,.i .i64],[.ext]⟩
def cy_.e:FE:=mkE rd5 257 19 1 [.sl .v .int,.i .i64] [.tmp 4] [] [(3,od71)] [(0,od3)] (un2 cy_)
def od72:OD:=⟨[(0,.view .int),(1,.view .iJson),(5,.k)],[.sl .v .int,.sl .v .iJson,.i .i64],[.ext]⟩
def od73:OD:=⟨[(0,.view .int),(1,.view .iJson),(6,.k)],[.sl .v .int,.sl .v .iJson,.i .i64],[.ext]⟩
def od74:OD:=⟨[(0,.view .int),(1,.view .iJson)],[.sl .v .int,.sl .v .iJson],[.ext]⟩
def aK_.e:FE:=mkE rd0 228 39 1 [.sl .v .int,.sl .v .iJson] [.tmp 4] [] [(3,od72),(11,od73)] [(0,od74),(2,od74)] (un2 aK_)
def c8_.e:FE:=mkE rd24 258 15 1 [.sl .v .int,.i .i64] [.tmp 4] [] [] [] (un2 c8_)
def od75:OD:=⟨[(1,.box [.k,.k,.k,.view .iJson,.view .str]),(2,.box [.k,.k,.k,.k,.k]),(3,.box [.k,.k,.k,.own .d .iJson,.own .d .str]),(4,.k)],[.pb 1 0,.pb 2 0,.pb 3 0,.i .i64],[.ext,.box (aa_.p .v),.box [.i .i64,.i .i64,.s,.nils,.nils],.box [.i .i64,.i .i64,.s,.rt 4,.rt 5],.arr .d .iJson 2,.arr .d .str 2]⟩
def od76:OD:=⟨[(2,.box [.k,.k,.k,.k,.k]),(3,.box [.k,.k,.k,.own .d .iJson,.own .d .str])],[.pb 1 0,.pb 2 0],[.ext,.box [.i .i64,.i .i64,.s,.nils,.nils],.box [.i .i64,.i .i64,.s,.rt 3,.rt 4],.arr .d .iJson 2,.arr .d .str 2]⟩
def bq_.e:FE:=mkE rd26 46 35 1 [.ag (aa_.p .v)] [.cell 2 29] [] [(4,od75)] [(0,od76)] fun n (a0,_)=>bq_ n (aa_.of a0)
def dv_.e:FE:=mkE rd24 259 22 1 [.sl .v .int,.i .i64,.i .i64] [.tmp 6] [] [] [] (un3 dv_)
def od77:OD:=⟨[(0,.view .iJson),(1,.view .int),(2,.view .iJson),(3,.view .int),(9,.own .d .iOp),(10,.own .d .int),(11,.k)],[.sl .v .iJson,.sl .v .int,.sl .v .iJson,.sl .v .int,.rt 1,.rt 2,.i .i64],[.ext,.arr .d .iOp 2,.arr .d .int 2]⟩
def od78:OD:=⟨[(0,.view .iJson),(1,.view .int),(2,.view .iJson),(3,.view .int),(9,.own .d .iOp),(10,.own .d .int),(12,.k)],[.sl .v .iJson,.sl .v .int,.sl .v .iJson,.sl .v .int,.rt 1,.rt 2,.i .i64],[.ext,.arr .d .iOp 2,.arr .d .int 2]⟩
def od79:OD:=⟨[(0,.view .iJson),(1,.view .int),(2,.view .iJson),(3,.view .int),(9,.own .d .iOp),(10,.own .d .int)],[.sl .v .iJson,.sl .v .int,.sl .v .iJson,.sl .v .int,.rt 1,.rt 2],[.ext,.arr .d .iOp 2,.arr .d .int 2]⟩
def od80:OD:=⟨[(9,.own .d .iOp)],[.rt 1],[.ext,.arr .d .iOp 2]⟩
def rd29:RD:=⟨(List TOp),[.sl .d .iOp],fun (a0,_)=>a0,fun r=>(r,())⟩
def aI_.e:FE:=mkE rd29 229 116 1 [.sl .v .iJson,.sl .v .int,.sl .v .iJson,.sl .v .int] [.tmp 8] [] [(5,od77),(13,od78)] [(0,od79),(2,od80)] (un4 aI_)
def e0_.e:FE:=mkE rd29 175 25 1 [.sl .v .iJson,.sl .v .int,.sl .v .iJson,.sl .v .int] [.tmp 8] [] [] [] (un4 e0_)
def od81:OD:=⟨[(0,.k),(1,.view .iOp),(5,.own .d .iOp),(6,.k)],[.s,.sl .v .iOp,.rt 1,.i .i64],[.ext,.arr .d .iOp 2]⟩
def od82:OD:=⟨[(5,.own .d .iOp)],[.rt 1],[.ext,.arr .d .iOp 2]⟩
def cg_.e:FE:=mkE rd29 174 38 1 [.s,.sl .v .iOp] [.tmp 4] [] [(4,od81)] [(0,od82)] (un2 cg_)
def c9_.e:FE:=mkE rd29 122 52 1 [.ag (bF_.p .v),.ag (bF_.p .v)] [.tmp 4] [] [] [] fun n (a0,a1,_)=>c9_ n (bF_.of a0) (bF_.of a1)
def od83:OD:=⟨[(1,.box [.k,.view .str,.k,.k,.k,.view .iJson,.view .str]),(3,.k)],[.pb 1 0,.i .i64],[.ext,.box (TOp.p .v)]⟩
def od84:OD:=⟨[(1,.box [.k,.view .str,.k,.k,.k,.view .iJson,.view .str])],[.pb 1 0],[.ext,.box (TOp.p .v)]⟩
def cv_.e:FE:=mkE rd0 135 43 1 [.ag (TOp.p .v)] [.tmp 2] [] [(6,od83)] [(0,od84)] fun n (a0,_)=>cv_ n (TOp.of a0)
def rd30:RD:=⟨(List Bs),[.sl .d .str],fun (a0,_)=>a0,fun r=>(r,())⟩
def dj_.e:FE:=mkE rd30 110 2 1 [] [.tmp 0] [] [] [] fun n _=>dj_ n ()
def od85:OD:=⟨[(0,.view .str),(3,.own .d .u8),(4,.k)],[.sl .v .str,.rt 1,.i .i64],[.ext,.arr .d .u8 2]⟩
def od86:OD:=⟨[(0,.view .str),(3,.own .d .u8),(4,.k),(5,.k)],[.sl .v .str,.rt 1,.i .i64,.i .i64],[.ext,.arr .d .u8 2]⟩
def od87:OD:=⟨[(3,.own .d .u8)],[.rt 1],[.ext,.arr .d .u8 2]⟩
def aF_.e:FE:=mkE pe_ 144 52 1 [.sl .v .str] [.tmp 2] [] [(10,od86),(4,od85)] [(0,od87),(2,od85)] (un1 aF_)
def dX_.e:FE:=mkE rd6 99 34 1 [.ag (TOp.p .v)] [.cell 2 29] [] [] [] fun n (a0,_)=>dX_ n (TOp.of a0)
def od88:OD:=⟨[(0,.k),(3,.own .d .u8),(4,.k)],[.s,.rt 1,.i .i64],[.ext,.arr .d .u8 2]⟩
def bx_.e:FE:=mkE pe_ 143 35 1 [.s] [.tmp 2] [] [(4,od88)] [(0,od87)] (un1 bx_)
def od89:OD:=⟨[(1,.box [.k,.k,.k,.view .iJson,.view .str]),(3,.k),(4,.k)],[.pb 1 0,.s,.i .i64],[.ext,.box (aa_.p .v)]⟩
def od90:OD:=⟨[(1,.box [.k,.k,.k,.view .iJson,.view .str]),(3,.k)],[.pb 1 0,.s],[.ext,.box (aa_.p .v)]⟩
def aO_.e:FE:=mkE pe_ 98 64 1 [.ag (aa_.p .v)] [.tmp 2] [] [(17,od89)] [(1,od90)] fun n (a0,_)=>aO_ n (aa_.of a0)
def cY_.e:FE:=mkE pe_ 52 13 1 [.ag (aa_.p .v)] [.tmp 2] [] [] [] fun n (a0,_)=>cY_ n (aa_.of a0)
def od91:OD:=⟨[(0,.view .iOp),(3,.box [.k,.k,.k,.own .s .iJson,.k]),(4,.k)],[.sl .v .iOp,.pb 1 0,.i .i64],[.ext,.box [.i .i64,.i .i64,.s,.rt 2,.nils],.arr .s .iJson 2]⟩
def od92:OD:=⟨[(3,.box [.k,.k,.k,.own .s .iJson,.k])],[.pb 1 0],[.ext,.box [.i .i64,.i .i64,.s,.rt 2,.nils],.arr .s .iJson 2]⟩
def a5_.e:FE:=mkE rd5 170 34 1 [.sl .v .iOp] [.tmp 2] [] [(4,od91)] [(0,od92)] (un1 a5_)
def d8_.e:FE:=mkE rd0 121 27 1 [.ag (bF_.p .v),.ag (bF_.p .v)] [.tmp 4] [] [] [] fun n (a0,a1,_)=>d8_ n (bF_.of a0) (bF_.of a1)
def rd31:RD:=⟨cB_ × aD_ × Bool,[.ag (cB_.p .d),.ag [.i .i64,.i .i64,.i .i64,.i .i64,.i .i64,.s,.sl .v .iJson,.sl .v .str,.sl .d .iOp],.b],fun (a0,a1,a2,_)=>((cB_.of a0),(aD_.of a1),a2),fun (a0,a1,a2)=>(cB_.to a0,aD_.to a1,a2,())⟩
def df_.e:FE:=mkE rd31 77 49 1 [.ag (cB_.p .v)] [.cell 2 111,.cell 3 35,.tmp 4] [] [] [] fun n (a0,_)=>df_ n (cB_.of a0)
def rd32:RD:=⟨TMut × af_,[.ag (TMut.p .d),.bx (af_.p .v)],fun (a0,a1,_)=>((TMut.of a0),(af_.of a1)),fun (a0,a1)=>(TMut.to a0,af_.to a1,())⟩
def du_.e:FE:=mkE rd32 127 102 2 [.bx (af_.p .v),.ag (aw_.p .v)] [.cell 4 179] [.pb 1 0] [] [] fun n (a0,a1,_)=>du_ n (af_.of a0) (aw_.of a1)
def eS_.e:FE:=mkE rd0 178 43 1 [.ag [.sl .v .int],.ag (TMut.p .v)] [.tmp 4] [] [] [] fun n (a0,a1,_)=>eS_ n (bi_.of a0) (TMut.of a1)
def od93:OD:=⟨[(1,.box [.view .int,.k,.view .s_iRow]),(2,.box [.k,.k,.k]),(3,.box [.own .d .int,.k,.own .d .s_iRow]),(4,.k)],[.pb 1 0,.pb 2 0,.pb 3 0,.i .i64],[.ext,.box (aw_.p .v),.box [.nils,.i .i64,.nils],.box [.rt 4,.i .i64,.rt 5],.arr .d .int 2,.arr .d .s_iRow 2]⟩
def od94:OD:=⟨[(2,.box [.k,.k,.k]),(3,.box [.own .d .int,.k,.own .d .s_iRow])],[.pb 1 0,.pb 2 0],[.ext,.box [.nils,.i .i64,.nils],.box [.rt 3,.i .i64,.rt 4],.arr .d .int 2,.arr .d .s_iRow 2]⟩
def rd33:RD:=⟨aw_,[.ag (aw_.p .d)],fun (a0,_)=>(aw_.of a0),fun r=>(aw_.to r,())⟩
def bz_.e:FE:=mkE rd33 125 30 1 [.ag (aw_.p .v)] [.cell 2 101] [] [(4,od93)] [(0,od94)] fun n (a0,_)=>bz_ n (aw_.of a0)
def rd34:RD:=⟨aw_ × a0_ × Bool,[.ag [.sl .d .int,.i .i64,.sl .s .s_iRow],.ag (a0_.p .d),.b],fun (a0,a1,a2,_)=>((aw_.of a0),(a0_.of a1),a2),fun (a0,a1,a2)=>(aw_.to a0,a0_.to a1,a2,())⟩
def fh_.e:FE:=mkE rd34 179 82 3 [.ag [.sl .d .int,.i .i64,.sl .s .s_iRow],.ag (TMut.p .v)] [.cell 4 101,.cell 5 175,.tmp 6] [] [] [] fun n (a0,a1,_)=>fh_ n (aw_.of a0) (TMut.of a1)
def eA_.e:FE:=mkE rd34 126 38 1 [.ag (aw_.p .v),.ag (TMut.p .v)] [.cell 4 101,.cell 5 175,.tmp 6] [] [] [] fun n (a0,a1,_)=>eA_ n (aw_.of a0) (TMut.of a1)
def od95:OD:=⟨[(0,.box [.view .u8,.k,.k]),(5,.box [.view .int,.k,.view .s_iRow]),(6,.own .s .iMut),(7,.k)],[.pb 1 0,.pb 2 0,.rt 3,.i .i64],[.ext,.box (af_.p .v),.box (aw_.p .v),.arr .s .iMut 2]⟩
def od96:OD:=⟨[(0,.box [.view .u8,.k,.k]),(5,.box [.view .int,.k,.view .s_iRow]),(6,.own .s .iMut),(7,.k),(8,.box [.k,.k,.k,.view .int])],[.pb 1 0,.pb 2 0,.rt 3,.i .i64,.pb 4 0],[.ext,.box (af_.p .v),.box (aw_.p .v),.arr .s .iMut 2,.box (TMut.p .v)]⟩
def od97:OD:=⟨[(6,.own .s .iMut)],[.rt 2],[.ext,.box (af_.p .v),.arr .s .iMut 2]⟩
def rd35:RD:=⟨(List TMut) × af_,[.sl .s .iMut,.bx (af_.p .v)],fun (a0,a1,_)=>(a0,(af_.of a1)),fun (a0,a1)=>(a0,af_.to a1,())⟩
def aB_.e:FE:=⟨_,⟨79,43,2,[.bx (af_.p .v),.ag (aw_.p .v)],rd35.rp,rd35.toR,rd35.ofR,[.ptr [.v,.v,.v],.ag [.v,.v,.v]],[.o,.ptr [.v,.v,.v]],[.own .s .iMut,.box [.view .u8,.k,.k]],[.tmp 4],[.pb 1 0],[(9,od96),(5,od95)],[(9,od95)],[(0,od97)]⟩,fun _=>true,fun n (a0,a1,_)=>aB_ n (af_.of a0) (aw_.of a1)⟩
def od98:OD:=⟨[(1,.view .iMut),(2,.box [.view .int,.k,.view .s_iRow]),(4,.box [.k,.k,.k]),(7,.own .d .iChange),(8,.box [.own .d .int,.k,.own .s .s_iRow]),(9,.own .d .iChange),(10,.k)],[.sl .v .iMut,.pb 1 0,.pb 2 0,.rt 3,.pb 4 0,.rt 5,.i .i64],[.ext,.box (aw_.p .v),.box [.nils,.i .i64,.nils],.arr .d .iChange 2,.box [.rt 6,.i .i64,.rt 7],.arr .d .iChange 2,.arr .d .int 2,.arr .s .s_iRow 2]⟩
def od99:OD:=⟨[(2,.box [.view .int,.k,.view .s_iRow]),(4,.box [.k,.k,.k]),(8,.box [.own .d .int,.k,.own .s .s_iRow]),(9,.own .d .iChange)],[.pb 1 0,.pb 2 0,.pb 3 0,.rt 4],[.ext,.box (aw_.p .v),.box [.nils,.i .i64,.nils],.box [.rt 5,.i .i64,.rt 6],.arr .d .iChange 2,.arr .d .int 2,.arr .s .s_iRow 2]⟩
def rd36:RD:=⟨aw_ × (List a0_) × Bool,[.ag [.sl .d .int,.i .i64,.sl .s .s_iRow],.sl .d .iChange,.b],fun (a0,a1,a2,_)=>((aw_.of a0),a1,a2),fun (a0,a1,a2)=>(aw_.to a0,a1,a2,())⟩
def bD_.e:FE:=mkE rd36 78 67 1 [.ag (aw_.p .v),.sl .v .iMut] [.cell 4 101,.tmp 5,.tmp 6] [] [(12,od98)] [(0,od99)] fun n (a0,a1,_)=>bD_ n (aw_.of a0) a1
def rd37:RD:=⟨bF_,[.ag [.i .i64,.sl .d .iCond,.i .i64,.b,.i .i64,.sl .d .int,.b,.i .i64,.i .i64,.sl .s .iRow,.sl .d .iKid]],fun (a0,_)=>(bF_.of a0),fun r=>(bF_.to r,())⟩
def de_.e:FE:=mkE rd37 180 76 1 [.ag (bF_.p .v),.ag (a0_.p .v)] [.cell 4 109] [] [] [] fun n (a0,a1,_)=>de_ n (bF_.of a0) (a0_.of a1)
def od100:OD:=⟨[(1,.view .iChange),(4,.box [.k,.k,.k,.k,.k,.k,.k,.k,.k,.k,.k]),(5,.box [.k,.own .d .iCond,.k,.k,.k,.own .d .int,.k,.k,.k,.own .s .iRow,.own .d .iKid]),(6,.k)],[.sl .v .iChange,.pb 1 0,.pb 2 0,.i .i64],[.ext,.box [.i .i64,.nils,.i .i64,.b,.i .i64,.nils,.b,.i .i64,.i .i64,.nils,.nils],.box [.i .i64,.rt 3,.i .i64,.b,.i .i64,.rt 4,.b,.i .i64,.i .i64,.rt 5,.rt 6],.arr .d .iCond 2,.arr .d .int 2,.arr .s .iRow 2,.arr .d .iKid 2]⟩
def od101:OD:=⟨[(4,.box [.k,.k,.k,.k,.k,.k,.k,.k,.k,.k,.k]),(5,.box [.k,.own .d .iCond,.k,.k,.k,.own .d .int,.k,.k,.k,.own .s .iRow,.own .d .iKid])],[.pb 1 0,.pb 2 0],[.ext,.box [.i .i64,.nils,.i .i64,.b,.i .i64,.nils,.b,.i .i64,.i .i64,.nils,.nils],.box [.i .i64,.rt 3,.i .i64,.b,.i .i64,.rt 4,.b,.i .i64,.i .i64,.rt 5,.rt 6],.arr .d .iCond 2,.arr .d .int 2,.arr .s .iRow 2,.arr .d .iKid 2]⟩
def aU_.e:FE:=mkE rd37 128 22 1 [.ag (bF_.p .v),.sl .v .iChange] [.cell 4 109] [] [(4,od100)] [(0,od101)] fun n (a0,a1,_)=>aU_ n (bF_.of a0) a1
def rd38:RD:=⟨cB_,[.ag [.i .i64,.sl .d .iCond,.i .i64,.b,.i .i64,.sl .d .int,.b,.i .i64,.i .i64,.sl .s .iRow,.sl .d .iKid,.i .i64,.i .i64,.sl .d .iCond,.i .i64,.b,.i .i64,.sl .d .int,.b,.i .i64,.i .i64,.sl .d .iRow,.sl .d .iKid,.i .i64,.b]],fun (a0,_)=>(cB_.of a0),fun r=>(cB_.to r,())⟩
def dW_.e:FE:=mkE rd38 80 18 1 [.ag (cB_.p .v),.sl .v .iChange] [.cell 4 111] [] [] [] fun n (a0,a1,_)=>dW_ n (cB_.of a0) a1
def od102:OD:=⟨[(0,.box [.view .u8,.k,.k]),(2,.box [.k,.k,.k]),(3,.box [.k,.k,.k,.k,.k,.k,.k,.k,.k,.k,.k,.k,.k,.k,.k,.k,.k,.k,.k,.k,.k,.k,.k,.k,.k]),(4,.box [.view .int,.k,.view .s_iRow])],[.pb 1 0,.pb 2 0,.pb 3 0,.pb 4 0],[.ext,.box (af_.p .v),.box [.nils,.i .i64,.nils],.box [.i .i64,.nils,.i .i64,.b,.i .i64,.nils,.b,.i .i64,.i .i64,.nils,.nils,.i .i64,.i .i64,.nils,.i .i64,.b,.i .i64,.nils,.b,.i .i64,.i .i64,.nils,.nils,.i .i64,.b],.box (aw_.p .v)]⟩
def od103:OD:=⟨[(0,.box [.view .u8,.k,.k]),(2,.box [.k,.k,.k]),(3,.box [.k,.k,.k,.k,.k,.k,.k,.k,.k,.k,.k,.k,.k,.k,.k,.k,.k,.k,.k,.k,.k,.k,.k,.k,.k]),(4,.box [.view .int,.k,.view .s_iRow]),(5,.box [.k,.view .iCond,.k,.k,.k,.view .int,.k,.k,.k,.view .iRow,.view .iKid,.k,.k,.view .iCond,.k,.k,.k,.view .int,.k,.k,.k,.view .iRow,.view .iKid,.k,.k]),(7,.k)],[.pb 1 0,.pb 2 0,.pb 3 0,.pb 4 0,.pb 5 0,.i .i64],[.ext,.box (af_.p .v),.box [.nils,.i .i64,.nils],.box [.i .i64,.nils,.i .i64,.b,.i .i64,.nils,.b,.i .i64,.i .i64,.nils,.nils,.i .i64,.i .i64,.nils,.i .i64,.b,.i .i64,.nils,.b,.i .i64,.i .i64,.nils,.nils,.i .i64,.b],.box (aw_.p .v),.box (cB_.p .v)]⟩
def od104:OD:=⟨[(0,.box [.view .u8,.k,.k]),(2,.box [.k,.k,.k]),(3,.box [.k,.k,.k,.k,.k,.k,.k,.k,.k,.k,.k,.k,.k,.k,.k,.k,.k,.k,.k,.k,.k,.k,.k,.k,.k]),(4,.box [.view .int,.k,.view .s_iRow]),(5,.box [.k,.view .iCond,.k,.k,.k,.view .int,.k,.k,.k,.view .iRow,.view .iKid,.k,.k,.view .iCond,.k,.k,.k,.view .int,.k,.k,.k,.view .iRow,.view .iKid,.k,.k]),(7,.k),(29,.k)],[.pb 1 0,.pb 2 0,.pb 3 0,.pb 4 0,.pb 5 0,.i .i64,.b],[.ext,.box (af_.p .v),.box [.nils,.i .i64,.nils],.box [.i .i64,.nils,.i .i64,.b,.i .i64,.nils,.b,.i .i64,.i .i64,.nils,.nils,.i .i64,.i .i64,.nils,.i .i64,.b,.i .i64,.nils,.b,.i .i64,.i .i64,.nils,.nils,.i .i64,.b],.box (aw_.p .v),.box (cB_.p .v)]⟩
def od105:OD:=⟨[(2,.box [.k,.k,.k]),(3,.box [.k,.k,.k,.k,.k,.k,.k,.k,.k,.k,.k,.k,.k,.k,.k,.k,.k,.k,.k,.k,.k,.k,.k,.k,.k]),(4,.box [.view .int,.k,.view .s_iRow]),(5,.box [.k,.view .iCond,.k,.k,.k,.view .int,.k,.k,.k,.view .iRow,.view .iKid,.k,.k,.view .iCond,.k,.k,.k,.view .int,.k,.k,.k,.view .iRow,.view .iKid,.k,.k])],[.pb 2 0,.pb 3 0,.pb 4 0,.pb 5 0],[.ext,.box (af_.p .v),.box [.nils,.i .i64,.nils],.box [.i .i64,.nils,.i .i64,.b,.i .i64,.nils,.b,.i .i64,.i .i64,.nils,.nils,.i .i64,.i .i64,.nils,.i .i64,.b,.i .i64,.nils,.b,.i .i64,.i .i64,.nils,.nils,.i .i64,.b],.box (aw_.p .v),.box (cB_.p .v)]⟩
def rd39:RD:=⟨aw_ × cB_ × af_,[.ag (aw_.p .v),.ag (cB_.p .v),.bx (af_.p .v)],fun (a0,a1,a2,_)=>((aw_.of a0),(cB_.of a1),(af_.of a2)),fun (a0,a1,a2)=>(aw_.to a0,cB_.to a1,af_.to a2,())⟩
def as_.e:FE:=⟨_,⟨106,52,2,[.bx (af_.p .v)],rd39.rp,rd39.toR,rd39.ofR,[.ptr [.v,.v,.v]],[.ag [.v,.v,.v],.ag [.v,.v,.v,.v,.v,.v,.v,.v,.v,.v,.v,.v,.v,.v,.v,.v,.v,.v,.v,.v,.v,.v,.v,.v,.v],.ptr [.v,.v,.v]],[.ag [.view .int,.k,.view .s_iRow],.ag [.k,.view .iCond,.k,.k,.k,.view .int,.k,.k,.k,.view .iRow,.view .iKid,.k,.k,.view .iCond,.k,.k,.k,.view .int,.k,.k,.k,.view .iRow,.view .iKid,.k,.k],.box [.view .u8,.k,.k]],[.cell 2 101,.cell 3 111],[.pb 1 0],[(10,od104),(5,od103),(1,od102)],[(10,od103)],[(0,od105)]⟩,fun _=>true,fun n (a0,_)=>as_ n (af_.of a0)⟩
def rd40:RD:=⟨aD_ × af_,[.ag [.i .i64,.i .i64,.i .i64,.i .i64,.i .i64,.s,.sl .v .iJson,.sl .v .str,.sl .d .iOp],.bx (af_.p .v)],fun (a0,a1,_)=>((aD_.of a0),(af_.of a1)),fun (a0,a1)=>(aD_.to a0,af_.to a1,())⟩
def c2_.e:FE:=mkE rd40 59 30 2 [.bx (af_.p .v)] [.cell 2 35] [.pb 1 0] [] [] fun n (a0,_)=>c2_ n (af_.of a0)
def od106:OD:=⟨[(0,.view .iOp),(2,.box [.k,.k,.k,.k,.k]),(4,.box [.k,.k,.k,.own .s .iJson,.k]),(5,.k)],[.sl .v .iOp,.pb 1 0,.pb 2 0,.i .i64],[.ext,.box [.i .i64,.i .i64,.s,.nils,.nils],.box [.i .i64,.i .i64,.s,.rt 3,.nils],.arr .s .iJson 2]⟩
def od107:OD:=⟨[(0,.view .iOp),(2,.box [.k,.k,.k,.k,.k]),(4,.box [.k,.k,.k,.own .s .iJson,.k])],[.sl .v .iOp,.pb 1 0,.pb 2 0],[.ext,.box [.i .i64,.i .i64,.s,.nils,.nils],.box [.i .i64,.i .i64,.s,.rt 3,.nils],.arr .s .iJson 2]⟩
def rd41:RD:=⟨aa_ × Bool,[.ag [.i .i64,.i .i64,.s,.sl .s .iJson,.sl .d .str],.b],fun (a0,a1,_)=>((aa_.of a0),a1),fun (a0,a1)=>(aa_.to a0,a1,())⟩
def bQ_.e:FE:=mkE rd41 53 38 1 [.sl .v .iOp] [.cell 2 29,.tmp 3] [] [(4,od106)] [(0,od107)] (un1 bQ_)
def eb_.e:FE:=mkE rd0 45 51 1 [.ag (aD_.p .v)] [.tmp 2] [] [] [] fun n (a0,_)=>eb_ n (aD_.of a0)
def da_.e:FE:=mkE pe_ 17 43 1 [.ag (aD_.p .v)] [.tmp 2] [] [] [] fun n (a0,_)=>da_ n (aD_.of a0)
def od108:OD:=⟨[(0,.box [.view .u8,.k,.k]),(3,.k),(4,.k)],[.pb 1 0,.s,.i .i64],[.ext,.box (af_.p .v)]⟩
def od109:OD:=⟨[(3,.k)],[.s],[.ext,.box (af_.p .v)]⟩
def aT_.e:FE:=mkE rd4 70 17 2 [.bx (af_.p .v)] [.tmp 2] [.pb 1 0] [(4,od108)] [(0,od109)] fun n (a0,_)=>aT_ n (af_.of a0)
def od110:OD:=⟨[(2,.box [.k,.k]),(4,.box [.view .u8,.k,.k]),(5,.k),(7,.box [.k,.k])],[.pb 1 0,.pb 2 0,.s,.pb 3 0],[.ext,.box (aC_.p .v),.box (af_.p .v),.box (aC_.p .v)]⟩
def od111:OD:=⟨[(2,.box [.k,.k]),(5,.k),(7,.box [.k,.k])],[.pb 1 0,.s,.pb 2 0],[.ext,.box (aC_.p .v),.box (aC_.p .v)]⟩
def rd42:RD:=⟨aC_ × Bs,[.ag (aC_.p .v),.s],fun (a0,a1,_)=>((aC_.of a0),a1),fun (a0,a1)=>(aC_.to a0,a1,())⟩
def bt_.e:FE:=mkE rd42 29 52 1 [.sl .v .u8] [.cell 2 51,.tmp 3] [] [(11,od110)] [(1,od111)] (un1 bt_)
def strings_Index.e:FE:=mkE rd5 72 8 1 [.s,.s] [.tmp 4] [] [] [] (un2 strings_Index)
def bn_.e:FE:=mkE rd0 197 18 1 [.s,.s] [.tmp 4] [] [] [] (un2 bn_)
def rd43:RD:=⟨Bs × Bool,(aC_.p .v),fun (a0,a1,_)=>(a0,a1),fun (a0,a1)=>(a0,a1,())⟩
def bU_.e:FE:=mkE rd43 145 15 1 [.s,.s] [.tmp 4,.tmp 5] [] [] [] (un2 bU_)
def cP_.e:FE:=mkE rd43 100 11 1 [.s,.s] [.tmp 4,.tmp 5] [] [] [] (un2 cP_)
def ca_.e:FE:=mkE rd5 113 143 1 [.s,.s] [.tmp 4] [] [] [] (un2 ca_)
def rd44:RD:=⟨Bs × Bs × Bool,[.s,.s,.b],fun (a0,a1,a2,_)=>(a0,a1,a2),fun (a0,a1,a2)=>(a0,a1,a2,())⟩
def co_.e:FE:=mkE rd44 198 23 1 [.s,.s] [.tmp 4,.tmp 5,.tmp 6] [] [] [] (un2 co_)
def ew_.e:FE:=mkE rd44 146 13 1 [.s,.s] [.tmp 4,.tmp 5,.tmp 6] [] [] [] (un2 ew_)
def bJ_.e:FE:=mkE pe_ 150 13 1 [.s,.s] [.tmp 4] [] [] [] (un2 bJ_)
def cJ_.e:FE:=mkE pe_ 104 8 1 [.s,.s] [.tmp 4] [] [] [] (un2 cJ_)
def rd45:RD:=⟨Bs × Bs,[.s,.s],fun (a0,a1,_)=>(a0,a1),fun (a0,a1)=>(a0,a1,())⟩
def dq_.e:FE:=mkE rd45 101 19 1 [.s,.s] [.tmp 4,.tmp 5] [] [] [] (un2 dq_)
def rd46:RD:=⟨Int × Bool,[.i .i64,.er],fun (a0,a1,_)=>(a0,a1),fun (a0,a1)=>(a0,a1,())⟩
def cR_.e:FE:=mkE rd46 102 18 1 [.s] [.tmp 2,.tmp 3] [] [] [] (un1 cR_)
def rd47:RD:=⟨Bool × aX_,[.b,.bx (aC_.p .v)],fun (a0,a1,_)=>(a0,(aX_.of a1)),fun (a0,a1)=>(a0,aX_.to a1,())⟩
def bw_.e:FE:=mkE rd47 204 28 2 [.bx (aC_.p .v),.s] [.tmp 4] [.pb 1 0] [] [] fun n (a0,a1,_)=>bw_ n (aX_.of a0) a1
def c1_.e:FE:=mkE rd0 205 8 1 [.s,.s] [.tmp 4] [] [] [] (un2 c1_)
def rd48:RD:=⟨aX_,[.bx (aC_.p .v)],fun (a0,_)=>(aX_.of a0),fun r=>(aX_.to r,())⟩
def cq_.e:FE:=mkE rd48 253 11 2 [.bx (aC_.p .v),.s] [] [.pb 1 0] [] [] fun n (a0,a1,_)=>cq_ n (aX_.of a0) a1
def od112:OD:=⟨[(0,.box [.k,.k]),(3,.own .d .u8)],[.pb 1 0,.rt 2],[.ext,.box (aC_.p .v),.arr .d .u8 2]⟩
def od113:OD:=⟨[],[],[.ext,.box (aC_.p .v)]⟩
def rd49:RD:=⟨Bs × aX_,[.s,.bx (aC_.p .v)],fun (a0,a1,_)=>(a0,(aX_.of a1)),fun (a0,a1)=>(a0,aX_.to a1,())⟩
def av_.e:FE:=mkE rd49 206 42 2 [.bx (aC_.p .v)] [.tmp 2] [.pb 1 0] [(4,od112)] [(0,od113)] fun n (a0,_)=>av_ n (aX_.of a0)
def od114:OD:=⟨[(0,.box [.k,.k]),(1,.k),(2,.k),(3,.k),(8,.box [.k,.k,.k,.k,.k]),(9,.box [.k,.k,.k,.own .d .iJson,.own .d .str]),(10,.k)],[.pb 1 0,.i .i64,.s,.i .i64,.pb 2 0,.pb 3 0,.b],[.ext,.box (aC_.p .v),.box [.i .i64,.i .i64,.s,.nils,.nils],.box [.i .i64,.i .i64,.s,.rt 4,.rt 5],.arr .d .iJson 2,.arr .d .str 2]⟩
def od115:OD:=⟨[(0,.box [.k,.k]),(2,.k),(8,.box [.k,.k,.k,.k,.k]),(9,.box [.k,.k,.k,.own .d .iJson,.own .d .str])],[.pb 1 0,.s,.pb 2 0,.pb 3 0],[.ext,.box (aC_.p .v),.box [.i .i64,.i .i64,.s,.nils,.nils],.box [.i .i64,.i .i64,.s,.rt 4,.rt 5],.arr .d .iJson 2,.arr .d .str 2]⟩
def rd50:RD:=⟨aa_ × aX_,[.ag (aa_.p .d),.bx (aC_.p .v)],fun (a0,a1,_)=>((aa_.of a0),(aX_.of a1)),fun (a0,a1)=>(aa_.to a0,aX_.to a1,())⟩
def am_.e:FE:=mkE rd50 207 55 2 [.bx (aC_.p .v),.i .i64,.s,.i .i64] [.cell 8 29] [.pb 1 0] [(7,od114)] [(0,od115)] fun n (a0,a1,a2,a3,_)=>am_ n (aX_.of a0) a1 a2 a3
def aN_.e:FE:=mkE rd0 55 15 1 (cj_.p .v) [.tmp 6] [] [] [] (un3 aN_)
def od116:OD:=⟨[(0,.box [.k,.k]),(2,.box [.k,.k,.k,.k,.k]),(3,.k)],[.pb 1 0,.pb 2 0,.i .i64],[.ext,.box (aC_.p .v),.box [.i .i64,.i .i64,.s,.nils,.nils]]⟩
def ap_.e:FE:=mkE rd50 208 63 2 [.bx (aC_.p .v)] [.cell 2 29] [.pb 1 0] [(3,od116)] [(0,od116)] fun n (a0,_)=>ap_ n (aX_.of a0)
def aZ_.e:FE:=mkE rd50 149 54 2 [.bx (aC_.p .v),.i .i64] [.cell 4 29] [.pb 1 0] [] [] fun n (a0,a1,_)=>aZ_ n (aX_.of a0) a1
def bp_.e:FE:=mkE rd0 233 5 1 [.i .i64] [.tmp 2] [] [] [] (un1 bp_)
def od117:OD:=⟨[(0,.k),(5,.k),(6,.k)],[.s,.i .i64,.i .i64],[.ext]⟩
def ay_.e:FE:=mkE rd0 183 19 1 [.s] [.tmp 2] [] [(3,od117)] [(0,od55)] (un1 ay_)
def od118:OD:=⟨[(0,.view .str),(5,.view .str),(6,.k),(7,.k)],[.sl .v .str,.sl .v .str,.i .i64,.i .i64],[.ext]⟩
def au_.e:FE:=mkE rd0 234 29 1 [.sl .v .str] [.tmp 2] [] [(3,od118)] [(0,od3)] (un1 au_)
def eU_.e:FE:=mkE rd0 182 90 1 [.ag (aa_.p .v)] [.tmp 2] [] [] [] fun n (a0,_)=>eU_ n (aa_.of a0)
def od119:OD:=⟨[(1,.k),(5,.k),(16,.view .iJson),(17,.k),(18,.k)],[.i .i64,.i .i64,.sl .v .iJson,.i .i64,.i .i64],[.ext]⟩
def od120:OD:=⟨[(5,.k)],[.i .i64],[.ext]⟩
def bK_.e:FE:=mkE rd5 131 32 1 [.ag (aa_.p .v),.i .i64] [.tmp 4] [] [(7,od119)] [(0,od120)] fun n (a0,a1,_)=>bK_ n (aa_.of a0) a1
def c7_.e:FE:=mkE rd0 89 6 1 [.ag (aa_.p .v)] [.tmp 2] [] [] [] fun n (a0,_)=>c7_ n (aa_.of a0)
def od121:OD:=⟨[(0,.k),(3,.own .d .u8),(7,.k),(8,.k)],[.s,.rt 1,.i .i64,.i .i64],[.ext,.arr .d .u8 2]⟩
def b0_.e:FE:=mkE pe_ 138 35 1 [.s] [.tmp 2] [] [(4,od121)] [(0,od87)] (un1 b0_)
def strconv_Itoa.e:FE:=mkE pe_ 95 5 1 [.i .i64] [.tmp 2] [] [] [] (un1 strconv_Itoa)
def strings_Join.e:FE:=mkE pe_ 139 75 1 [.sl .v .str,.s] [.tmp 4] [] [] [] (un2 strings_Join)
def od122:OD:=⟨[(1,.box [.k,.k,.k,.view .iJson,.view .str]),(3,.own .d .str),(9,.view .iJson),(10,.k),(11,.k)],[.pb 1 0,.rt 2,.sl .v .iJson,.i .i64,.i .i64],[.ext,.box (aa_.p .v),.arr .d .str 2]⟩
def od123:OD:=⟨[(1,.box [.k,.k,.k,.view .iJson,.view .str]),(3,.own .d .str)],[.pb 1 0,.rt 2],[.ext,.box (aa_.p .v),.arr .d .str 2]⟩
def bc_.e:FE:=mkE pe_ 96 66 1 [.ag (aa_.p .v)] [.tmp 2] [] [(4,od122)] [(0,od123)] fun n (a0,_)=>bc_ n (aa_.of a0)
def dr_.e:FE:=mkE pe_ 49 13 1 [.ag (aa_.p .v)] [.tmp 2] [] [] [] fun n (a0,_)=>dr_ n (aa_.of a0)
def rd51:RD:=⟨aa_ × Bool,[.ag (aa_.p .d),.b],fun (a0,a1,_)=>((aa_.of a0),a1),fun (a0,a1)=>(aa_.to a0,a1,())⟩
def dI_.e:FE:=mkE rd51 103 27 1 [.s] [.cell 2 29,.tmp 3] [] [] [] (un1 dI_)
def od124:OD:=⟨[(0,.view .str),(1,.k),(7,.k),(8,.k)],[.sl .v .str,.s,.i .i64,.i .i64],[.ext]⟩
def aG_.e:FE:=mkE rd5 211 19 1 [.sl .v .str,.s] [.tmp 4] [] [(3,od124)] [(0,od3)] (un2 aG_)
def dA_.e:FE:=mkE rd30 88 6 1 [.sl .v .str] [.tmp 2] [] [] [] (un1 dA_)
def od125:OD:=⟨[(2,.box [.k,.k,.k,.k,.k]),(3,.box [.k,.k,.k,.own .d .iJson,.own .d .str]),(17,.view .iJson),(18,.k),(19,.k)],[.pb 1 0,.pb 2 0,.sl .v .iJson,.i .i64,.i .i64],[.ext,.box [.i .i64,.i .i64,.s,.nils,.nils],.box [.i .i64,.i .i64,.s,.rt 3,.rt 4],.arr .d .iJson 2,.arr .d .str 2]⟩
def a7_.e:FE:=mkE rd26 42 32 1 [.ag (aa_.p .v)] [.cell 2 29] [] [(4,od125)] [(0,od76)] fun n (a0,_)=>a7_ n (aa_.of a0)
def er_.e:FE:=mkE rd51 209 25 1 [.ag (aa_.p .v),.s] [.cell 4 29,.tmp 5] [] [] [] fun n (a0,a1,_)=>er_ n (aa_.of a0) a1
def strings_Split.e:FE:=mkE rd30 254 8 1 [.s,.s] [.tmp 4] [] [] [] (un2 strings_Split)
def strings_ReplaceAll.e:FE:=mkE pe_ 196 11 1 [.s,.s,.s] [.tmp 6] [] [] [] (un3 strings_ReplaceAll)
def od126:OD:=⟨[(3,.k),(6,.view .str),(7,.k),(8,.k)],[.s,.sl .v .str,.i .i64,.i .i64],[.ext]⟩
def od127:OD:=⟨[(3,.k)],[.s],[.ext]⟩
def bV_.e:FE:=mkE pe_ 141 20 1 [.sl .v .str] [.tmp 2] [] [(4,od126)] [(0,od127)] (un1 bV_)
def od128:OD:=⟨[(0,.k),(4,.own .d .str),(13,.view .str),(14,.k),(15,.k)],[.s,.rt 1,.sl .v .str,.i .i64,.i .i64],[.ext,.arr .d .str 2]⟩
def od129:OD:=⟨[(0,.k),(4,.own .d .str)],[.s,.rt 1],[.ext,.arr .d .str 2]⟩
def rd52:RD:=⟨(List Bs) × Bool,[.sl .d .str,.b],fun (a0,a1,_)=>(a0,a1),fun (a0,a1)=>(a0,a1,())⟩
def bE_.e:FE:=mkE rd52 210 36 1 [.s] [.tmp 2,.tmp 3] [] [(7,od128)] [(0,od129)] (un1 bE_)
def dl_.e:FE:=mkE rd30 140 2 1 [] [.tmp 0] [] [] [] fun n _=>dl_ n ()
def dZ_.e:FE:=mkE rd0 56 28 1 [.ag (aa_.p .v)] [.tmp 2] [] [] [] fun n (a0,_)=>dZ_ n (aa_.of a0)
def od130:OD:=⟨[(1,.box [.k,.view .str,.k,.k,.k,.view .iJson,.view .str]),(6,.view .str),(7,.k),(8,.k)],[.pb 1 0,.sl .v .str,.i .i64,.i .i64],[.ext,.box (TOp.p .v)]⟩
def cw_.e:FE:=mkE rd0 132 40 1 [.ag (TOp.p .v)] [.tmp 2] [] [(3,od130)] [(0,od84)] fun n (a0,_)=>cw_ n (TOp.of a0)
def ef_.e:FE:=mkE rd26 142 8 3 [.ag (aa_.p .d)] [.cell 2 29] [] [] [] fun n (a0,_)=>ef_ n (aa_.of a0)
def eh_.e:FE:=mkE rd26 97 41 1 [.ag (TOp.p .v)] [.cell 2 29] [] [] [] fun n (a0,_)=>eh_ n (TOp.of a0)
def od131:OD:=⟨[(0,.view .str),(1,.view .str),(12,.k),(13,.k)],[.sl .v .str,.sl .v .str,.i .i64,.i .i64],[.ext]⟩
def aJ_.e:FE:=mkE rd0 260 26 1 [.sl .v .str,.sl .v .str] [.tmp 4] [] [(6,od131)] [(0,od3)] (un2 aJ_)
def od132:OD:=⟨[(1,.view .iJson),(2,.k),(15,.view .iJson),(16,.k),(17,.k)],[.sl .v .iJson,.clo 235 [],.sl .v .iJson,.i .i64,.i .i64],[.ext]⟩
def ah_.e:FE:=mkE rd0 261 32 1 [.sl .v .iJson,.sl .v .iJson,.clo 235 []] [.tmp 6] [] [(6,od132)] [(0,od3)] fun n (a0,a1,_,_)=>ah_ n a0 a1
def d6_.e:FE:=mkE rd0 235 38 1 [.ag (aa_.p .v),.ag (aa_.p .v)] [.tmp 4] [] [] [] fun n (a0,a1,_)=>d6_ n (aa_.of a0) (aa_.of a1)
def dP_.e:FE:=mkE rd0 212 16 1 [.ag (aa_.p .v),.ag (aa_.p .v)] [.tmp 4] [] [] [] fun n (a0,a1,_)=>dP_ n (aa_.of a0) (aa_.of a1)
def rd53:RD:=⟨TOp × Bool,[.ag (TOp.p .d),.b],fun (a0,a1,_)=>((TOp.of a0),a1),fun (a0,a1)=>(TOp.to a0,a1,())⟩
def d0_.e:FE:=mkE rd53 151 66 1 [.ag (aa_.p .v)] [.cell 2 87,.tmp 3] [] [] [] fun n (a0,_)=>d0_ n (aa_.of a0)
def od133:OD:=⟨[(1,.box [.k,.k,.k,.view .iJson,.view .str]),(4,.own .d .iOp),(11,.view .iJson),(12,.k),(13,.k)],[.pb 1 0,.rt 2,.sl .v .iJson,.i .i64,.i .i64],[.ext,.box (aa_.p .v),.arr .d .iOp 2]⟩
def od134:OD:=⟨[(1,.box [.k,.k,.k,.view .iJson,.view .str]),(4,.own .d .iOp)],[.pb 1 0,.rt 2],[.ext,.box (aa_.p .v),.arr .d .iOp 2]⟩
def rd54:RD:=⟨(List TOp) × Bool,[.sl .d .iOp,.b],fun (a0,a1,_)=>(a0,a1),fun (a0,a1)=>(a0,a1,())⟩
def b1_.e:FE:=mkE rd54 105 33 1 [.ag (aa_.p .v)] [.tmp 2,.tmp 3] [] [(4,od133)] [(0,od134)] fun n (a0,_)=>b1_ n (aa_.of a0)
def rd55:RD:=⟨aD_,[.ag (aD_.p .d)],fun (a0,_)=>(aD_.of a0),fun r=>(aD_.to r,())⟩
def dm_.e:FE:=mkE rd55 58 96 1 [.s] [.cell 2 35] [] [] [] (un1 dm_)
def db_.e:FE:=mkE rd0 54 5 1 [.i .i64] [.tmp 2] [] [] [] (un1 db_)
def od135:OD:=⟨[(2,.box [.k,.k,.k,.k,.k]),(4,.box [.k,.k,.k,.own .d .iJson,.k]),(9,.view .iOp),(10,.k),(11,.k)],[.pb 1 0,.pb 2 0,.sl .v .iOp,.i .i64,.i .i64],[.ext,.box [.i .i64,.i .i64,.s,.nils,.nils],.box [.i .i64,.i .i64,.s,.rt 3,.nils],.arr .d .iJson 2]⟩
def od136:OD:=⟨[(2,.box [.k,.k,.k,.k,.k]),(4,.box [.k,.k,.k,.own .d .iJson,.k])],[.pb 1 0,.pb 2 0],[.ext,.box [.i .i64,.i .i64,.s,.nils,.nils],.box [.i .i64,.i .i64,.s,.rt 3,.nils],.arr .d .iJson 2]⟩
def bv_.e:FE:=mkE rd51 50 29 1 [.sl .v .iOp] [.cell 2 29,.tmp 3] [] [(4,od135)] [(0,od136)] (un1 bv_)
def dB_.e:FE:=mkE rd5 57 21 1 [.sl .v .iOp] [.tmp 2] [] [] [] (un1 dB_)
def ed_.e:FE:=mkE rd0 18 57 1 [.ag (aD_.p .v)] [.tmp 2] [] [] [] fun n (a0,_)=>ed_ n (aD_.of a0)
def eg_.e:FE:=mkE pe_ 48 5 1 [.i .i64] [.tmp 2] [] [] [] (un1 eg_)
def c5_.e:FE:=mkE pe_ 16 43 1 [.ag (aD_.p .v)] [.tmp 2] [] [] [] fun n (a0,_)=>c5_ n (aD_.of a0)
def rd56:RD:=⟨aD_ × Bool,[.ag (aD_.p .d),.b],fun (a0,a1,_)=>((aD_.of a0),a1),fun (a0,a1)=>(aD_.to a0,a1,())⟩
def cQ_.e:FE:=mkE rd56 19 19 1 [.s] [.cell 2 35,.tmp 3] [] [] [] (un1 cQ_)
def od137:OD:=⟨[(4,.box [.k,.k]),(6,.own .d .iEvent),(7,.k),(8,.k)],[.pb 1 0,.rt 2,.s,.b],[.ext,.box (aC_.p .v),.arr .d .iEvent 2]⟩
def rd57:RD:=⟨aC_ × (List aD_),[.ag (aC_.p .v),.sl .d .iEvent],fun (a0,a1,_)=>((aC_.of a0),a1),fun (a0,a1)=>(aC_.to a0,a1,())⟩
def cd_.e:FE:=mkE rd57 30 52 1 [.ag (aC_.p .v),.s] [.cell 4 51,.tmp 5] [] [(5,od137)] [(0,od137)] fun n (a0,a1,_)=>cd_ n (aC_.of a0) a1
def b3_.e:FE:=mkE rd5 73 23 1 [.s] [.tmp 2] [] [(3,od54)] [(0,od3)] (un1 b3_)
def od138:OD:=⟨[(0,.k),(3,.own .d .str),(4,.k),(5,.k)],[.s,.rt 1,.i .i64,.i .i64],[.ext,.arr .d .str 2]⟩
def od139:OD:=⟨[(3,.own .d .str)],[.rt 1],[.ext,.arr .d .str 2]⟩
def bo_.e:FE:=mkE rd30 61 27 1 [.s] [.tmp 2] [] [(5,od138)] [(0,od139)] (un1 bo_)
def cK_.e:FE:=mkE pe_ 62 22 1 [.s,.s] [.tmp 4] [] [] [] (un2 cK_)
def rd58:RD:=⟨Int × a8_,[.i .u8,.bx (a8_.p .v)],fun (a0,a1,_)=>(a0,(a8_.of a1)),fun (a0,a1)=>(a0,a8_.to a1,())⟩
def cW_.e:FE:=mkE rd58 152 22 2 [.bx (a8_.p .v)] [.tmp 2] [.pb 1 0] [] [] fun n (a0,_)=>cW_ n (a8_.of a0)
def od140:OD:=⟨[(0,.box [.k,.k,.k,.k]),(3,.k),(4,.k),(5,.k)],[.pb 1 0,.b,.i .i64,.i .i64],[.ext,.box (a8_.p .v)]⟩
def rd59:RD:=⟨Int × a8_,[.i .i64,.bx (a8_.p .v)],fun (a0,a1,_)=>(a0,(a8_.of a1)),fun (a0,a1)=>(a0,a8_.to a1,())⟩
def aE_.e:FE:=mkE rd59 107 65 2 [.bx (a8_.p .v)] [.tmp 2] [.pb 1 0] [(7,od140)] [(0,od140)] fun n (a0,_)=>aE_ n (a8_.of a0)
def rd60:RD:=⟨Int × Bool,[.i .i64,.b],fun (a0,a1,_)=>(a0,a1),fun (a0,a1)=>(a0,a1,())⟩
def dG_.e:FE:=mkE rd60 63 22 1 [.s] [.tmp 2,.tmp 3] [] [] [] (un1 dG_)
def rd61:RD:=⟨a8_,[.bx (a8_.p .v)],fun (a0,_)=>(a8_.of a0),fun r=>(a8_.to r,())⟩
def ce_.e:FE:=mkE rd61 153 50 2 [.bx (a8_.p .v),.s] [] [.pb 1 0] [] [] fun n (a0,a1,_)=>ce_ n (a8_.of a0) a1
def od141:OD:=⟨[(0,.box [.k,.k,.k,.k]),(3,.own .d .u8)],[.pb 1 0,.rt 2],[.ext,.box (a8_.p .v),.arr .d .u8 2]⟩
def rd62:RD:=⟨Bs × a8_,[.s,.bx (a8_.p .v)],fun (a0,a1,_)=>(a0,(a8_.of a1)),fun (a0,a1)=>(a0,a8_.to a1,())⟩
def aH_.e:FE:=mkE rd62 154 62 2 [.bx (a8_.p .v)] [.tmp 2] [.pb 1 0] [(4,od141)] [(0,od141)] fun n (a0,_)=>aH_ n (a8_.of a0)
def od142:OD:=⟨[(0,.box [.k,.k,.k,.k]),(1,.k),(4,.box [.k,.k,.k,.k,.k]),(5,.box [.k,.k,.k,.own .d .iJson,.own .d .str]),(6,.k)],[.pb 1 0,.i .i64,.pb 2 0,.pb 3 0,.s],[.ext,.box (a8_.p .v),.box [.i .i64,.i .i64,.s,.nils,.nils],.box [.i .i64,.i .i64,.s,.rt 4,.rt 5],.arr .d .iJson 2,.arr .d .str 2]⟩
def od143:OD:=⟨[(0,.box [.k,.k,.k,.k]),(4,.box [.k,.k,.k,.k,.k]),(5,.box [.k,.k,.k,.own .d .iJson,.own .d .str]),(6,.k)],[.pb 1 0,.pb 2 0,.pb 3 0,.s],[.ext,.box (a8_.p .v),.box [.i .i64,.i .i64,.s,.nils,.nils],.box [.i .i64,.i .i64,.s,.rt 4,.rt 5],.arr .d .iJson 2,.arr .d .str 2]⟩
def rd63:RD:=⟨aa_ × a8_,[.ag (aa_.p .d),.bx (a8_.p .v)],fun (a0,a1,_)=>((aa_.of a0),(a8_.of a1)),fun (a0,a1)=>(aa_.to a0,a8_.to a1,())⟩
def aY_.e:FE:=mkE rd63 155 61 2 [.bx (a8_.p .v),.i .i64] [.cell 4 29] [.pb 1 0] [(8,od142)] [(0,od143)] fun n (a0,a1,_)=>aY_ n (a8_.of a0) a1
def bS_.e:FE:=mkE rd63 108 61 2 [.bx (a8_.p .v),.i .i64] [.cell 4 29] [.pb 1 0] [] [] fun n (a0,a1,_)=>bS_ n (a8_.of a0) a1
def dY_.e:FE:=mkE rd51 64 41 1 [.s] [.cell 2 29,.tmp 3] [] [] [] (un1 dY_)
def dU_.e:FE:=mkE rd51 109 29 1 [.ag (aa_.p .v),.s] [.cell 4 29,.tmp 5] [] [] [] fun n (a0,a1,_)=>dU_ n (aa_.of a0) a1
def od144:OD:=⟨[(0,.k),(4,.own .d .str),(5,.own .d .str),(6,.own .d .u8),(7,.k)],[.s,.rt 1,.rt 2,.rt 3,.i .i64],[.ext,.arr .d .str 2,.arr .d .str 2,.arr .d .u8 2]⟩
def od145:OD:=⟨[(0,.k),(4,.own .d .str),(5,.own .d .str),(6,.own .d .u8)],[.s,.rt 1,.rt 2,.rt 3],[.ext,.arr .d .str 2,.arr .d .str 2,.arr .d .u8 2]⟩
def a4_.e:FE:=mkE rd52 111 86 1 [.s] [.tmp 2,.tmp 3] [] [(6,od144)] [(0,od145)] (un1 a4_)
def od146:OD:=⟨[(1,.box [.k,.k,.k,.view .iJson,.view .str]),(2,.box [.k,.k,.k,.k,.k,.k,.k]),(4,.box [.k,.k,.k,.k,.k,.k,.k]),(5,.box [.k,.k,.k,.own .d .iJson,.own .d .str]),(7,.box [.k,.k,.k,.own .d .iJson,.own .d .str]),(9,.own .d .str),(10,.k)],[.pb 1 0,.pb 2 0,.pb 3 0,.pb 4 0,.pb 5 0,.rt 6,.i .i64],[.ext,.box (aa_.p .v),.box [.i .i64,.nils,.i .i64,.i .i64,.s,.nils,.nils],.box [.i .i64,.nils,.i .i64,.i .i64,.s,.nils,.nils],.box [.i .i64,.i .i64,.s,.rt 7,.rt 8],.box [.i .i64,.i .i64,.s,.rt 9,.rt 10],.arr .d .str 2,.arr .d .iJson 2,.arr .d .str 2,.arr .d .iJson 2,.arr .d .str 2]⟩
def od147:OD:=⟨[(1,.box [.k,.k,.k,.view .iJson,.view .str]),(2,.box [.k,.k,.k,.k,.k,.k,.k]),(4,.box [.k,.view .str,.k,.k,.k,.view .iJson,.view .str]),(12,.k)],[.pb 1 0,.pb 2 0,.pb 3 0,.b],[.ext,.box (aa_.p .v),.box [.i .i64,.nils,.i .i64,.i .i64,.s,.nils,.nils],.box (TOp.p .v)]⟩
def od148:OD:=⟨[(1,.box [.k,.k,.k,.view .iJson,.view .str]),(2,.box [.k,.k,.k,.k,.k,.k,.k]),(4,.box [.k,.k,.k,.k,.k,.k,.k]),(7,.box [.k,.k,.k,.own .d .iJson,.own .d .str])],[.pb 1 0,.pb 2 0,.pb 3 0,.pb 4 0],[.ext,.box (aa_.p .v),.box [.i .i64,.nils,.i .i64,.i .i64,.s,.nils,.nils],.box [.i .i64,.nils,.i .i64,.i .i64,.s,.nils,.nils],.box [.i .i64,.i .i64,.s,.rt 5,.rt 6],.arr .d .iJson 2,.arr .d .str 2]⟩
def rd64:RD:=⟨TOp × Bool,[.ag (TOp.p .v),.b],fun (a0,a1,_)=>((TOp.of a0),a1),fun (a0,a1)=>(TOp.to a0,a1,())⟩
def bg_.e:FE:=mkE rd64 65 78 1 [.ag (aa_.p .v)] [.cell 2 87,.tmp 3] [] [(7,od146),(15,od147)] [(0,od148)] fun n (a0,_)=>bg_ n (aa_.of a0)
def od149:OD:=⟨[(0,.k),(2,.box [.k,.k,.k,.k,.k,.k,.k,.k,.k]),(4,.box [.k,.k,.k,.k,.k,.k,.own .d .iJson,.own .d .str,.own .s .iOp]),(5,.own .d .str),(6,.k)],[.s,.pb 1 0,.pb 2 0,.rt 3,.i .i64],[.ext,.box [.i .i64,.i .i64,.i .i64,.i .i64,.i .i64,.s,.nils,.nils,.nils],.box [.i .i64,.i .i64,.i .i64,.i .i64,.i .i64,.s,.rt 4,.rt 5,.rt 6],.arr .d .str 2,.arr .d .iJson 2,.arr .d .str 2,.arr .s .iOp 2]⟩
def od150:OD:=⟨[(0,.k),(2,.box [.k,.k,.k,.k,.k,.k,.k,.k,.k]),(4,.box [.k,.k,.k,.k,.k,.k,.own .d .iJson,.own .d .str,.own .s .iOp]),(5,.own .d .str),(6,.k),(8,.box [.k,.k,.k,.own .s .iJson,.own .d .str]),(10,.k)],[.s,.pb 1 0,.pb 2 0,.rt 3,.i .i64,.pb 4 0,.i .i64],[.ext,.box [.i .i64,.i .i64,.i .i64,.i .i64,.i .i64,.s,.nils,.nils,.nils],.box [.i .i64,.i .i64,.i .i64,.i .i64,.i .i64,.s,.rt 5,.rt 6,.rt 7],.arr .d .str 2,.box [.i .i64,.i .i64,.s,.rt 8,.rt 9],.arr .d .iJson 2,.arr .d .str 2,.arr .s .iOp 2,.arr .s .iJson 2,.arr .d .str 2]⟩
def od151:OD:=⟨[(0,.k),(2,.box [.k,.k,.k,.k,.k,.k,.k,.k,.k]),(4,.box [.k,.k,.k,.k,.k,.k,.own .d .iJson,.own .d .str,.own .s .iOp])],[.s,.pb 1 0,.pb 2 0],[.ext,.box [.i .i64,.i .i64,.i .i64,.i .i64,.i .i64,.s,.nils,.nils,.nils],.box [.i .i64,.i .i64,.i .i64,.i .i64,.i .i64,.s,.rt 3,.rt 4,.rt 5],.arr .d .iJson 2,.arr .d .str 2,.arr .s .iOp 2]⟩
def rd65:RD:=⟨aD_ × Bool,[.ag [.i .i64,.i .i64,.i .i64,.i .i64,.i .i64,.s,.sl .d .iJson,.sl .d .str,.sl .s .iOp],.b],fun (a0,a1,_)=>((aD_.of a0),a1),fun (a0,a1)=>(aD_.to a0,a1,())⟩
def ad_.e:FE:=mkE rd65 21 110 1 [.s] [.cell 2 35,.tmp 3] [] [(20,od150),(5,od149)] [(0,od151),(3,od149)] (un1 ad_)
def od152:OD:=⟨[(4,.box [.k,.k]),(6,.own .s .iEvent),(7,.box [.k,.k]),(8,.k)],[.pb 1 0,.rt 2,.pb 3 0,.s],[.ext,.box (aC_.p .v),.arr .s .iEvent 2,.box (aC_.p .v)]⟩
def rd66:RD:=⟨aC_ × (List aD_),[.ag (aC_.p .v),.sl .s .iEvent],fun (a0,a1,_)=>((aC_.of a0),a1),fun (a0,a1)=>(aC_.to a0,a1,())⟩
def cs_.e:FE:=mkE rd66 31 52 1 [.ag (aC_.p .v),.s] [.cell 4 51,.tmp 5] [] [(8,od152)] [(0,od152)] fun n (a0,a1,_)=>cs_ n (aC_.of a0) a1
def od153:OD:=⟨[(0,.box [.view .u8,.k,.k]),(3,.own .d .u8),(4,.k)],[.pb 1 0,.rt 2,.i .i64],[.ext,.box (af_.p .v),.arr .d .u8 2]⟩
def od154:OD:=⟨[(3,.own .d .u8)],[.rt 2],[.ext,.box (af_.p .v),.arr .d .u8 2]⟩
def rd67:RD:=⟨(List Int) × af_,[.sl .d .u8,.bx (af_.p .v)],fun (a0,a1,_)=>(a0,(af_.of a1)),fun (a0,a1)=>(a0,af_.to a1,())⟩
def a2_.e:FE:=mkE rd67 66 20 2 [.bx (af_.p .v)] [.tmp 2] [.pb 1 0] [(4,od153)] [(0,od154)] fun n (a0,_)=>a2_ n (af_.of a0)
def od155:OD:=⟨[(0,.box [.view .u8,.k,.k]),(3,.own .d .int),(4,.k)],[.pb 1 0,.rt 2,.i .i64],[.ext,.box (af_.p .v),.arr .d .int 2]⟩
def od156:OD:=⟨[(3,.own .d .int)],[.rt 2],[.ext,.box (af_.p .v),.arr .d .int 2]⟩
def rd68:RD:=⟨(List Int) × af_,[.sl .d .int,.bx (af_.p .v)],fun (a0,a1,_)=>(a0,(af_.of a1)),fun (a0,a1)=>(a0,af_.to a1,())⟩
def aM_.e:FE:=mkE rd68 67 19 2 [.bx (af_.p .v)] [.tmp 2] [.pb 1 0] [(4,od155)] [(0,od156)] fun n (a0,_)=>aM_ n (af_.of a0)
def rd69:RD:=⟨Bs × (List Int),[.s,.sl .d .int],fun (a0,a1,_)=>(a0,a1),fun (a0,a1)=>(a0,a1,())⟩
def dg_.e:FE:=mkE rd69 22 12 1 [.sl .v .u8] [.tmp 2,.tmp 3] [] [] [] (un1 dg_)
def od157:OD:=⟨[(0,.k),(5,.own .d .str),(10,.view .int),(11,.k),(12,.k)],[.s,.rt 1,.sl .v .int,.i .i64,.i .i64],[.ext,.arr .d .str 2]⟩
def od158:OD:=⟨[(0,.k),(5,.own .d .str)],[.s,.rt 1],[.ext,.arr .d .str 2]⟩
def b6_.e:FE:=mkE rd30 23 38 1 [.s,.sl .v .int] [.tmp 4] [] [(4,od157)] [(0,od158)] (un2 b6_)
def od159:OD:=⟨[(2,.box [.k,.k]),(4,.box [.k,.k]),(6,.own .d .iEvent),(12,.view .str),(13,.k),(14,.k)],[.pb 1 0,.pb 2 0,.rt 3,.sl .v .str,.i .i64,.i .i64],[.ext,.box (aC_.p .v),.box (aC_.p .v),.arr .d .iEvent 2]⟩
def od160:OD:=⟨[(2,.box [.k,.k]),(4,.box [.k,.k]),(6,.own .d .iEvent)],[.pb 1 0,.pb 2 0,.rt 3],[.ext,.box (aC_.p .v),.box (aC_.p .v),.arr .d .iEvent 2]⟩
def bN_.e:FE:=mkE rd57 27 31 1 [.ag (aC_.p .v),.sl .v .str] [.cell 4 51,.tmp 5] [] [(4,od159)] [(0,od160)] fun n (a0,a1,_)=>bN_ n (aC_.of a0) a1
def od161:OD:=⟨[(6,.own .d .iEvent),(12,.own .d .iEvent),(13,.k)],[.rt 1,.rt 2,.i .i64],[.ext,.arr .d .iEvent 2,.arr .d .iEvent 2]⟩
def od162:OD:=⟨[(6,.own .d .iEvent),(12,.own .d .iEvent)],[.rt 1,.rt 2],[.ext,.arr .d .iEvent 2,.arr .d .iEvent 2]⟩
def laws_FnPieces.e:FE:=mkE rd0 6 116 1 [.sl .v .u8] [.tmp 2] [] [(20,od161)] [(0,od162)] (un1 laws_FnPieces)
def ents:List FE:=[laws_FnPieces.e,gc_.e,c5_.e,da_.e,ed_.e,cQ_.e,ad_.e,dg_.e,b6_.e,bN_.e,bt_.e,cd_.e,cs_.e,cf_.e,an_.e,ac_.e,a7_.e,eb_.e,bq_.e,eg_.e,dr_.e,bv_.e,aV_.e,cY_.e,bQ_.e,db_.e,aN_.e,dZ_.e,dB_.e,dm_.e,c2_.e,dF_.e,bo_.e,cK_.e,dG_.e,dY_.e,bg_.e,a2_.e,aM_.e,eQ_.e,cL_.e,aT_.e,cA_.e,strings_Index.e,b3_.e,aP_.e,d9_.e,ai_.e,df_.e,bD_.e,aB_.e,dW_.e,bH_.e,do_.e,dc_.e,cF_.e,bO_.e,dA_.e,c7_.e,b8_.e,aq_.e,cS_.e,strconv_Itoa.e,bc_.e,eh_.e,aO_.e,dX_.e,cP_.e,dq_.e,cR_.e,dI_.e,cJ_.e,b1_.e,as_.e,aE_.e,bS_.e,dU_.e,dj_.e,a4_.e,dy_.e,ca_.e,dO_.e,aL_.e,a1_.e,b4_.e,dR_.e,ea_.e,dk_.e,d8_.e,c9_.e,cX_.e,bC_.e,bz_.e,eA_.e,du_.e,aU_.e,bK_.e,cw_.e,aR_.e,cv_.e,b0_.e,strings_Join.e,dl_.e,bV_.e,ef_.e,bx_.e,aF_.e,bU_.e,ew_.e,aZ_.e,bJ_.e,d0_.e,cW_.e,ce_.e,aH_.e,aY_.e,a3_.e,dt_.e,bI_.e,a6_.e,aA_.e,ee_.e,bM_.e,aQ_.e,cl_.e,bd_.e,a5_.e,dx_.e,eR_.e,bu_.e,cg_.e,e0_.e,bZ_.e,b5_.e,eS_.e,fh_.e,de_.e,eU_.e,ay_.e,b7_.e,ag_.e,strings_ReplaceAll.e,bn_.e,co_.e,bw_.e,c1_.e,av_.e,am_.e,ap_.e,er_.e,bE_.e,aG_.e,dP_.e,bl_.e,ck_.e,cz_.e,bT_.e,bX_.e,dw_.e,bR_.e,dd_.e,c6_.e,b9_.e,bL_.e,b2_.e,ex_.e,aK_.e,aI_.e,cn_.e,bW_.e,bp_.e,au_.e,d6_.e,cq_.e,strings_Split.e,dQ_.e,eB_.e,cy_.e,c8_.e,dv_.e,aJ_.e,ah_.e]
def fzL:List Nat:=[21,31,37,39,40,53,59,60,65,66,67,70,71,74,75,76,77,78,79,80,81,84,85,87,99,106,115,116,117,120,126,127,128,162,163,166,168,173,179,180,219,221,222,227]
def cx (n nt:Nat):Cx:=⟨nt,tt,sigE ents,KE n ents,fun f=>fzL.any (Nat.beq f)⟩
theorem okk {n:Nat} {e:FE} {fn:Func} (s:Stps e.R e.d.cut) (hfn:E.P.funcs[e.d.fid]?=some fn) (h:e.L (cx n e.d.nt) fn n s=e.Q (cx n e.d.nt) fn (e.F (n+1)) s):e.Oks E (cx n) n:=FE.ok s mixedOk hfn h
end Go.Pi
end
section
namespace Go.Pi
open Go.Proofs
theorem gc_.ok (n:Nat):gc_.e.Oks E (cx n) n:=okk () Tryz.func8 (by kernel_rfl)
theorem cf_.ok (n:Nat):cf_.e.Oks E (cx n) n:=okk (.lp fun κe=>cf_.step4 n (od1.k (κe 0)),()) Tryz.func37 (by kernel_rfl)
theorem do_.ok (n:Nat):do_.e.Oks E (cx n) n:=okk () Tryz.func84 (by kernel_rfl)
theorem an_.ok (n:Nat):an_.e.Oks E (cx n) n:=okk () Tryz.func39 (by kernel_rfl)
theorem cA_.ok (n:Nat):cA_.e.Oks E (cx n) n:=okk () Tryz.func71 (by kernel_rfl)
theorem dF_.ok (n:Nat):dF_.e.Oks E (cx n) n:=okk () Tryz.func60 (by kernel_rfl)
theorem bH_.ok (n:Nat):bH_.e.Oks E (cx n) n:=okk () Tryz.func81 (by kernel_rfl)
theorem dc_.ok (n:Nat):dc_.e.Oks E (cx n) n:=okk () Tryz.func85 (by kernel_rfl)
theorem cF_.ok (n:Nat):cF_.e.Oks E (cx n) n:=okk (.lp fun κe=>cF_.step3 n (od3.k (κe 0)),()) Tryz.func86 (by kernel_rfl)
theorem bO_.ok (n:Nat):bO_.e.Oks E (cx n) n:=okk (.lp fun κe=>bO_.step5 n (od5.k (κe 0)),()) Tryz.func87 (by kernel_rfl)
theorem ac_.ok (n:Nat):ac_.e.Oks E (cx n) n:=okk (.lp fun κe=>ac_.step20 n (ac_ n) (od8.k (κe 1)),.lp fun κe=>ac_.step28 n (ac_ n) (od9.k (κe 3)),()) Tryz.func40 (by kernel_rfl)
theorem aL_.ok (n:Nat):aL_.e.Oks E (cx n) n:=okk (.lp fun κe=>aL_.step4 n (od11.k (κe 0)),()) Tryz.func115 (by kernel_rfl)
theorem b8_.ok (n:Nat):b8_.e.Oks E (cx n) n:=okk () Tryz.func91 (by kernel_rfl)
theorem a3_.ok (n:Nat):a3_.e.Oks E (cx n) n:=okk (.lp fun κe=>a3_.step3 n (od13.k (κe 0)),()) Tryz.func160 (by kernel_rfl)
theorem dt_.ok (n:Nat):dt_.e.Oks E (cx n) n:=okk () Tryz.func161 (by kernel_rfl)
theorem dO_.ok (n:Nat):dO_.e.Oks E (cx n) n:=okk () Tryz.func114 (by kernel_rfl)
theorem a6_.ok (n:Nat):a6_.e.Oks E (cx n) n:=okk (.lp fun κe=>a6_.step4 n (od15.k (κe 0)),()) Tryz.func163 (by kernel_rfl)
theorem ck_.ok (n:Nat):ck_.e.Oks E (cx n) n:=okk (.lp fun κe=>ck_.step3 n (od3.k (κe 0)),()) Tryz.func216 (by kernel_rfl)
theorem cz_.ok (n:Nat):cz_.e.Oks E (cx n) n:=okk () Tryz.func217 (by kernel_rfl)
theorem bl_.ok (n:Nat):bl_.e.Oks E (cx n) n:=okk (.lp fun κe=>bl_.step5 n (od18.k (κe 0)),()) Tryz.func215 (by kernel_rfl)
theorem bI_.ok (n:Nat):bI_.e.Oks E (cx n) n:=okk (.lp fun κe=>bI_.step6 n (od20.k (κe 0)),()) Tryz.func162 (by kernel_rfl)
theorem a1_.ok (n:Nat):a1_.e.Oks E (cx n) n:=okk (.lp fun κe=>a1_.step4 n (od22.k (κe 0)),()) Tryz.func116 (by kernel_rfl)
theorem aP_.ok (n:Nat):aP_.e.Oks E (cx n) n:=okk (.lp fun κe=>aP_.step4 n (od24.k (κe 0)),()) Tryz.func74 (by kernel_rfl)
theorem cL_.ok (n:Nat):cL_.e.Oks E (cx n) n:=okk () Tryz.func69 (by kernel_rfl)
theorem ai_.ok (n:Nat):ai_.e.Oks E (cx n) n:=okk (.lp fun κe=>ai_.step7 n (od27.k (κe 0)),.lp fun κe=>ai_.step16 n (od28.k (κe 2)),()) Tryz.func76 (by kernel_rfl)
theorem cn_.ok (n:Nat):cn_.e.Oks E (cx n) n:=okk (.lp fun κe=>cn_.step6 n (od3.k (κe 0)),()) Tryz.func230 (by kernel_rfl)
theorem b5_.ok (n:Nat):b5_.e.Oks E (cx n) n:=okk (.lp fun κe=>b5_.step3 n (od31.k (κe 0)),()) Tryz.func177 (by kernel_rfl)
theorem bC_.ok (n:Nat):bC_.e.Oks E (cx n) n:=okk (.lp fun κe=>bC_.step6 n (od3.k (κe 0)),()) Tryz.func124 (by kernel_rfl)
theorem aA_.ok (n:Nat):aA_.e.Oks E (cx n) n:=okk (.lp fun κe=>aA_.step7 n (od35.k (κe 0)),.lp fun κe=>aA_.step16 n (od35.k (κe 2)),()) Tryz.func164 (by kernel_rfl)
theorem ee_.ok (n:Nat):ee_.e.Oks E (cx n) n:=okk () Tryz.func165 (by kernel_rfl)
theorem dQ_.ok (n:Nat):dQ_.e.Oks E (cx n) n:=okk () Tryz.func255 (by kernel_rfl)
theorem bT_.ok (n:Nat):bT_.e.Oks E (cx n) n:=okk (.lp fun κe=>bT_.step3 n (od3.k (κe 0)),()) Tryz.func218 (by kernel_rfl)
theorem bW_.ok (n:Nat):bW_.e.Oks E (cx n) n:=okk () Tryz.func231 (by kernel_rfl)
theorem eB_.ok (n:Nat):eB_.e.Oks E (cx n) n:=okk () Tryz.func256 (by kernel_rfl)
theorem bX_.ok (n:Nat):bX_.e.Oks E (cx n) n:=okk (.lp fun κe=>bX_.step5 n (od38.k (κe 0)),()) Tryz.func219 (by kernel_rfl)
theorem bM_.ok (n:Nat):bM_.e.Oks E (cx n) n:=okk (.lp fun κe=>bM_.step8 n (od40.k (κe 0)),()) Tryz.func166 (by kernel_rfl)
theorem aQ_.ok (n:Nat):aQ_.e.Oks E (cx n) n:=okk (.lp fun κe=>aQ_.step5 n (od42.k (κe 0)),()) Tryz.func167 (by kernel_rfl)
theorem b4_.ok (n:Nat):b4_.e.Oks E (cx n) n:=okk (.lp fun κe=>b4_.step8 n (od44.k (κe 0)),()) Tryz.func117 (by kernel_rfl)
theorem d9_.ok (n:Nat):d9_.e.Oks E (cx n) n:=okk () Tryz.func75 (by kernel_rfl)
theorem bZ_.ok (n:Nat):bZ_.e.Oks E (cx n) n:=okk (.lp fun κe=>bZ_.step4 n (od46.k (κe 0)),()) Tryz.func176 (by kernel_rfl)
theorem cX_.ok (n:Nat):cX_.e.Oks E (cx n) n:=okk () Tryz.func123 (by kernel_rfl)
theorem dR_.ok (n:Nat):dR_.e.Oks E (cx n) n:=okk () Tryz.func118 (by kernel_rfl)
theorem b9_.ok (n:Nat):b9_.e.Oks E (cx n) n:=okk (.lp fun κe=>b9_.step3 n (od3.k (κe 0)),()) Tryz.func224 (by kernel_rfl)
theorem bd_.ok (n:Nat):bd_.e.Oks E (cx n) n:=okk (.lp fun κe=>bd_.step4 n (od49.k (κe 0)),()) Tryz.func169 (by kernel_rfl)
theorem eQ_.ok (n:Nat):eQ_.e.Oks E (cx n) n:=okk () Tryz.func68 (by kernel_rfl)
theorem dw_.ok (n:Nat):dw_.e.Oks E (cx n) n:=okk () Tryz.func220 (by kernel_rfl)
theorem aV_.ok (n:Nat):aV_.e.Oks E (cx n) n:=okk (.lp fun κe=>aV_.step7 n (od51.k (κe 0)),()) Tryz.func51 (by kernel_rfl)
theorem c6_.ok (n:Nat):c6_.e.Oks E (cx n) n:=okk () Tryz.func223 (by kernel_rfl)
theorem bR_.ok (n:Nat):bR_.e.Oks E (cx n) n:=okk (.lp fun κe=>bR_.step4 n (od53.k (κe 0)),()) Tryz.func221 (by kernel_rfl)
theorem b7_.ok (n:Nat):b7_.e.Oks E (cx n) n:=okk (.lp fun κe=>b7_.step3 n (od55.k (κe 0)),()) Tryz.func188 (by kernel_rfl)
theorem ag_.ok (n:Nat):ag_.e.Oks E (cx n) n:=okk (.lp fun κe=>ag_.step6 n (od57.k (κe 0)),()) Tryz.func189 (by kernel_rfl)
theorem aR_.ok (n:Nat):aR_.e.Oks E (cx n) n:=okk (.lp fun κe=>aR_.step23 n (aR_ n) (od59.k (κe 1)),()) Tryz.func134 (by kernel_rfl)
theorem cS_.ok (n:Nat):cS_.e.Oks E (cx n) n:=okk () Tryz.func93 (by kernel_rfl)
theorem dd_.ok (n:Nat):dd_.e.Oks E (cx n) n:=okk () Tryz.func222 (by kernel_rfl)
theorem cl_.ok (n:Nat):cl_.e.Oks E (cx n) n:=okk (.lp fun κe=>cl_.step4 n (od61.k (κe 0)),()) Tryz.func168 (by kernel_rfl)
theorem dk_.ok (n:Nat):dk_.e.Oks E (cx n) n:=okk () Tryz.func120 (by kernel_rfl)
theorem aq_.ok (n:Nat):aq_.e.Oks E (cx n) n:=okk (.lp fun κe=>aq_.step6 n (aq_ n) (od64.k (κe 0)),.lp fun κe=>aq_.step14 n (aq_ n) (od3.k (κe 2)),()) Tryz.func92 (by kernel_rfl)
theorem dy_.ok (n:Nat):dy_.e.Oks E (cx n) n:=okk () Tryz.func112 (by kernel_rfl)
theorem ea_.ok (n:Nat):ea_.e.Oks E (cx n) n:=okk () Tryz.func119 (by kernel_rfl)
theorem bL_.ok (n:Nat):bL_.e.Oks E (cx n) n:=okk (.lp fun κe=>bL_.step3 n (od66.k (κe 0)),()) Tryz.func225 (by kernel_rfl)
theorem b2_.ok (n:Nat):b2_.e.Oks E (cx n) n:=okk (.lp fun κe=>b2_.step3 n (od68.k (κe 0)),()) Tryz.func226 (by kernel_rfl)
theorem dx_.ok (n:Nat):dx_.e.Oks E (cx n) n:=okk () Tryz.func171 (by kernel_rfl)
theorem eR_.ok (n:Nat):eR_.e.Oks E (cx n) n:=okk () Tryz.func172 (by kernel_rfl)
theorem ex_.ok (n:Nat):ex_.e.Oks E (cx n) n:=okk () Tryz.func227 (by kernel_rfl)
theorem bu_.ok (n:Nat):bu_.e.Oks E (cx n) n:=okk (.lp fun κe=>bu_.step5 n (od70.k (κe 0)),()) Tryz.func173 (by kernel_rfl)
theorem cy_.ok (n:Nat):cy_.e.Oks E (cx n) n:=okk (.lp fun κe=>cy_.step3 n (od3.k (κe 0)),()) Tryz.func257 (by kernel_rfl)
theorem aK_.ok (n:Nat):aK_.e.Oks E (cx n) n:=okk (.lp fun κe=>aK_.step3 n (od74.k (κe 0)),.lp fun κe=>aK_.step11 n (od74.k (κe 2)),()) Tryz.func228 (by kernel_rfl)
theorem c8_.ok (n:Nat):c8_.e.Oks E (cx n) n:=okk () Tryz.func258 (by kernel_rfl)
theorem bq_.ok (n:Nat):bq_.e.Oks E (cx n) n:=okk (.lp fun κe=>bq_.step4 n (bq_ n) (od76.k (κe 0)),()) Tryz.func46 (by kernel_rfl)
theorem dv_.ok (n:Nat):dv_.e.Oks E (cx n) n:=okk () Tryz.func259 (by kernel_rfl)
theorem aI_.ok (n:Nat):aI_.e.Oks E (cx n) n:=okk (.lp fun κe=>aI_.step5 n (od79.k (κe 0)),.lp fun κe=>aI_.step13 n (od80.k (κe 2)),()) Tryz.func229 (by kernel_rfl)
theorem e0_.ok (n:Nat):e0_.e.Oks E (cx n) n:=okk () Tryz.func175 (by kernel_rfl)
theorem cg_.ok (n:Nat):cg_.e.Oks E (cx n) n:=okk (.lp fun κe=>cg_.step4 n (od82.k (κe 0)),()) Tryz.func174 (by kernel_rfl)
theorem c9_.ok (n:Nat):c9_.e.Oks E (cx n) n:=okk () Tryz.func122 (by kernel_rfl)
theorem cv_.ok (n:Nat):cv_.e.Oks E (cx n) n:=okk (.lp fun κe=>cv_.step6 n (od84.k (κe 0)),()) Tryz.func135 (by kernel_rfl)
theorem dj_.ok (n:Nat):dj_.e.Oks E (cx n) n:=okk () Tryz.func110 (by kernel_rfl)
theorem aF_.ok (n:Nat):aF_.e.Oks E (cx n) n:=okk (.lp fun κe=>aF_.step10 n (od85.k (κe 2)),.lp fun κe=>aF_.step4 n (od87.k (κe 0)),()) Tryz.func144 (by kernel_rfl)
theorem dX_.ok (n:Nat):dX_.e.Oks E (cx n) n:=okk () Tryz.func99 (by kernel_rfl)
theorem bx_.ok (n:Nat):bx_.e.Oks E (cx n) n:=okk (.lp fun κe=>bx_.step4 n (od87.k (κe 0)),()) Tryz.func143 (by kernel_rfl)
theorem aO_.ok (n:Nat):aO_.e.Oks E (cx n) n:=okk (.lp fun κe=>aO_.step17 n (aO_ n) (od90.k (κe 1)),()) Tryz.func98 (by kernel_rfl)
theorem cY_.ok (n:Nat):cY_.e.Oks E (cx n) n:=okk () Tryz.func52 (by kernel_rfl)
theorem a5_.ok (n:Nat):a5_.e.Oks E (cx n) n:=okk (.lp fun κe=>a5_.step4 n (od92.k (κe 0)),()) Tryz.func170 (by kernel_rfl)
theorem d8_.ok (n:Nat):d8_.e.Oks E (cx n) n:=okk () Tryz.func121 (by kernel_rfl)
theorem df_.ok (n:Nat):df_.e.Oks E (cx n) n:=okk () Tryz.func77 (by kernel_rfl)
theorem du_.ok (n:Nat):du_.e.Oks E (cx n) n:=okk () Tryz.func127 (by kernel_rfl)
theorem eS_.ok (n:Nat):eS_.e.Oks E (cx n) n:=okk () Tryz.func178 (by kernel_rfl)
theorem bz_.ok (n:Nat):bz_.e.Oks E (cx n) n:=okk (.lp fun κe=>bz_.step4 n (od94.k (κe 0)),()) Tryz.func125 (by kernel_rfl)
theorem fh_.ok (n:Nat):fh_.e.Oks E (cx n) n:=okk () Tryz.func179 (by kernel_rfl)
theorem eA_.ok (n:Nat):eA_.e.Oks E (cx n) n:=okk () Tryz.func126 (by kernel_rfl)
theorem aB_.ok (n:Nat):aB_.e.Oks E (cx n) n:=okk (.tl fun κd _=>aB_.tail9 n (od95.k κd),.lp fun κe=>aB_.step5 n (od97.k (κe 0)),()) Tryz.func79 (by kernel_rfl)
theorem bD_.ok (n:Nat):bD_.e.Oks E (cx n) n:=okk (.lp fun κe=>bD_.step12 n (od99.k (κe 0)),()) Tryz.func78 (by kernel_rfl)
theorem de_.ok (n:Nat):de_.e.Oks E (cx n) n:=okk () Tryz.func180 (by kernel_rfl)
theorem aU_.ok (n:Nat):aU_.e.Oks E (cx n) n:=okk (.lp fun κe=>aU_.step4 n (od101.k (κe 0)),()) Tryz.func128 (by kernel_rfl)
theorem dW_.ok (n:Nat):dW_.e.Oks E (cx n) n:=okk () Tryz.func80 (by kernel_rfl)
theorem as_.ok (n:Nat):as_.e.Oks E (cx n) n:=okk (.tl fun κd _=>as_.tail10 n (od103.k κd),.lp fun κe=>as_.step5 n (od105.k (κe 0)),.tl fun _ _=>as_.tail1 n,()) Tryz.func106 (by kernel_rfl)
theorem c2_.ok (n:Nat):c2_.e.Oks E (cx n) n:=okk () Tryz.func59 (by kernel_rfl)
theorem bQ_.ok (n:Nat):bQ_.e.Oks E (cx n) n:=okk (.lp fun κe=>bQ_.step4 n (od107.k (κe 0)),()) Tryz.func53 (by kernel_rfl)
theorem eb_.ok (n:Nat):eb_.e.Oks E (cx n) n:=okk () Tryz.func45 (by kernel_rfl)
theorem da_.ok (n:Nat):da_.e.Oks E (cx n) n:=okk () Tryz.func17 (by kernel_rfl)
theorem aT_.ok (n:Nat):aT_.e.Oks E (cx n) n:=okk (.lp fun κe=>aT_.step4 n (od109.k (κe 0)),()) Tryz.func70 (by kernel_rfl)
theorem bt_.ok (n:Nat):bt_.e.Oks E (cx n) n:=okk (.lp fun κe=>bt_.step11 n (od111.k (κe 1)),()) Tryz.func29 (by kernel_rfl)
theorem bn_.ok (n:Nat):bn_.e.Oks E (cx n) n:=okk () Tryz.func197 (by kernel_rfl)
theorem bU_.ok (n:Nat):bU_.e.Oks E (cx n) n:=okk () Tryz.func145 (by kernel_rfl)
theorem cP_.ok (n:Nat):cP_.e.Oks E (cx n) n:=okk () Tryz.func100 (by kernel_rfl)
theorem co_.ok (n:Nat):co_.e.Oks E (cx n) n:=okk () Tryz.func198 (by kernel_rfl)
theorem ew_.ok (n:Nat):ew_.e.Oks E (cx n) n:=okk () Tryz.func146 (by kernel_rfl)
theorem bJ_.ok (n:Nat):bJ_.e.Oks E (cx n) n:=okk () Tryz.func150 (by kernel_rfl)
theorem cJ_.ok (n:Nat):cJ_.e.Oks E (cx n) n:=okk () Tryz.func104 (by kernel_rfl)
theorem dq_.ok (n:Nat):dq_.e.Oks E (cx n) n:=okk () Tryz.func101 (by kernel_rfl)
theorem bw_.ok (n:Nat):bw_.e.Oks E (cx n) n:=okk () Tryz.func204 (by kernel_rfl)
theorem c1_.ok (n:Nat):c1_.e.Oks E (cx n) n:=okk () Tryz.func205 (by kernel_rfl)
theorem cq_.ok (n:Nat):cq_.e.Oks E (cx n) n:=okk () Tryz.func253 (by kernel_rfl)
theorem av_.ok (n:Nat):av_.e.Oks E (cx n) n:=okk (.lp fun κe=>av_.step4 n (od113.k (κe 0)),()) Tryz.func206 (by kernel_rfl)
theorem am_.ok (n:Nat):am_.e.Oks E (cx n) n:=okk (.lp fun κe=>am_.step7 n (aZ_ n) (od115.k (κe 0)),()) Tryz.func207 (by kernel_rfl)
theorem aN_.ok (n:Nat):aN_.e.Oks E (cx n) n:=okk () Tryz.func55 (by kernel_rfl)
theorem ap_.ok (n:Nat):ap_.e.Oks E (cx n) n:=okk (.lp fun κe=>ap_.step3 n (od116.k (κe 0)),()) Tryz.func208 (by kernel_rfl)
theorem aZ_.ok (n:Nat):aZ_.e.Oks E (cx n) n:=okk () Tryz.func149 (by kernel_rfl)
theorem bp_.ok (n:Nat):bp_.e.Oks E (cx n) n:=okk () Tryz.func233 (by kernel_rfl)
theorem ay_.ok (n:Nat):ay_.e.Oks E (cx n) n:=okk (.lp fun κe=>ay_.step3 n (od55.k (κe 0)),()) Tryz.func183 (by kernel_rfl)
theorem au_.ok (n:Nat):au_.e.Oks E (cx n) n:=okk (.lp fun κe=>au_.step3 n (od3.k (κe 0)),()) Tryz.func234 (by kernel_rfl)
theorem eU_.ok (n:Nat):eU_.e.Oks E (cx n) n:=okk () Tryz.func182 (by kernel_rfl)
theorem bK_.ok (n:Nat):bK_.e.Oks E (cx n) n:=okk (.lp fun κe=>bK_.step7 n (bK_ n) (od120.k (κe 0)),()) Tryz.func131 (by kernel_rfl)
theorem c7_.ok (n:Nat):c7_.e.Oks E (cx n) n:=okk () Tryz.func89 (by kernel_rfl)
theorem b0_.ok (n:Nat):b0_.e.Oks E (cx n) n:=okk (.lp fun κe=>b0_.step4 n (od87.k (κe 0)),()) Tryz.func138 (by kernel_rfl)
theorem bc_.ok (n:Nat):bc_.e.Oks E (cx n) n:=okk (.lp fun κe=>bc_.step4 n (bc_ n) (od123.k (κe 0)),()) Tryz.func96 (by kernel_rfl)
theorem dr_.ok (n:Nat):dr_.e.Oks E (cx n) n:=okk () Tryz.func49 (by kernel_rfl)
theorem dI_.ok (n:Nat):dI_.e.Oks E (cx n) n:=okk () Tryz.func103 (by kernel_rfl)
theorem aG_.ok (n:Nat):aG_.e.Oks E (cx n) n:=okk (.lp fun κe=>aG_.step3 n (od3.k (κe 0)),()) Tryz.func211 (by kernel_rfl)
theorem dA_.ok (n:Nat):dA_.e.Oks E (cx n) n:=okk () Tryz.func88 (by kernel_rfl)
theorem a7_.ok (n:Nat):a7_.e.Oks E (cx n) n:=okk (.lp fun κe=>a7_.step4 n (a7_ n) (od76.k (κe 0)),()) Tryz.func42 (by kernel_rfl)
theorem er_.ok (n:Nat):er_.e.Oks E (cx n) n:=okk () Tryz.func209 (by kernel_rfl)
theorem bV_.ok (n:Nat):bV_.e.Oks E (cx n) n:=okk (.lp fun κe=>bV_.step4 n (od127.k (κe 0)),()) Tryz.func141 (by kernel_rfl)
theorem bE_.ok (n:Nat):bE_.e.Oks E (cx n) n:=okk (.lp fun κe=>bE_.step7 n (od129.k (κe 0)),()) Tryz.func210 (by kernel_rfl)
theorem dl_.ok (n:Nat):dl_.e.Oks E (cx n) n:=okk () Tryz.func140 (by kernel_rfl)
theorem dZ_.ok (n:Nat):dZ_.e.Oks E (cx n) n:=okk () Tryz.func56 (by kernel_rfl)
theorem cw_.ok (n:Nat):cw_.e.Oks E (cx n) n:=okk (.lp fun κe=>cw_.step3 n (od84.k (κe 0)),()) Tryz.func132 (by kernel_rfl)
theorem ef_.ok (n:Nat):ef_.e.Oks E (cx n) n:=okk () Tryz.func142 (by kernel_rfl)
theorem eh_.ok (n:Nat):eh_.e.Oks E (cx n) n:=okk () Tryz.func97 (by kernel_rfl)
theorem aJ_.ok (n:Nat):aJ_.e.Oks E (cx n) n:=okk (.lp fun κe=>aJ_.step6 n (od3.k (κe 0)),()) Tryz.func260 (by kernel_rfl)
theorem ah_.ok (n:Nat):ah_.e.Oks E (cx n) n:=okk (.lp fun κe=>ah_.step6 n (d6_ n) (od3.k (κe 0)),()) Tryz.func261 (by kernel_rfl)
theorem d6_.ok (n:Nat):d6_.e.Oks E (cx n) n:=okk () Tryz.func235 (by kernel_rfl)
theorem dP_.ok (n:Nat):dP_.e.Oks E (cx n) n:=okk () Tryz.func212 (by kernel_rfl)
theorem d0_.ok (n:Nat):d0_.e.Oks E (cx n) n:=okk () Tryz.func151 (by kernel_rfl)
theorem b1_.ok (n:Nat):b1_.e.Oks E (cx n) n:=okk (.lp fun κe=>b1_.step4 n (od134.k (κe 0)),()) Tryz.func105 (by kernel_rfl)
theorem dm_.ok (n:Nat):dm_.e.Oks E (cx n) n:=okk () Tryz.func58 (by kernel_rfl)
theorem db_.ok (n:Nat):db_.e.Oks E (cx n) n:=okk () Tryz.func54 (by kernel_rfl)
theorem bv_.ok (n:Nat):bv_.e.Oks E (cx n) n:=okk (.lp fun κe=>bv_.step4 n (od136.k (κe 0)),()) Tryz.func50 (by kernel_rfl)
theorem dB_.ok (n:Nat):dB_.e.Oks E (cx n) n:=okk () Tryz.func57 (by kernel_rfl)
theorem ed_.ok (n:Nat):ed_.e.Oks E (cx n) n:=okk () Tryz.func18 (by kernel_rfl)
theorem eg_.ok (n:Nat):eg_.e.Oks E (cx n) n:=okk () Tryz.func48 (by kernel_rfl)
theorem c5_.ok (n:Nat):c5_.e.Oks E (cx n) n:=okk () Tryz.func16 (by kernel_rfl)
theorem cQ_.ok (n:Nat):cQ_.e.Oks E (cx n) n:=okk () Tryz.func19 (by kernel_rfl)
theorem cd_.ok (n:Nat):cd_.e.Oks E (cx n) n:=okk (.lp fun κe=>cd_.step5 n (od137.k (κe 0)),()) Tryz.func30 (by kernel_rfl)
theorem b3_.ok (n:Nat):b3_.e.Oks E (cx n) n:=okk (.lp fun κe=>b3_.step3 n (od3.k (κe 0)),()) Tryz.func73 (by kernel_rfl)
theorem bo_.ok (n:Nat):bo_.e.Oks E (cx n) n:=okk (.lp fun κe=>bo_.step5 n (od139.k (κe 0)),()) Tryz.func61 (by kernel_rfl)
theorem cK_.ok (n:Nat):cK_.e.Oks E (cx n) n:=okk () Tryz.func62 (by kernel_rfl)
theorem cW_.ok (n:Nat):cW_.e.Oks E (cx n) n:=okk () Tryz.func152 (by kernel_rfl)
theorem aE_.ok (n:Nat):aE_.e.Oks E (cx n) n:=okk (.lp fun κe=>aE_.step7 n (od140.k (κe 0)),()) Tryz.func107 (by kernel_rfl)
theorem dG_.ok (n:Nat):dG_.e.Oks E (cx n) n:=okk () Tryz.func63 (by kernel_rfl)
theorem ce_.ok (n:Nat):ce_.e.Oks E (cx n) n:=okk () Tryz.func153 (by kernel_rfl)
theorem aH_.ok (n:Nat):aH_.e.Oks E (cx n) n:=okk (.lp fun κe=>aH_.step4 n (od141.k (κe 0)),()) Tryz.func154 (by kernel_rfl)
theorem aY_.ok (n:Nat):aY_.e.Oks E (cx n) n:=okk (.lp fun κe=>aY_.step8 n (bS_ n) (od143.k (κe 0)),()) Tryz.func155 (by kernel_rfl)
theorem bS_.ok (n:Nat):bS_.e.Oks E (cx n) n:=okk () Tryz.func108 (by kernel_rfl)
theorem dY_.ok (n:Nat):dY_.e.Oks E (cx n) n:=okk () Tryz.func64 (by kernel_rfl)
theorem dU_.ok (n:Nat):dU_.e.Oks E (cx n) n:=okk () Tryz.func109 (by kernel_rfl)
theorem a4_.ok (n:Nat):a4_.e.Oks E (cx n) n:=okk (.lp fun κe=>a4_.step6 n (od145.k (κe 0)),()) Tryz.func111 (by kernel_rfl)
theorem bg_.ok (n:Nat):bg_.e.Oks E (cx n) n:=okk (.lp fun κe=>bg_.step7 n (od148.k (κe 0)),.tl fun _ _=>bg_.tail15 n,()) Tryz.func65 (by kernel_rfl)
theorem ad_.ok (n:Nat):ad_.e.Oks E (cx n) n:=okk (.lp fun κe=>ad_.step20 n (od149.k (κe 3)),.lp fun κe=>ad_.step5 n (od151.k (κe 0)),()) Tryz.func21 (by kernel_rfl)
theorem cs_.ok (n:Nat):cs_.e.Oks E (cx n) n:=okk (.lp fun κe=>cs_.step8 n (od152.k (κe 0)),()) Tryz.func31 (by kernel_rfl)
theorem a2_.ok (n:Nat):a2_.e.Oks E (cx n) n:=okk (.lp fun κe=>a2_.step4 n (od154.k (κe 0)),()) Tryz.func66 (by kernel_rfl)
theorem aM_.ok (n:Nat):aM_.e.Oks E (cx n) n:=okk (.lp fun κe=>aM_.step4 n (od156.k (κe 0)),()) Tryz.func67 (by kernel_rfl)
theorem dg_.ok (n:Nat):dg_.e.Oks E (cx n) n:=okk () Tryz.func22 (by kernel_rfl)
theorem b6_.ok (n:Nat):b6_.e.Oks E (cx n) n:=okk (.lp fun κe=>b6_.step4 n (od158.k (κe 0)),()) Tryz.func23 (by kernel_rfl)
theorem bN_.ok (n:Nat):bN_.e.Oks E (cx n) n:=okk (.lp fun κe=>bN_.step4 n (od160.k (κe 0)),()) Tryz.func27 (by kernel_rfl)
theorem laws_FnPieces.ok (n:Nat):laws_FnPieces.e.Oks E (cx n) n:=okk (.lp fun κe=>laws_FnPieces.step20 n (od162.k (κe 0)),()) Tryz.func6 (by kernel_rfl)
end Go.Pi
end
section
namespace Go.Pi
variable [aj_]
open aj_
variable {E:Env} {w w':World} {F F':Nat→Prop}
end Go.Pi
end
section
namespace Go.Proofs
open Go.Shelf Go.RowKit Go.Lib Go.Pi
section
variable {P:Program}
end
end Go.Proofs
end
section
namespace Go.Proofs
open Go.Shelf
def Tryz.lays143_ren:Go.Shelf.Ren:=⟨fun|143=>72|219=>113|217=>156|225=>157|224=>158|267=>159|266=>213|314=>214|n=>n,fun|9=>9|3=>3|4=>4|5=>5|46=>184|146=>243|51=>242|n=>n,fun|1=>0|n=>n⟩
theorem Tryz.lays143:Go.Proofs.Lays.n143 Tryz.prog Tryz.lays143_ren:={
 mixed:=by kernel_rfl
 f143:=Tryz.func72.trans (congrArg some (by kernel_rfl))
 f217:=Tryz.func156.trans (congrArg some (by kernel_rfl))
 f219:=Tryz.func113.trans (congrArg some (by kernel_rfl))
 f224:=Tryz.func158.trans (congrArg some (by kernel_rfl))
 f225:=Tryz.func157.trans (congrArg some (by kernel_rfl))
 f266:=Tryz.func213.trans (congrArg some (by kernel_rfl))
 f267:=Tryz.func159.trans (congrArg some (by kernel_rfl))
 f314:=Tryz.func214.trans (congrArg some (by kernel_rfl))
 t3:=Tryz.underlying3
 a3:=Tryz.isAgg3
 z3:=Tryz.sizeOf3
 v3:=Tryz.zeroValue3
 t4:=Tryz.underlying4
 a4:=Tryz.isAgg4
 z4:=Tryz.sizeOf4
 v4:=Tryz.zeroValue4
 t5:=Tryz.underlying5
 a5:=Tryz.isAgg5
 z5:=Tryz.sizeOf5
 v5:=Tryz.zeroValue5
 t9:=Tryz.underlying9
 a9:=Tryz.isAgg9
 z9:=Tryz.sizeOf9
 v9:=Tryz.zeroValue9
 t46:=Tryz.underlying184
 a46:=Tryz.isAgg184
 z46:=Tryz.sizeOf184
 v46:=Tryz.zeroValue184
 t51:=Tryz.underlying242
 a51:=Tryz.isAgg242
 z51:=Tryz.sizeOf242
 v51:=Tryz.zeroValue242
 t146:=Tryz.underlying243
 a146:=Tryz.isAgg243
 z146:=Tryz.sizeOf243
 v146:=Tryz.zeroValue243
 g1:=by kernel_rfl }
open Go.RowKit Go.Sort Go.Lib in
theorem Tryz.strings_Index (s sub:ByteArray) (m:Int) (w:World) (hs:s.size<4294967281) (hm:w.cell? ⟨0,0,none⟩=some (.int .i64 m)) :
  Calls Tryz.prog 72 #[.string s,.string sub] w fun e w'=>e = .returned (.int .i64 (Lib.index s.data.toList sub.data.toList))∧w'=w:=Any.strings_Index Tryz.lays143 s sub m w hs hm
end Go.Proofs
namespace Go.Pi
open Go.Proofs
theorem strings_Index.ok (n:Nat):strings_Index.e.Oks E (cx n) n:=fun _ _ _ _ h=>s2_ (g:=0) (fun s sep m w h1 h2=>Tryz.strings_Index s sep m w h1 h2) (.tail _ (.head _)) h
end Go.Pi
end
section
namespace Go.Proofs
open Go.Shelf
def Tryz.laysM171_ren:Go.Shelf.Ren:=⟨fun|171=>95|243=>137|246=>192|283=>243|284=>244|285=>245|286=>246|129=>269|317=>268|318=>270|319=>271|320=>272|337=>283|338=>284|n=>n,fun|3=>3|9=>9|2=>2|4=>4|171=>266|0=>0|53=>267|37=>22|5=>5|173=>270|212=>292|51=>242|20=>20|213=>293|46=>184|232=>309|233=>310|n=>n,fun|17=>3|18=>4|19=>5|n=>n⟩
theorem Tryz.laysM171:Go.Proofs.LaysM.n171 Tryz.prog Tryz.laysM171_ren:={
 mixed:=by kernel_rfl
 f129:=Tryz.func269.trans (congrArg some (by kernel_rfl))
 f171:=Tryz.func95.trans (congrArg some (by kernel_rfl))
 f243:=Tryz.func137.trans (congrArg some (by kernel_rfl))
 f246:=Tryz.func192.trans (congrArg some (by kernel_rfl))
 f283:=Tryz.func243.trans (congrArg some (by kernel_rfl))
 f284:=Tryz.func244.trans (congrArg some (by kernel_rfl))
 f285:=Tryz.func245.trans (congrArg some (by kernel_rfl))
 f286:=Tryz.func246.trans (congrArg some (by kernel_rfl))
 f317:=Tryz.func268.trans (congrArg some (by kernel_rfl))
 f318:=Tryz.func270.trans (congrArg some (by kernel_rfl))
 f319:=Tryz.func271.trans (congrArg some (by kernel_rfl))
 f320:=Tryz.func272.trans (congrArg some (by kernel_rfl))
 f337:=Tryz.func283.trans (congrArg some (by kernel_rfl))
 f338:=Tryz.func284.trans (congrArg some (by kernel_rfl))
 t0:=Tryz.underlying0
 a0:=Tryz.isAgg0
 z0:=Tryz.sizeOf0
 v0:=Tryz.zeroValue0
 t2:=Tryz.underlying2
 a2:=Tryz.isAgg2
 z2:=Tryz.sizeOf2
 v2:=Tryz.zeroValue2
 t3:=Tryz.underlying3
 a3:=Tryz.isAgg3
 z3:=Tryz.sizeOf3
 v3:=Tryz.zeroValue3
 t4:=Tryz.underlying4
 a4:=Tryz.isAgg4
 z4:=Tryz.sizeOf4
 v4:=Tryz.zeroValue4
 t5:=Tryz.underlying5
 a5:=Tryz.isAgg5
 z5:=Tryz.sizeOf5
 v5:=Tryz.zeroValue5
 t9:=Tryz.underlying9
 a9:=Tryz.isAgg9
 z9:=Tryz.sizeOf9
 v9:=Tryz.zeroValue9
 t20:=Tryz.underlying20
 a20:=Tryz.isAgg20
 z20:=Tryz.sizeOf20
 v20:=Tryz.zeroValue20
 t37:=Tryz.underlying22
 a37:=Tryz.isAgg22
 z37:=Tryz.sizeOf22
 v37:=Tryz.zeroValue22
 t46:=Tryz.underlying184
 a46:=Tryz.isAgg184
 z46:=Tryz.sizeOf184
 v46:=Tryz.zeroValue184
 t51:=Tryz.underlying242
 a51:=Tryz.isAgg242
 z51:=Tryz.sizeOf242
 v51:=Tryz.zeroValue242
 t53:=Tryz.underlying267
 a53:=Tryz.isAgg267
 z53:=Tryz.sizeOf267
 v53:=Tryz.zeroValue267
 t171:=Tryz.underlying266
 a171:=Tryz.isAgg266
 z171:=Tryz.sizeOf266
 v171:=Tryz.zeroValue266
 t173:=Tryz.underlying270
 a173:=Tryz.isAgg270
 z173:=Tryz.sizeOf270
 v173:=Tryz.zeroValue270
 t212:=Tryz.underlying292
 a212:=Tryz.isAgg292
 z212:=Tryz.sizeOf292
 v212:=Tryz.zeroValue292
 t213:=Tryz.underlying293
 a213:=Tryz.isAgg293
 z213:=Tryz.sizeOf293
 t232:=Tryz.underlying309
 a232:=Tryz.isAgg309
 z232:=Tryz.sizeOf309
 v232:=Tryz.zeroValue309
 t233:=Tryz.underlying310
 a233:=Tryz.isAgg310
 z233:=Tryz.sizeOf310
 v233:=Tryz.zeroValue310
 g17:=by kernel_rfl
 g18:=by kernel_rfl
 g19:=by kernel_rfl
 i0:=by kernel_rfl
 i2:=by kernel_rfl
 i3:=by kernel_rfl
 i4:=by kernel_rfl
 i5:=by kernel_rfl
 i9:=by kernel_rfl
 i20:=by kernel_rfl
 i37:=by kernel_rfl
 i46:=by kernel_rfl
 i51:=by kernel_rfl
 i53:=by kernel_rfl
 i171:=by kernel_rfl
 i173:=by kernel_rfl
 i212:=by kernel_rfl
 i232:=by kernel_rfl
 i233:=by kernel_rfl
 m17:=by kernel_rfl
 m18:=by kernel_rfl
 m19:=by kernel_rfl }
open Go.RowKit Go.Sort Go.Lib in
theorem Tryz.strconv_Itoa (n:Int) (h0 : -9223372036854775808≤n) (h1:n≤9223372036854775807) (w:World) (htab:Lib.TabIs Tryz.prog w "internal/strconv.uint64pow10" .u64 Lib.pow10Tab) :
  Calls Tryz.prog 95 #[.int .i64 n] w fun e w'=>e = .returned (.string ⟨(Lib.itoa n).toArray⟩)∧∃ k os,w'=grow (w.drewN k) os:=Any.strconv_Itoa Tryz.laysM171 n h0 h1 w htab
end Go.Proofs
namespace Go.Pi
open Go.Proofs
theorem mx_:E.P.globalNamed "internal/strconv.uint64pow10" = some 3:=by kernel_rfl
theorem strconv_Itoa.ok (n:Nat):strconv_Itoa.e.Oks E (cx n) n:=fun _ _ _ _ h=>nItoa_ok (fun n h0 h1 w ht=>Tryz.strconv_Itoa n h0 h1 w ht) (.head _) mx_ h
end Go.Pi
end
section
namespace Go.Proofs
open Go.Shelf
def Tryz.laysC172_ren:Go.Shelf.Ren:=⟨fun|172=>102|244=>147|245=>148|247=>199|279=>200|280=>201|281=>202|282=>203|287=>250|316=>251|171=>95|205=>252|321=>277|322=>278|243=>137|246=>192|283=>243|284=>244|285=>245|286=>246|129=>269|317=>268|318=>270|319=>271|320=>272|337=>283|338=>284|n=>n,fun|9=>9|3=>3|75=>140|76=>141|4=>4|5=>5|167=>233|37=>22|0=>0|85=>234|2=>2|168=>236|53=>267|175=>274|46=>184|210=>277|127=>272|145=>303|143=>301|21=>21|171=>266|173=>270|212=>292|51=>242|20=>20|213=>293|232=>309|233=>310|80=>230|n=>n,fun|15=>1|16=>2|17=>3|18=>4|19=>5|n=>n⟩
theorem Tryz.laysC172:Go.Proofs.LaysC.n172 Tryz.prog Tryz.laysC172_ren:={
 mixed:=by kernel_rfl
 f129:=Tryz.func269.trans (congrArg some (by kernel_rfl))
 f171:=Tryz.func95.trans (congrArg some (by kernel_rfl))
 f172:=Tryz.func102.trans (congrArg some (by kernel_rfl))
 f205:=Tryz.func252.trans (congrArg some (by kernel_rfl))
 f243:=Tryz.func137.trans (congrArg some (by kernel_rfl))
 f244:=Tryz.func147.trans (congrArg some (by kernel_rfl))
 f245:=Tryz.func148.trans (congrArg some (by kernel_rfl))
 f246:=Tryz.func192.trans (congrArg some (by kernel_rfl))
 f247:=Tryz.func199.trans (congrArg some (by kernel_rfl))
 f279:=Tryz.func200.trans (congrArg some (by kernel_rfl))
 f280:=Tryz.func201.trans (congrArg some (by kernel_rfl))
 f281:=Tryz.func202.trans (congrArg some (by kernel_rfl))
 f282:=Tryz.func203.trans (congrArg some (by kernel_rfl))
 f283:=Tryz.func243.trans (congrArg some (by kernel_rfl))
 f284:=Tryz.func244.trans (congrArg some (by kernel_rfl))
 f285:=Tryz.func245.trans (congrArg some (by kernel_rfl))
 f286:=Tryz.func246.trans (congrArg some (by kernel_rfl))
 f287:=Tryz.func250.trans (congrArg some (by kernel_rfl))
 f316:=Tryz.func251.trans (congrArg some (by kernel_rfl))
 f317:=Tryz.func268.trans (congrArg some (by kernel_rfl))
 f318:=Tryz.func270.trans (congrArg some (by kernel_rfl))
 f319:=Tryz.func271.trans (congrArg some (by kernel_rfl))
 f320:=Tryz.func272.trans (congrArg some (by kernel_rfl))
 f321:=Tryz.func277.trans (congrArg some (by kernel_rfl))
 f322:=Tryz.func278.trans (congrArg some (by kernel_rfl))
 f337:=Tryz.func283.trans (congrArg some (by kernel_rfl))
 f338:=Tryz.func284.trans (congrArg some (by kernel_rfl))
 t0:=Tryz.underlying0
 a0:=Tryz.isAgg0
 z0:=Tryz.sizeOf0
 v0:=Tryz.zeroValue0
 t2:=Tryz.underlying2
 a2:=Tryz.isAgg2
 z2:=Tryz.sizeOf2
 v2:=Tryz.zeroValue2
 t3:=Tryz.underlying3
 a3:=Tryz.isAgg3
 z3:=Tryz.sizeOf3
 v3:=Tryz.zeroValue3
 t4:=Tryz.underlying4
 a4:=Tryz.isAgg4
 z4:=Tryz.sizeOf4
 v4:=Tryz.zeroValue4
 t5:=Tryz.underlying5
 a5:=Tryz.isAgg5
 z5:=Tryz.sizeOf5
 v5:=Tryz.zeroValue5
 t9:=Tryz.underlying9
 a9:=Tryz.isAgg9
 z9:=Tryz.sizeOf9
 v9:=Tryz.zeroValue9
 t20:=Tryz.underlying20
 a20:=Tryz.isAgg20
 z20:=Tryz.sizeOf20
 v20:=Tryz.zeroValue20
 t21:=Tryz.underlying21
 a21:=Tryz.isAgg21
 z21:=Tryz.sizeOf21
 v21:=Tryz.zeroValue21
 t37:=Tryz.underlying22
 a37:=Tryz.isAgg22
 z37:=Tryz.sizeOf22
 v37:=Tryz.zeroValue22
 t46:=Tryz.underlying184
 a46:=Tryz.isAgg184
 z46:=Tryz.sizeOf184
 v46:=Tryz.zeroValue184
 t51:=Tryz.underlying242
 a51:=Tryz.isAgg242
 z51:=Tryz.sizeOf242
 v51:=Tryz.zeroValue242
 t53:=Tryz.underlying267
 a53:=Tryz.isAgg267
 z53:=Tryz.sizeOf267
 v53:=Tryz.zeroValue267
 t75:=Tryz.underlying140
 a75:=Tryz.isAgg140
 z75:=Tryz.sizeOf140
 v75:=Tryz.zeroValue140
 t76:=Tryz.underlying141
 a76:=Tryz.isAgg141
 z76:=Tryz.sizeOf141
 v76:=Tryz.zeroValue141
 t85:=Tryz.underlying234
 a85:=Tryz.isAgg234
 z85:=Tryz.sizeOf234
 v85:=Tryz.zeroValue234
 t127:=Tryz.underlying272
 a127:=Tryz.isAgg272
 z127:=Tryz.sizeOf272
 v127:=Tryz.zeroValue272
 t143:=Tryz.underlying301
 a143:=Tryz.isAgg301
 z143:=Tryz.sizeOf301
 v143:=Tryz.zeroValue301
 t145:=Tryz.underlying303
 a145:=Tryz.isAgg303
 z145:=Tryz.sizeOf303
 v145:=Tryz.zeroValue303
 t167:=Tryz.underlying233
 a167:=Tryz.isAgg233
 z167:=Tryz.sizeOf233
 v167:=Tryz.zeroValue233
 t168:=Tryz.underlying236
 a168:=Tryz.isAgg236
 z168:=Tryz.sizeOf236
 v168:=Tryz.zeroValue236
 t171:=Tryz.underlying266
 a171:=Tryz.isAgg266
 z171:=Tryz.sizeOf266
 v171:=Tryz.zeroValue266
 t173:=Tryz.underlying270
 a173:=Tryz.isAgg270
 z173:=Tryz.sizeOf270
 v173:=Tryz.zeroValue270
 t175:=Tryz.underlying274
 a175:=Tryz.isAgg274
 z175:=Tryz.sizeOf274
 v175:=Tryz.zeroValue274
 t210:=Tryz.underlying277
 a210:=Tryz.isAgg277
 z210:=Tryz.sizeOf277
 v210:=Tryz.zeroValue277
 t212:=Tryz.underlying292
 a212:=Tryz.isAgg292
 z212:=Tryz.sizeOf292
 v212:=Tryz.zeroValue292
 t213:=Tryz.underlying293
 a213:=Tryz.isAgg293
 z213:=Tryz.sizeOf293
 t232:=Tryz.underlying309
 a232:=Tryz.isAgg309
 z232:=Tryz.sizeOf309
 v232:=Tryz.zeroValue309
 t233:=Tryz.underlying310
 a233:=Tryz.isAgg310
 z233:=Tryz.sizeOf310
 v233:=Tryz.zeroValue310
 g15:=by kernel_rfl
 g16:=by kernel_rfl
 g17:=by kernel_rfl
 g18:=by kernel_rfl
 g19:=by kernel_rfl
 t80:=Tryz.underlying230
 a80:=Tryz.isAgg230
 z80:=Tryz.sizeOf230
 v80:=Tryz.zeroValue230
 i0:=by kernel_rfl
 i2:=by kernel_rfl
 i3:=by kernel_rfl
 i4:=by kernel_rfl
 i5:=by kernel_rfl
 i9:=by kernel_rfl
 i20:=by kernel_rfl
 i21:=by kernel_rfl
 i37:=by kernel_rfl
 i46:=by kernel_rfl
 i51:=by kernel_rfl
 i53:=by kernel_rfl
 i75:=by kernel_rfl
 i76:=by kernel_rfl
 i80:=by kernel_rfl
 i85:=by kernel_rfl
 i127:=by kernel_rfl
 i143:=by kernel_rfl
 i145:=by kernel_rfl
 i167:=by kernel_rfl
 i168:=by kernel_rfl
 i171:=by kernel_rfl
 i173:=by kernel_rfl
 i175:=by kernel_rfl
 i210:=by kernel_rfl
 i212:=by kernel_rfl
 i232:=by kernel_rfl
 i233:=by kernel_rfl
 m15:=by kernel_rfl
 m16:=by kernel_rfl
 m17:=by kernel_rfl
 m18:=by kernel_rfl
 m19:=by kernel_rfl
 c0:=by kernel_rfl
 c2:=by kernel_rfl
 c3:=by kernel_rfl
 c4:=by kernel_rfl
 c5:=by kernel_rfl
 c9:=by kernel_rfl
 c20:=by kernel_rfl
 c21:=by kernel_rfl
 c37:=by kernel_rfl
 c46:=by kernel_rfl
 c51:=by kernel_rfl
 c53:=by kernel_rfl
 c75:=by kernel_rfl
 c76:=by kernel_rfl
 c80:=by kernel_rfl
 c85:=by kernel_rfl
 c127:=by kernel_rfl
 c143:=by kernel_rfl
 c145:=by kernel_rfl
 c167:=by kernel_rfl
 c168:=by kernel_rfl
 c171:=by kernel_rfl
 c173:=by kernel_rfl
 c175:=by kernel_rfl
 c210:=by kernel_rfl
 c212:=by kernel_rfl
 c213:=by kernel_rfl
 c232:=by kernel_rfl
 c233:=by kernel_rfl }
end Go.Proofs
namespace Go.Pi
open Go.Proofs
theorem atoiM:AtoiM E.P 102 1 2 5:=⟨fun s v w h1 h2=>Any.strconv_Atoi_ok Tryz.laysC172 s h1 v h2 w,fun s ev w h1 h2 h3 h4=>by
 cases ha:Lib.atoiAll s.data.toList
 · rename_i v;exact absurd ha (h2.1 v)
 · exact (Any.strconv_Atoi_syntax Tryz.laysC172 s h1 ha ev w h3 h4).mono fun e w' ⟨N,he,_,_,hb⟩=>⟨⟨_,_,he⟩,hb⟩
 · exact absurd ha h2.2,fun s ev w h1 h2 h3 h4=>(Any.strconv_Atoi_range Tryz.laysC172 s h1 h2 ev w h3 h4).mono fun e w' ⟨N,he,_,_,hb⟩=>⟨⟨_,_,he⟩,hb⟩⟩
end Go.Pi
namespace Go.Pi
open Go.Proofs
theorem cR_.ok (n:Nat):cR_.e.Oks E (cx n) n:=fun _ _ _ _ h=>nAtoi_ok atoiM (.tail _ (.tail _ (.head _))) (.tail _ (.tail _ (.tail _ (.head _)))) h
end Go.Pi
end
section
namespace Go.Proofs
open Go.Shelf
def Tryz.lays219_ren:Go.Shelf.Ren:=⟨fun|219=>113|217=>156|225=>157|224=>158|267=>159|266=>213|314=>214|n=>n,fun|9=>9|3=>3|4=>4|5=>5|46=>184|146=>243|51=>242|n=>n,fun|1=>0|n=>n⟩
theorem Tryz.lays219:Go.Proofs.Lays.n219 Tryz.prog Tryz.lays219_ren:={
 mixed:=by kernel_rfl
 f217:=Tryz.func156.trans (congrArg some (by kernel_rfl))
 f219:=Tryz.func113.trans (congrArg some (by kernel_rfl))
 f224:=Tryz.func158.trans (congrArg some (by kernel_rfl))
 f225:=Tryz.func157.trans (congrArg some (by kernel_rfl))
 f266:=Tryz.func213.trans (congrArg some (by kernel_rfl))
 f267:=Tryz.func159.trans (congrArg some (by kernel_rfl))
 f314:=Tryz.func214.trans (congrArg some (by kernel_rfl))
 t3:=Tryz.underlying3
 a3:=Tryz.isAgg3
 z3:=Tryz.sizeOf3
 v3:=Tryz.zeroValue3
 t4:=Tryz.underlying4
 a4:=Tryz.isAgg4
 z4:=Tryz.sizeOf4
 v4:=Tryz.zeroValue4
 t5:=Tryz.underlying5
 a5:=Tryz.isAgg5
 z5:=Tryz.sizeOf5
 v5:=Tryz.zeroValue5
 t9:=Tryz.underlying9
 a9:=Tryz.isAgg9
 z9:=Tryz.sizeOf9
 v9:=Tryz.zeroValue9
 t46:=Tryz.underlying184
 a46:=Tryz.isAgg184
 z46:=Tryz.sizeOf184
 v46:=Tryz.zeroValue184
 t51:=Tryz.underlying242
 a51:=Tryz.isAgg242
 z51:=Tryz.sizeOf242
 v51:=Tryz.zeroValue242
 t146:=Tryz.underlying243
 a146:=Tryz.isAgg243
 z146:=Tryz.sizeOf243
 v146:=Tryz.zeroValue243
 g1:=by kernel_rfl }
open Go.RowKit Go.Sort Go.Lib in
theorem Tryz.stringslite_Index_one (s:ByteArray) (c:UInt8) (w:World) :
  Calls Tryz.prog 113 #[.string s,.string ⟨#[c]⟩] w fun e w'=>e = .returned (.int .i64 (Lib.indexByte s.data.toList c))∧w'=w:=Any.stringslite_Index_one Tryz.lays219 s c w
end Go.Proofs
namespace Go.Pi
open Go.Proofs
theorem ca_.ok (n:Nat):ca_.e.Oks E (cx n) n:=fun _ _ _ _ h=>nIndex_ok (fun s c w=>Tryz.stringslite_Index_one s c w) h
end Go.Pi
end
section
namespace Go.Proofs
open Go.Shelf
def Tryz.lays156_ren:Go.Shelf.Ren:=⟨fun|156=>139|165=>193|166=>194|169=>195|240=>247|241=>248|276=>273|277=>274|n=>n,fun|31=>27|9=>9|3=>3|4=>4|0=>0|20=>20|72=>228|76=>141|70=>226|37=>22|75=>140|127=>272|164=>295|5=>5|80=>230|n=>n,fun|n=>n⟩
theorem Tryz.lays156:Go.Proofs.Lays.n156 Tryz.prog Tryz.lays156_ren:={
 mixed:=by kernel_rfl
 f156:=Tryz.func139.trans (congrArg some (by kernel_rfl))
 f165:=Tryz.func193.trans (congrArg some (by kernel_rfl))
 f166:=Tryz.func194.trans (congrArg some (by kernel_rfl))
 f169:=Tryz.func195.trans (congrArg some (by kernel_rfl))
 f240:=Tryz.func247.trans (congrArg some (by kernel_rfl))
 f241:=Tryz.func248.trans (congrArg some (by kernel_rfl))
 f276:=Tryz.func273.trans (congrArg some (by kernel_rfl))
 f277:=Tryz.func274.trans (congrArg some (by kernel_rfl))
 t0:=Tryz.underlying0
 a0:=Tryz.isAgg0
 z0:=Tryz.sizeOf0
 v0:=Tryz.zeroValue0
 t3:=Tryz.underlying3
 a3:=Tryz.isAgg3
 z3:=Tryz.sizeOf3
 v3:=Tryz.zeroValue3
 t4:=Tryz.underlying4
 a4:=Tryz.isAgg4
 z4:=Tryz.sizeOf4
 v4:=Tryz.zeroValue4
 t9:=Tryz.underlying9
 a9:=Tryz.isAgg9
 z9:=Tryz.sizeOf9
 v9:=Tryz.zeroValue9
 t20:=Tryz.underlying20
 a20:=Tryz.isAgg20
 z20:=Tryz.sizeOf20
 v20:=Tryz.zeroValue20
 t31:=Tryz.underlying27
 a31:=Tryz.isAgg27
 z31:=Tryz.sizeOf27
 v31:=Tryz.zeroValue27
 t37:=Tryz.underlying22
 a37:=Tryz.isAgg22
 z37:=Tryz.sizeOf22
 v37:=Tryz.zeroValue22
 t70:=Tryz.underlying226
 a70:=Tryz.isAgg226
 z70:=Tryz.sizeOf226
 v70:=Tryz.zeroValue226
 t72:=Tryz.underlying228
 a72:=Tryz.isAgg228
 z72:=Tryz.sizeOf228
 v72:=Tryz.zeroValue228
 t75:=Tryz.underlying140
 a75:=Tryz.isAgg140
 z75:=Tryz.sizeOf140
 v75:=Tryz.zeroValue140
 t76:=Tryz.underlying141
 a76:=Tryz.isAgg141
 z76:=Tryz.sizeOf141
 v76:=Tryz.zeroValue141
 t127:=Tryz.underlying272
 a127:=Tryz.isAgg272
 z127:=Tryz.sizeOf272
 v127:=Tryz.zeroValue272
 t164:=Tryz.underlying295
 a164:=Tryz.isAgg295
 z164:=Tryz.sizeOf295
 v164:=Tryz.zeroValue295 }
theorem Tryz.Builder_Extra_156:Builder.Extra Tryz.prog Tryz.lays156_ren:={
 sizeBuilder:=by kernel_rfl
 liesBuilder:=by kernel_rfl
 t5:=Tryz.underlying5
 a5:=Tryz.isAgg5
 z5:=Tryz.sizeOf5
 v5:=Tryz.zeroValue5
 infoByte:=by kernel_rfl
 cellsByte:=by kernel_rfl
 sizeByte:=by kernel_rfl
 neB5:=by decide }
open Go.RowKit Go.Sort Go.Lib in
theorem Tryz.strings_Join_none (a:Option Addr) (c:Nat) (sep:ByteArray) (w:World) :
  Calls Tryz.prog 139 #[.slice a 0 c,.string sep] w fun e w'=>e = .returned (.string ⟨#[]⟩)∧w'=w:=Any.strings_Join_none Tryz.lays156 Tryz.Builder_Extra_156 a c sep w
open Go.RowKit Go.Sort Go.Lib in
theorem Tryz.strings_Join (bk o c:Nat) (xs:List ByteArray) (sep:ByteArray) (w:World) (hcells:∀ (j:Nat) x,xs[j]?=some x→w.cell? ⟨bk,o+j,none⟩=some (.string x)) (hbk:bk<w.heap.size) (hN:xs.length≤140737488355328) (hcap:xs.length≤c) (hlen:(Lib.join (xs.map (·.data.toList)) sep.data.toList).length≤140737488355328) :
  Calls Tryz.prog 139 #[.slice (some ⟨bk,o,none⟩) xs.length c,.string sep] w fun e w'=>e = .returned (.string ⟨(Lib.join (xs.map (·.data.toList)) sep.data.toList).toArray⟩)∧Below w.heap.size w w':=Any.strings_Join Tryz.lays156 Tryz.Builder_Extra_156 bk o c xs sep w hcells hbk hN hcap hlen
end Go.Proofs
namespace Go.Pi
open Go.Proofs
theorem strings_Join.ok (n:Nat):strings_Join.e.Oks E (cx n) n:=fun _ _ _ _ h=>nJoin_ok ⟨fun a c sep w=>Tryz.strings_Join_none a c sep w,fun bk o c xs sep w h1 h2 h3 h4 h5=>Tryz.strings_Join bk o c xs sep w h1 h2 h3 h4 h5⟩ (fun _=>rfl) h
end Go.Pi
end
section
namespace Go.Proofs
open Go.Shelf
def Tryz.lays155_ren:Go.Shelf.Ren:=⟨fun|155=>196|154=>249|138=>275|165=>193|143=>72|166=>194|197=>276|169=>195|195=>285|218=>286|240=>247|241=>248|219=>113|260=>287|276=>273|277=>274|217=>156|225=>157|224=>158|267=>159|266=>213|314=>214|n=>n,fun|9=>9|3=>3|4=>4|72=>228|0=>0|76=>141|105=>298|21=>21|5=>5|70=>226|20=>20|37=>22|75=>140|127=>272|164=>295|46=>184|119=>311|139=>314|138=>313|146=>243|51=>242|80=>230|n=>n,fun|1=>0|3=>6|4=>7|n=>n⟩
theorem Tryz.lays155:Go.Proofs.Lays.n155 Tryz.prog Tryz.lays155_ren:={
 mixed:=by kernel_rfl
 f138:=Tryz.func275.trans (congrArg some (by kernel_rfl))
 f143:=Tryz.func72.trans (congrArg some (by kernel_rfl))
 f154:=Tryz.func249.trans (congrArg some (by kernel_rfl))
 f155:=Tryz.func196.trans (congrArg some (by kernel_rfl))
 f165:=Tryz.func193.trans (congrArg some (by kernel_rfl))
 f166:=Tryz.func194.trans (congrArg some (by kernel_rfl))
 f169:=Tryz.func195.trans (congrArg some (by kernel_rfl))
 f195:=Tryz.func285.trans (congrArg some (by kernel_rfl))
 f197:=Tryz.func276.trans (congrArg some (by kernel_rfl))
 f217:=Tryz.func156.trans (congrArg some (by kernel_rfl))
 f218:=Tryz.func286.trans (congrArg some (by kernel_rfl))
 f219:=Tryz.func113.trans (congrArg some (by kernel_rfl))
 f224:=Tryz.func158.trans (congrArg some (by kernel_rfl))
 f225:=Tryz.func157.trans (congrArg some (by kernel_rfl))
 f240:=Tryz.func247.trans (congrArg some (by kernel_rfl))
 f241:=Tryz.func248.trans (congrArg some (by kernel_rfl))
 f260:=Tryz.func287.trans (congrArg some (by kernel_rfl))
 f266:=Tryz.func213.trans (congrArg some (by kernel_rfl))
 f267:=Tryz.func159.trans (congrArg some (by kernel_rfl))
 f276:=Tryz.func273.trans (congrArg some (by kernel_rfl))
 f277:=Tryz.func274.trans (congrArg some (by kernel_rfl))
 f314:=Tryz.func214.trans (congrArg some (by kernel_rfl))
 t0:=Tryz.underlying0
 a0:=Tryz.isAgg0
 z0:=Tryz.sizeOf0
 v0:=Tryz.zeroValue0
 t3:=Tryz.underlying3
 a3:=Tryz.isAgg3
 z3:=Tryz.sizeOf3
 v3:=Tryz.zeroValue3
 t4:=Tryz.underlying4
 a4:=Tryz.isAgg4
 z4:=Tryz.sizeOf4
 v4:=Tryz.zeroValue4
 t5:=Tryz.underlying5
 a5:=Tryz.isAgg5
 z5:=Tryz.sizeOf5
 v5:=Tryz.zeroValue5
 t9:=Tryz.underlying9
 a9:=Tryz.isAgg9
 z9:=Tryz.sizeOf9
 v9:=Tryz.zeroValue9
 t20:=Tryz.underlying20
 a20:=Tryz.isAgg20
 z20:=Tryz.sizeOf20
 v20:=Tryz.zeroValue20
 t21:=Tryz.underlying21
 a21:=Tryz.isAgg21
 z21:=Tryz.sizeOf21
 v21:=Tryz.zeroValue21
 t37:=Tryz.underlying22
 a37:=Tryz.isAgg22
 z37:=Tryz.sizeOf22
 v37:=Tryz.zeroValue22
 t46:=Tryz.underlying184
 a46:=Tryz.isAgg184
 z46:=Tryz.sizeOf184
 v46:=Tryz.zeroValue184
 t51:=Tryz.underlying242
 a51:=Tryz.isAgg242
 z51:=Tryz.sizeOf242
 v51:=Tryz.zeroValue242
 t70:=Tryz.underlying226
 a70:=Tryz.isAgg226
 z70:=Tryz.sizeOf226
 v70:=Tryz.zeroValue226
 t72:=Tryz.underlying228
 a72:=Tryz.isAgg228
 z72:=Tryz.sizeOf228
 v72:=Tryz.zeroValue228
 t75:=Tryz.underlying140
 a75:=Tryz.isAgg140
 z75:=Tryz.sizeOf140
 v75:=Tryz.zeroValue140
 t76:=Tryz.underlying141
 a76:=Tryz.isAgg141
 z76:=Tryz.sizeOf141
 v76:=Tryz.zeroValue141
 t105:=Tryz.underlying298
 a105:=Tryz.isAgg298
 z105:=Tryz.sizeOf298
 v105:=Tryz.zeroValue298
 t119:=Tryz.underlying311
 a119:=Tryz.isAgg311
 z119:=Tryz.sizeOf311
 t127:=Tryz.underlying272
 a127:=Tryz.isAgg272
 z127:=Tryz.sizeOf272
 v127:=Tryz.zeroValue272
 t138:=Tryz.underlying313
 a138:=Tryz.isAgg313
 z138:=Tryz.sizeOf313
 v138:=Tryz.zeroValue313
 t139:=Tryz.underlying314
 a139:=Tryz.isAgg314
 z139:=Tryz.sizeOf314
 v139:=Tryz.zeroValue314
 t146:=Tryz.underlying243
 a146:=Tryz.isAgg243
 z146:=Tryz.sizeOf243
 v146:=Tryz.zeroValue243
 t164:=Tryz.underlying295
 a164:=Tryz.isAgg295
 z164:=Tryz.sizeOf295
 v164:=Tryz.zeroValue295
 g1:=by kernel_rfl
 g3:=by kernel_rfl
 g4:=by kernel_rfl }
theorem Tryz.Builder_Extra_155:Builder.Extra Tryz.prog Tryz.lays155_ren:={
 sizeBuilder:=by kernel_rfl
 liesBuilder:=by kernel_rfl
 t5:=Tryz.underlying5
 a5:=Tryz.isAgg5
 z5:=Tryz.sizeOf5
 v5:=Tryz.zeroValue5
 infoByte:=by kernel_rfl
 cellsByte:=by kernel_rfl
 sizeByte:=by kernel_rfl
 neB5:=by decide }
open Go.RowKit Go.Sort Go.Lib in
theorem Tryz.strings_ReplaceAll (s old new:ByteArray) (m:Int) (w:World) (hs:s.size<4294967281) (hm:w.cell? ⟨0,0,none⟩=some (.int .i64 m)) (h1:1≤old.size) (hlen:s.size+Lib.countB s old*new.size≤140737488355328) :
  Calls Tryz.prog 196 #[.string s,.string old,.string new] w fun e w'=>
   e = .returned (.string ⟨(Lib.replaceAll s.data.toList old.data.toList new.data.toList).toArray⟩)∧Below w.heap.size w w':=Any.strings_ReplaceAll Tryz.lays155 Tryz.Builder_Extra_155 s old new m w hs hm h1 hlen
end Go.Proofs
namespace Go.Pi
open Go.Proofs
theorem strings_ReplaceAll.ok (n:Nat):strings_ReplaceAll.e.Oks E (cx n) n:=fun _ _ _ _ h=>nRepl_ok (g:=0) (fun s old new m w h1 h2 h3 h4=>Tryz.strings_ReplaceAll s old new m w h1 h2 h3 h4) (.tail _ (.head _)) h
end Go.Pi
end
section
namespace Go.Proofs
open Go.Shelf
def Tryz.lays146_ren:Go.Shelf.Ren:=⟨fun|146=>254|221=>279|268=>288|138=>275|143=>72|195=>285|197=>276|218=>286|219=>113|260=>287|217=>156|225=>157|224=>158|267=>159|266=>213|314=>214|n=>n,fun|9=>9|31=>27|3=>3|4=>4|0=>0|105=>298|21=>21|5=>5|46=>184|119=>311|139=>314|138=>313|146=>243|51=>242|n=>n,fun|1=>0|3=>6|4=>7|n=>n⟩
theorem Tryz.lays146:Go.Proofs.Lays.n146 Tryz.prog Tryz.lays146_ren:={
 mixed:=by kernel_rfl
 f138:=Tryz.func275.trans (congrArg some (by kernel_rfl))
 f143:=Tryz.func72.trans (congrArg some (by kernel_rfl))
 f146:=Tryz.func254.trans (congrArg some (by kernel_rfl))
 f195:=Tryz.func285.trans (congrArg some (by kernel_rfl))
 f197:=Tryz.func276.trans (congrArg some (by kernel_rfl))
 f217:=Tryz.func156.trans (congrArg some (by kernel_rfl))
 f218:=Tryz.func286.trans (congrArg some (by kernel_rfl))
 f219:=Tryz.func113.trans (congrArg some (by kernel_rfl))
 f221:=Tryz.func279.trans (congrArg some (by kernel_rfl))
 f224:=Tryz.func158.trans (congrArg some (by kernel_rfl))
 f225:=Tryz.func157.trans (congrArg some (by kernel_rfl))
 f260:=Tryz.func287.trans (congrArg some (by kernel_rfl))
 f266:=Tryz.func213.trans (congrArg some (by kernel_rfl))
 f267:=Tryz.func159.trans (congrArg some (by kernel_rfl))
 f268:=Tryz.func288.trans (congrArg some (by kernel_rfl))
 f314:=Tryz.func214.trans (congrArg some (by kernel_rfl))
 t0:=Tryz.underlying0
 a0:=Tryz.isAgg0
 z0:=Tryz.sizeOf0
 v0:=Tryz.zeroValue0
 t3:=Tryz.underlying3
 a3:=Tryz.isAgg3
 z3:=Tryz.sizeOf3
 v3:=Tryz.zeroValue3
 t4:=Tryz.underlying4
 a4:=Tryz.isAgg4
 z4:=Tryz.sizeOf4
 v4:=Tryz.zeroValue4
 t5:=Tryz.underlying5
 a5:=Tryz.isAgg5
 z5:=Tryz.sizeOf5
 v5:=Tryz.zeroValue5
 t9:=Tryz.underlying9
 a9:=Tryz.isAgg9
 z9:=Tryz.sizeOf9
 v9:=Tryz.zeroValue9
 t21:=Tryz.underlying21
 a21:=Tryz.isAgg21
 z21:=Tryz.sizeOf21
 v21:=Tryz.zeroValue21
 t31:=Tryz.underlying27
 a31:=Tryz.isAgg27
 z31:=Tryz.sizeOf27
 v31:=Tryz.zeroValue27
 t46:=Tryz.underlying184
 a46:=Tryz.isAgg184
 z46:=Tryz.sizeOf184
 v46:=Tryz.zeroValue184
 t51:=Tryz.underlying242
 a51:=Tryz.isAgg242
 z51:=Tryz.sizeOf242
 v51:=Tryz.zeroValue242
 t105:=Tryz.underlying298
 a105:=Tryz.isAgg298
 z105:=Tryz.sizeOf298
 v105:=Tryz.zeroValue298
 t119:=Tryz.underlying311
 a119:=Tryz.isAgg311
 z119:=Tryz.sizeOf311
 t138:=Tryz.underlying313
 a138:=Tryz.isAgg313
 z138:=Tryz.sizeOf313
 v138:=Tryz.zeroValue313
 t139:=Tryz.underlying314
 a139:=Tryz.isAgg314
 z139:=Tryz.sizeOf314
 v139:=Tryz.zeroValue314
 t146:=Tryz.underlying243
 a146:=Tryz.isAgg243
 z146:=Tryz.sizeOf243
 v146:=Tryz.zeroValue243
 g1:=by kernel_rfl
 g3:=by kernel_rfl
 g4:=by kernel_rfl }
open Go.RowKit Go.Sort Go.Lib in
theorem Tryz.strings_Split (s sep:ByteArray) (m:Int) (w:World) (hs:s.size<4294967281) (hm:w.cell? ⟨0,0,none⟩=some (.int .i64 m)) (h1:1≤sep.size) :
  Calls Tryz.prog 254 #[.string s,.string sep] w fun e w'=>
   e = .returned (.slice (some ⟨w.heap.size,0,none⟩) (Lib.countB s sep+1) (Lib.countB s sep+1))∧w'=w.alloc (.cells ((Lib.splitB sep 0 (Lib.countB s sep) s).map Value.string).toArray 9):=Any.strings_Split Tryz.lays146 (by kernel_rfl) s sep m w hs hm h1
end Go.Proofs
namespace Go.Pi
open Go.Proofs
theorem strings_Split.ok (n:Nat):strings_Split.e.Oks E (cx n) n:=fun _ _ _ _ h=>nSplit_ok (g:=0) (T:=9) (fun s sep m w h1 h2 h3=>Tryz.strings_Split s sep m w h1 h2 h3) (.tail _ (.head _)) rfl (fun _ _=>rfl) rfl h
end Go.Pi
end
section
namespace Go.Pi
open Go.Proofs
theorem zer:zl ents=zr ents:=by kernel_rfl
theorem fcts:factL E.P ents ents=factR ents:=by kernel_rfl
theorem cxok (n nt:Nat) (a:AllE E n ents):CxOk E (cx n nt):=⟨ttOk,tcOk,u8Ok,KE_ok fcts a⟩
theorem allOk:∀ n,AllE E n ents
 |0=>all0 zer
 |n+1=>allS_ok (fun nt=>cxok n nt (allOk n)) (fun _=>KE_par) (show AllS E (cx n) n ents from ⟨laws_FnPieces.ok n,gc_.ok n,c5_.ok n,da_.ok n,ed_.ok n,cQ_.ok n,ad_.ok n,dg_.ok n,b6_.ok n,bN_.ok n,bt_.ok n,cd_.ok n,cs_.ok n,cf_.ok n,an_.ok n,ac_.ok n,a7_.ok n,eb_.ok n,bq_.ok n,eg_.ok n,dr_.ok n,bv_.ok n,aV_.ok n,cY_.ok n,bQ_.ok n,db_.ok n,aN_.ok n,dZ_.ok n,dB_.ok n,dm_.ok n,c2_.ok n,dF_.ok n,bo_.ok n,cK_.ok n,dG_.ok n,dY_.ok n,bg_.ok n,a2_.ok n,aM_.ok n,eQ_.ok n,cL_.ok n,aT_.ok n,cA_.ok n,strings_Index.ok n,b3_.ok n,aP_.ok n,d9_.ok n,ai_.ok n,df_.ok n,bD_.ok n,aB_.ok n,dW_.ok n,bH_.ok n,do_.ok n,dc_.ok n,cF_.ok n,bO_.ok n,dA_.ok n,c7_.ok n,b8_.ok n,aq_.ok n,cS_.ok n,strconv_Itoa.ok n,bc_.ok n,eh_.ok n,aO_.ok n,dX_.ok n,cP_.ok n,dq_.ok n,cR_.ok n,dI_.ok n,cJ_.ok n,b1_.ok n,as_.ok n,aE_.ok n,bS_.ok n,dU_.ok n,dj_.ok n,a4_.ok n,dy_.ok n,ca_.ok n,dO_.ok n,aL_.ok n,a1_.ok n,b4_.ok n,dR_.ok n,ea_.ok n,dk_.ok n,d8_.ok n,c9_.ok n,cX_.ok n,bC_.ok n,bz_.ok n,eA_.ok n,du_.ok n,aU_.ok n,bK_.ok n,cw_.ok n,aR_.ok n,cv_.ok n,b0_.ok n,strings_Join.ok n,dl_.ok n,bV_.ok n,ef_.ok n,bx_.ok n,aF_.ok n,bU_.ok n,ew_.ok n,aZ_.ok n,bJ_.ok n,d0_.ok n,cW_.ok n,ce_.ok n,aH_.ok n,aY_.ok n,a3_.ok n,dt_.ok n,bI_.ok n,a6_.ok n,aA_.ok n,ee_.ok n,bM_.ok n,aQ_.ok n,cl_.ok n,bd_.ok n,a5_.ok n,dx_.ok n,eR_.ok n,bu_.ok n,cg_.ok n,e0_.ok n,bZ_.ok n,b5_.ok n,eS_.ok n,fh_.ok n,de_.ok n,eU_.ok n,ay_.ok n,b7_.ok n,ag_.ok n,strings_ReplaceAll.ok n,bn_.ok n,co_.ok n,bw_.ok n,c1_.ok n,av_.ok n,am_.ok n,ap_.ok n,er_.ok n,bE_.ok n,aG_.ok n,dP_.ok n,bl_.ok n,ck_.ok n,cz_.ok n,bT_.ok n,bX_.ok n,dw_.ok n,bR_.ok n,dd_.ok n,c6_.ok n,b9_.ok n,bL_.ok n,b2_.ok n,ex_.ok n,aK_.ok n,aI_.ok n,cn_.ok n,bW_.ok n,bp_.ok n,au_.ok n,d6_.ok n,cq_.ok n,strings_Split.ok n,dQ_.ok n,eB_.ok n,cy_.ok n,c8_.ok n,dv_.ok n,aJ_.ok n,ah_.ok n,trivial⟩)
end Go.Pi
end
section
namespace Go.Pi
inductive Kd where
 |i (k:IntKind)
 |b
 |s
 |sl (t:TC)
def kdsL (P:Program) (rec_:TypeId→Option (List Kd)):List Field→Nat→Option (List Kd)
 |[],_=>some []
 |f::fs,off=>cond (Nat.beq f.offset off) (match rec_ f.type with
  |some ks=>cond (Nat.beq (P.cellsOf f.type) ks.length) (match kdsL P rec_ fs (off+ks.length) with
   |some r=>some (ks++r)
   |none=>none) none
  |none=>none) none
def kds (P:Program) (e4_:TypeId→Option TC):Nat→TypeId→Option (List Kd)
 |0,_=>none
 |d+1,T=>match P.underlying T with
  |some (.int k)=>some [.i k]
  |some .bool=>some [.b]
  |some .string=>some [.s]
  |some (.slice e)=>match e4_ e with
   |some t=>some [.sl t]
   |none=>none
  |some (.struct fs)=>match kdsL P (kds P e4_ d) fs.toList 0 with
   |some ks=>cond (Nat.beq (P.cellsOf T) ks.length) (some ks) none
   |none=>none
  |_=>none
inductive Good [aj_]:AV→Prop
 |i (k n):(Lit.int k n).wf=true→Good (.i k n)
 |b (q):Good (.b q)
 |s (l):l.length≤maxLen→Good (.s l)
 |sl (t xs):xs.length≤maxLen→(∀ x ∈ xs,∀ c ∈ aj_.enc .v t x,Good c)→Good (.sl .v t xs)
def KindOk:Kd→AV→Prop
 |.i k,a=>∃ n,a = .i k n
 |.b,a=>∃ q,a = .b q
 |.s,a=>∃ l,a = .s l
 |.sl t,a=>∃ xs,a = .sl .v t xs
def k3_:List Kd→List AV→Prop
 |[],[]=>True
 |k::ks,a::l=>KindOk k a∧k3_ ks l
 |_,_=>False
section
variable {H:Type} {enc:TypeId × Value→H} {P:Program} {w:World} {spare:Nat→Bool}
def qE_ (enc:TypeId × Value→H) (P:Program) (w:World) (spare:Nat→Bool) (eid:TC→TypeId) (F:Nat):Kd→Value→Prop
 |.i k,v=>∃ n,v = .int k n∧(Lit.int k n).wf=true
 |.b,v=>∃ q,v = .bool q
 |.s,v=>∃ s:ByteArray,v = .string s∧s.size≤maxLen
 |.sl t,v=>v = .slice none 0 0∨∃ (a:Addr) (len cap N:Nat),v = .slice (some a) len cap∧len≤cap∧cap≤maxLen∧N<F ∧
   ∀ i,i<len→∃ cs x,w.cells? 0 (a.add (i*P.cellsOf (eid t))) (P.cellsOf (eid t))=some cs∧DataW.trod enc P w 0 spare true N (eid t) cs=some x
def fr_ (enc:TypeId × Value→H) (P:Program) (w:World) (spare:Nat→Bool) (eid:TC→TypeId) (F:Nat):List Kd→List Value→Prop
 |[],[]=>True
 |k::ks,v::vs=>qE_ enc P w spare eid F k v∧fr_ enc P w spare eid F ks vs
 |_,_=>False
theorem qE_.mono {eid:TC→TypeId} {F F':Nat} (hF:F≤F') {k:Kd} {v:Value} (h:qE_ enc P w spare eid F k v):qE_ enc P w spare eid F' k v:=by
 cases k with
 |sl t=>
  rcases h with h|⟨a,len,cap,N,h1,h2,h3,h4,h5⟩
  · exact .inl h
  · exact .inr ⟨a,len,cap,N,h1,h2,h3,Nat.lt_of_lt_of_le h4 hF,h5⟩
 |_=>exact h
theorem fr_.mono {eid:TC→TypeId} {F F':Nat} (hF:F≤F'):∀ {ks:List Kd} {vs:List Value},fr_ enc P w spare eid F ks vs→fr_ enc P w spare eid F' ks vs
 |[],[],_=>trivial
 |k::ks,v::vs,h=>⟨h.1.mono hF,fr_.mono hF h.2⟩
 |[],_::_,h=>h.elim
 |_::_,[],h=>h.elim
theorem fr_.append {eid:TC→TypeId} {F:Nat}:∀ {ks:List Kd} {vs:List Value} {ks':List Kd} {vs':List Value},fr_ enc P w spare eid F ks vs→fr_ enc P w spare eid F ks' vs'→fr_ enc P w spare eid F (ks++ks') (vs++vs')
 |[],[],_,_,_,h=>h
 |k::ks,v::vs,_,_,h,h'=>⟨h.1,fr_.append h.2 h'⟩
 |[],_::_,_,_,h,_=>h.elim
 |_::_,[],_,_,h,_=>h.elim
theorem nR_ {e4_:TypeId→Option TC} {eid:TC→TypeId} {n:Nat} {rec_:TypeId→Option (List Kd)} {cs:List Value} (hrec:∀ T ks cs x,rec_ T=some ks→DataW.trod enc P w 0 spare true n T cs=some x→fr_ enc P w spare eid n ks cs) :
  ∀ (fs:List Field) (off:Nat) (ks:List Kd),kdsL P rec_ fs off=some ks→(∀ f ∈ fs,∃ x,DataW.trod enc P w 0 spare true n f.type ((cs.drop f.offset).take (P.cellsOf f.type))=some x)→off+ks.length=cs.length→fr_ enc P w spare eid n ks (cs.drop off)
 |[],off,ks,h,_,hl=>by
  simp only [kdsL,Option.some.injEq] at h
  subst h
  rw [List.drop_eq_nil_of_le (by simp at hl;omega)]
  trivial
 |f::fs,off,ks,h,hx,hl=>by
  simp only [kdsL] at h
  obtain ⟨h1,h2⟩:=cp_ h
  have h1:=c3_.1 h1
  cases hr:rec_ f.type with
  |none=>rw [hr] at h2;cases h2
  |some k1=>
   rw [hr] at h2
   obtain ⟨h3,h4⟩:=cp_ h2
   have h3:=c3_.1 h3
   cases hk:kdsL P rec_ fs (off+k1.length) with
   |none=>rw [hk] at h4;cases h4
   |some r=>
    rw [hk] at h4
    simp only [Option.some.injEq] at h4
    subst h4
    obtain ⟨x,hx1⟩:=hx f (List.mem_cons_self ..)
    have h5:=hrec _ _ _ _ hr hx1
    have h6:=nR_ (e4_:=e4_) hrec fs (off+k1.length) r hk (fun g hg=>hx g (List.mem_cons_of_mem _ hg)) (by simp at hl;omega)
    rw [h1,h3] at h5
    have:cs.drop off=(cs.drop off).take k1.length++cs.drop (off+k1.length):=by rw [←List.drop_drop,List.take_append_drop]
    rw [this]
    exact h5.append h6
theorem oa_ {e4_:TypeId→Option TC} {eid:TC→TypeId} (hcode:∀ e t,e4_ e=some t→eid t=e):∀ (d F:Nat) (T:TypeId) (ks:List Kd) (cs:List Value) (x:DataW H × List MemPlace),kds P e4_ d T=some ks→DataW.trod enc P w 0 spare true F T cs=some x→fr_ enc P w spare eid F ks cs
 |0,F,T,ks,cs,x,hk,h=>by cases hk
 |d+1,F,T,ks,cs,x,hk,h=>by
  simp only [kds] at hk
  cases hu:P.underlying T with
  |none=>rw [hu] at hk;cases hk
  |some u=>
   rw [hu] at hk
   cases u<;>simp only at hk<;>(try (cases hk;done))
   case bool=>
    cases hk
    obtain ⟨q,rfl,_⟩:=DataW.trod_bool hu h
    exact ⟨⟨q,rfl⟩,trivial⟩
   case int k=>
    cases hk
    obtain ⟨n,rfl,_,hw⟩:=DataW.trod_int hu h
    exact ⟨⟨n,rfl,hw⟩,trivial⟩
   case string=>
    cases hk
    obtain ⟨s,rfl,_,hs⟩:=DataW.trod_string hu h
    exact ⟨⟨s,rfl,hs⟩,trivial⟩
   case slice e=>
    cases hc:e4_ e with
    |none=>rw [hc] at hk;cases hk
    |some t=>
     rw [hc] at hk
     cases hk
     have he:=hcode e t hc
     rcases DataW.trod_slice hu h with ⟨rfl,_⟩|⟨a,len,cap,elems,kj_,n,hF,rfl,_,_,hl,hm,hlen,hel,_,_⟩
     · exact ⟨.inl rfl,trivial⟩
     · refine ⟨.inr ⟨a,len,cap,n,rfl,hl,hm,by omega,fun i hi => ?_⟩,trivial⟩
       have h1:=hel i hi
       rw [List.getElem?_eq_getElem (by omega)] at h1
       rw [Option.bind_eq_some_iff] at h1
       obtain ⟨cs,k1,k2⟩:=h1
       exact ⟨cs,_,by rw [he];exact k1,by rw [he];exact k2⟩
   case struct fs=>
    obtain ⟨xs,n,hF,_,hcl,hxl,hx⟩:=DataW.trod_struct hu h
    cases hks:kdsL P (kds P e4_ d) fs.toList 0 with
    |none=>rw [hks] at hk;cases hk
    |some ks'=>
     rw [hks] at hk
     obtain ⟨h1,h2⟩:=cp_ hk
     have h1:=c3_.1 h1
     cases h2
     subst hF
     have:=nR_ (e4_:=e4_) (eid:=eid) (n:=n) (cs:=cs) (fun T ks cs x k1 k2=>oa_ hcode d n T ks cs x k1 k2) fs.toList 0 ks hks (fun f hf=>by
      obtain ⟨i,hi⟩:=List.getElem?_of_mem hf
      have hi':fs[i]?=some f:=by simpa using hi
      have h3:=hx i f hi'
      have hlt:i<xs.length:=by rw [hxl];exact (Array.getElem?_eq_some_iff.1 hi').1
      rw [List.getElem?_eq_getElem hlt] at h3
      exact ⟨_,h3⟩) (by omega)
     exact (this.mono (Nat.le_succ n))
end
end Go.Pi
end
section
namespace Go.Pi
variable [aj_]
open aj_
variable {H:Type} {enc':TypeId × Value→H} {E:Env} {w:World} {spare:Nat→Bool}
abbrev NoF:Nat→Prop:=fun _=>False
omit [aj_] in
theorem lV_:∀ {ks:List Kd} {l c:List AV},k3_ ks l→sims .v l c→c=l
 |[],[],[],_,_=>rfl
 |k::ks,a::l,b::c,h,hs=>by
  have e:=lV_ h.2 hs.2
  subst e
  have h1:=h.1
  have h2:=hs.1
  cases k<;>obtain ⟨x,rfl⟩:=h1<;>simp only [AV.sim] at h2<;>rw [h2]
 |[],[],_::_,_,h=>h.elim
 |[],_::_,_,h,_=>h.elim
 |_::_,[],_,h,_=>h.elim
 |_::_,_::_,[],_,h=>h.elim
structure mP_ (E:Env) (e4_:TypeId→Option TC) (kinds:TC→List Kd) (d:Nat):Prop where
 codeOk:∀ e t,e4_ e=some t→E.eid t=e
 kdsOk:∀ t,kds E.P e4_ d (E.eid t)=some (kinds t)
 dec:∀ t l,k3_ (kinds t) l→∃ y,dec t l=some y
 cells:∀ t,E.P.cellsOf (E.eid t)=t.width
theorem pC_ [ak_] {t:TC} {N:Nat} (hel:∀ cs x,DataW.trod enc' E.P w 0 spare true N (E.eid t) cs=some x→∃ y:El t,RL E w NoF (enc .v t y) cs (fun _=>0)∧∀ c ∈ enc .v t y,Good c) {b o:Nat} (hW:E.P.cellsOf (E.eid t)=t.width) :
  ∀ len,(∀ i,i<len→∃ cs x,w.cells? 0 ((⟨b,o,none⟩:Addr).add (i*E.P.cellsOf (E.eid t))) (E.P.cellsOf (E.eid t))=some cs∧DataW.trod enc' E.P w 0 spare true N (E.eid t) cs=some x) →
  ∃ (xs:List (El t)) (vals:List Value),xs.length=len∧vals.length=len*t.width∧RL E w NoF (bh_ .v t xs) vals (fun _=>0)∧w.rangeAt b o vals∧∀ x ∈ xs,∀ c ∈ enc .v t x,Good c
 |0,_=>⟨[],[],rfl,by simp,RL.nil (fun _=>0) fun _=>rfl,fun j v h=>by simp at h,fun x hx=>by cases hx⟩
 |len+1,h=>by
  obtain ⟨xs,vals,h1,h2,h3,h4,h5⟩:=pC_ hel hW len fun i hi=>h i (by omega)
  obtain ⟨cs,x,k1,k2⟩:=h len (Nat.lt_succ_self _)
  obtain ⟨y,j1,j2⟩:=hel cs x k2
  obtain ⟨_,hl,hc⟩:=World.cells?_some k1
  rw [hW] at hl hc
  refine ⟨xs++[y],vals++cs,by simp [h1],by rw [List.length_append,h2,hl];exact (Nat.succ_mul _ _).symm,?_,fun j v hj => ?_,fun x hx => ?_⟩
  · rw [eF_]
    refine RL.append h3 (φ':=fun _=>0) ?_ (fun b=>rfl)
    simpa [bh_] using j1
  · by_cases hlt:j<vals.length
    · rw [List.getElem?_append_left hlt] at hj
      exact h4 j v hj
    · rw [List.getElem?_append_right (by omega)] at hj
      have hjl:j - vals.length<t.width:=by rw [←hl];exact (List.getElem?_eq_some_iff.1 hj).1
      have:=hc (j - vals.length) hjl
      rw [Addr.add_mid,Addr.add_mid,hj] at this
      rw [←this]
      congr 2
      omega
  · rcases List.mem_append.1 hx with hx|hx
    · exact h5 x hx
    · rw [List.mem_singleton] at hx;subst hx;exact j2
theorem cell_open [ak_] {e4_:TypeId→Option TC} {kinds:TC→List Kd} {d:Nat} (hk:mP_ E e4_ kinds d) {F:Nat} (ih:∀ N,N<F→∀ t cs x,DataW.trod enc' E.P w 0 spare true N (E.eid t) cs=some x→∃ y:El t,RL E w NoF (enc .v t y) cs (fun _=>0)∧∀ c ∈ enc .v t y,Good c) {k:Kd} {v:Value} (h:qE_ enc' E.P w spare E.eid F k v) :
  ∃ a,KindOk k a∧RL E w NoF [a] [v] (fun _=>0)∧Good a:=by
 cases k with
 |i k=>obtain ⟨n,rfl,hw⟩:=h;exact ⟨.i k n,⟨n,rfl⟩,.scal _ _ _ _ _ rfl (.nil _ fun _=>rfl),.i _ _ hw⟩
 |b=>obtain ⟨q,rfl⟩:=h;exact ⟨.b q,⟨q,rfl⟩,.scal _ _ _ _ _ rfl (.nil _ fun _=>rfl),.b _⟩
 |s=>
  obtain ⟨s,rfl,hs⟩:=h
  refine ⟨.s s.data.toList,⟨_,rfl⟩,.scal _ _ _ _ _ ?_ (.nil _ fun _=>rfl),.s _ ?_⟩
  · show Value.string s = .string ⟨s.data.toList.toArray⟩
    simp
  · rw [Array.length_toList];exact hs
 |sl t=>
  rcases h with rfl|⟨a,len,cap,N,rfl,hl,hm,hN,hel⟩
  · exact ⟨.sl .v t [],⟨_,rfl⟩,.view t [] none 0 0 [] (fun _=>0) _ _ _ ⟨rfl,Nat.le_refl _⟩ (.nil _ fun _=>rfl) (fun _=>rfl) (fun hp=>by omega) (.nil _ fun _=>rfl),.sl _ _ (Nat.zero_le _) (fun x hx=>by cases hx)⟩
  · cases len with
    |zero=>exact ⟨.sl .v t [],⟨_,rfl⟩,.view t [] (some a) 0 cap [] (fun _=>0) _ _ _ ⟨rfl,hl⟩ (.nil _ fun _=>rfl) (fun _=>rfl) (fun hp=>by omega) (.nil _ fun _=>rfl),.sl _ _ (Nat.zero_le _) (fun x hx=>by cases hx)⟩
    |succ len=>
     have hW:=hk.cells t
     have hpos:0<t.width:=ak_.pos t
     obtain ⟨cs0,x0,k1,_⟩:=hel 0 (Nat.succ_pos _)
     obtain ⟨_,hl0,hc0⟩:=World.cells?_some k1
     have hcell:=hc0 0 (by rw [hW];exact hpos)
     rw [List.getElem?_eq_getElem (by rw [hl0,hW];exact hpos)] at hcell
     have ha:a.spot=none:=by
      have h0:(a.add (0*E.P.cellsOf (E.eid t))).add 0=a:=by simp [Addr.add]
      rw [h0] at hcell
      unfold World.cell? at hcell
      split at hcell
      · cases hs:a.spot with
        |none=>rfl
        |some q=>simp [hs] at hcell
      · cases hcell
     obtain ⟨b,o,sp⟩:=a
     simp only at ha
     subst ha
     have hb:b<w.heap.size:=World.cells?_block k1 (by rw [hW];exact hpos) |> fun h=>by simpa [Addr.add] using h
     obtain ⟨xs,vals,e1,e2,e3,e4,e5⟩:=pC_ (ih N hN t) hW (len+1) hel
     refine ⟨.sl .v t xs,⟨_,rfl⟩,?_,.sl _ _ (by omega) e5⟩
     exact .view t xs (some ⟨b,o,none⟩) (len+1) cap vals (fun _=>0) _ _ _ ⟨e1.symm,hl⟩ e3 (fun _=>rfl) (fun _=>⟨b,o,rfl,e4,hb,fun h=>h⟩) (.nil _ fun _=>rfl)
theorem kC_ [ak_] {e4_:TypeId→Option TC} {kinds:TC→List Kd} {d:Nat} (hk:mP_ E e4_ kinds d) {F:Nat} (ih:∀ N,N<F→∀ t cs x,DataW.trod enc' E.P w 0 spare true N (E.eid t) cs=some x→∃ y:El t,RL E w NoF (enc .v t y) cs (fun _=>0)∧∀ c ∈ enc .v t y,Good c) :
  ∀ {ks:List Kd} {vs:List Value},fr_ enc' E.P w spare E.eid F ks vs→∃ l,k3_ ks l∧RL E w NoF l vs (fun _=>0)∧∀ c ∈ l,Good c
 |[],[],_=>⟨[],trivial,.nil _ fun _=>rfl,fun c hc=>by cases hc⟩
 |k::ks,v::vs,h=>by
  obtain ⟨a,h1,h2,h3⟩:=cell_open hk ih h.1
  obtain ⟨l,k1,k2,k3⟩:=kC_ hk ih h.2
  refine ⟨a::l,⟨h1,k1⟩,RL.cons h2 k2 (fun b=>rfl),fun c hc => ?_⟩
  rcases List.mem_cons.1 hc with rfl|hc
  · exact h3
  · exact k3 c hc
 |[],_::_,h=>h.elim
 |_::_,[],h=>h.elim
theorem el_open [ak_] {e4_:TypeId→Option TC} {kinds:TC→List Kd} {d:Nat} (hk:mP_ E e4_ kinds d):∀ (F:Nat) (t:TC) (cs:List Value) (x:DataW H × List MemPlace),DataW.trod enc' E.P w 0 spare true F (E.eid t) cs=some x →
  ∃ y:El t,RL E w NoF (enc .v t y) cs (fun _=>0)∧∀ c ∈ enc .v t y,Good c:=by
 intro F
 induction F using Nat.strongRecOn with
 |_ F ih=>
  intro t cs x h
  have h1:=oa_ hk.codeOk d F _ _ _ _ (hk.kdsOk t) h
  obtain ⟨l,h2,h3,h4⟩:=kC_ hk ih h1
  obtain ⟨y,hy⟩:=hk.dec t l h2
  have h5:=ak_.dec .v t l y hy
  have h6:=lV_ h2 h5
  exact ⟨y,by rw [h6];exact h3,by rw [h6];exact h4⟩
theorem arg_open [ak_] {e4_:TypeId→Option TC} {kinds:TC→List Kd} {d:Nat} (hk:mP_ E e4_ kinds d) {T:TypeId} {ks:List Kd} (hT:kds E.P e4_ d T=some ks) {v:Value} {dd:DataW H} {ps:List MemPlace} (h:DataW.Trod enc' E.P w 0 spare true T v dd ps) :
  ∃ l,k3_ ks l∧RL E w NoF l v.cells.toList (fun _=>0)∧∀ c ∈ l,Good c:=by
 obtain ⟨F,hF⟩:=h
 exact kC_ hk (fun N _=>el_open hk N) (oa_ hk.codeOk d F T ks _ _ hT hF)
end Go.Pi
end
section
namespace Go.Pi
open Go.RowKit
variable [aj_]
open aj_
omit [aj_] in
theorem dp_ {k:Kd} {ks:List Kd} {l:List AV} (h:k3_ (k::ks) l):∃ a l',l=a::l'∧KindOk k a∧k3_ ks l':=by
 cases l with
 |nil=>exact h.elim
 |cons a l=>exact ⟨a,l,rfl,h.1,h.2⟩
omit [aj_] in
theorem dV_ {l:List AV} (h:k3_ [] l):l=[]:=by
 cases l with
 |nil=>rfl
 |cons a l=>exact h.elim
def codeL (eid:TC→TypeId):List TC→TypeId→Option TC
 |[],_=>none
 |t::ts,e=>cond (Nat.beq (eid t) e) (some t) (codeL eid ts e)
omit [aj_] in
theorem sz_ {eid:TC→TypeId} {e:TypeId} {t:TC}:∀ ts,codeL eid ts e=some t→eid t=e
 |[],h=>by cases h
 |u::ts,h=>by
  simp only [codeL] at h
  cases hb:Nat.beq (eid u) e with
  |true=>rw [hb] at h;cases h;exact c3_.1 hb
  |false=>rw [hb] at h;exact sz_ ts h
theorem law_true [ak_] {E:Env} {f:FuncId} {avs:List AV} {outs:List AV} {ps:List PS} (h:fs_ E f avs (.b true) outs ps) {w:World} (hgl:Glob E w NoF) {Vs:List Value} (hr:RL E w NoF avs Vs (fun _=>0)) :
  Calls E.P f Vs.toArray w fun e W'=>e = .returned (.bool true)∧Below w.heap.size w W':=by
 refine (h w NoF Vs _ hr (fun _=>Nat.zero_le _) (fun b hb=>hb.elim) hgl).mono fun e W' ⟨V,φ',he,h1,_,_,e1,e2,e3,e4,e5⟩=>⟨?_,e1,e2,e3,e4,fun k hk=>e5 k hk rfl⟩
 cases h1 with
 |scal a v l vs φ hs _=>rw [he,show V = .bool true from hs]
end Go.Pi
end
section
namespace Go.Pi
open Go.Proofs Go.Proofs.YtmgcfhlcdhlafaaGreatDoor
open Go.ChangeShapes Go.WideShapes Go.ChangeAt Go.RowKit
def e4_:TypeId→Option TC:=codeL eid [.u8,.str,.int,.iJson,.iOp,.iRow,.s_iRow,.iCond,.iKid,.iMut,.iChange,.iEvent]
def kinds:TC→List Kd
 |.u8=>[.i .u8]
 |.str=>[.s]
 |.int=>[.i .i64]
 |.iJson=>[.i .i64,.i .i64,.s,.sl .iJson,.sl .str]
 |.iOp=>[.i .i64,.sl .str,.i .i64,.i .i64,.s,.sl .iJson,.sl .str]
 |.iRow=>[.i .i64,.sl .int]
 |.s_iRow=>[.sl .iRow]
 |.iCond=>[.i .i64,.i .i64,.i .i64]
 |.iKid=>[.i .i64,.i .i64]
 |.iMut=>[.i .i64,.i .i64,.i .i64,.sl .int]
 |.iChange=>[.i .i64,.b,.b,.i .i64,.sl .int,.i .i64,.sl .int]
 |.iEvent=>[.i .i64,.i .i64,.i .i64,.i .i64,.i .i64,.s,.sl .iJson,.sl .str,.sl .iOp]
theorem kindsOk:mP_ E e4_ kinds 12 where
 codeOk:=fun e t h=>sz_ _ h
 kdsOk:=by intro t;cases t<;>kernel_rfl
 cells:=by intro t;cases t<;>kernel_rfl
 dec:=by
  intro t l h
  cases t with
  |u8=>
   iterate 1 (replace h:=dp_ h;obtain ⟨_,_,rfl,⟨_,rfl⟩,h⟩:=h)
   replace h:=dV_ h;subst h;exact ⟨_,rfl⟩
  |str=>
   iterate 1 (replace h:=dp_ h;obtain ⟨_,_,rfl,⟨_,rfl⟩,h⟩:=h)
   replace h:=dV_ h;subst h;exact ⟨_,rfl⟩
  |int=>
   iterate 1 (replace h:=dp_ h;obtain ⟨_,_,rfl,⟨_,rfl⟩,h⟩:=h)
   replace h:=dV_ h;subst h;exact ⟨_,rfl⟩
  |iJson=>
   iterate 5 (replace h:=dp_ h;obtain ⟨_,_,rfl,⟨_,rfl⟩,h⟩:=h)
   replace h:=dV_ h;subst h;exact ⟨_,rfl⟩
  |iOp=>
   iterate 7 (replace h:=dp_ h;obtain ⟨_,_,rfl,⟨_,rfl⟩,h⟩:=h)
   replace h:=dV_ h;subst h;exact ⟨_,rfl⟩
  |iRow=>
   iterate 2 (replace h:=dp_ h;obtain ⟨_,_,rfl,⟨_,rfl⟩,h⟩:=h)
   replace h:=dV_ h;subst h;exact ⟨_,rfl⟩
  |s_iRow=>
   iterate 1 (replace h:=dp_ h;obtain ⟨_,_,rfl,⟨_,rfl⟩,h⟩:=h)
   replace h:=dV_ h;subst h;exact ⟨_,rfl⟩
  |iCond=>
   iterate 3 (replace h:=dp_ h;obtain ⟨_,_,rfl,⟨_,rfl⟩,h⟩:=h)
   replace h:=dV_ h;subst h;exact ⟨_,rfl⟩
  |iKid=>
   iterate 2 (replace h:=dp_ h;obtain ⟨_,_,rfl,⟨_,rfl⟩,h⟩:=h)
   replace h:=dV_ h;subst h;exact ⟨_,rfl⟩
  |iMut=>
   iterate 4 (replace h:=dp_ h;obtain ⟨_,_,rfl,⟨_,rfl⟩,h⟩:=h)
   replace h:=dV_ h;subst h;exact ⟨_,rfl⟩
  |iChange=>
   iterate 7 (replace h:=dp_ h;obtain ⟨_,_,rfl,⟨_,rfl⟩,h⟩:=h)
   replace h:=dV_ h;subst h;exact ⟨_,rfl⟩
  |iEvent=>
   iterate 9 (replace h:=dp_ h;obtain ⟨_,_,rfl,⟨_,rfl⟩,h⟩:=h)
   replace h:=dV_ h;subst h;exact ⟨_,rfl⟩
namespace laws_FnPieces
theorem own:ownKnob Tryz.prog.godebug=none:=by kernel_rfl
theorem laidOut:laidOutB Tryz.prog=true:=by kernel_rfl
def sR_:DataW Unit→ByteArray
 |.iface _ (.ptr (.agg [.lit (.string l)]))=>⟨l.toArray⟩
 |_=>ByteArray.empty
def tab1:DataW Unit→List Value
 |.lit (.int k n)=>[Value.int k n]
 |_=>[]
def tab2:DataW Unit→List Value
 |.agg l=>l.flatMap tab1
 |d=>tab1 d
def fO_:DataW Unit→Array Value
 |.agg l=>(l.flatMap tab2).toArray
 |_ => #[]
def Pure:Prop:=∀ (o:List Int),(∀ c ∈ ([.sl .v .u8 o]:List AV),Good c)→∃ n,Go.Pi.laws_FnPieces n o=some true
noncomputable def low:Nat:=(World.holding Tryz.prog default ⟨#[],#[],[]⟩).heap.size
noncomputable def pU_ (os:Os):World :=
 let w0:=World.holding Tryz.prog os ⟨#[.cells #[.string (sR_ Rows.laid_strconv_ErrRange)] 303,.cells #[.string (sR_ Rows.laid_strconv_ErrSyntax)] 303],#[],[]⟩
 let put:=fun (h:Array Obj) (g:Nat) (cs:Array Value)=>h.modify g fun
  |.cells _ t frozen=>.cells cs t frozen
  |o=>o
 { w0 with heap:=put (put (put (put (put (put (put (w0.heap) 4 (fO_ Rows.laid_math_bits_deBruijn32tab)) 5 (fO_ Rows.laid_math_bits_deBruijn64tab)) 3 (fO_ Rows.laid_internal_strconv_uint64pow10)) 7 (fO_ Rows.laid_unicode_utf8_acceptRanges)) 2 (#[.iface 301 (.pointer (some ⟨low+0,0,none⟩))])) 1 (#[.iface 301 (.pointer (some ⟨low+1,0,none⟩))])) 6 (fO_ Rows.laid_unicode_utf8_first) }
theorem oH_ (os:Os) (args:Array Value):laidMet Tryz.prog Rows.fnPiecesRow.laid ((pU_ os).forCall (fun _ _=>0) ⟨#[],args,[]⟩).memory :=
 laidMet_of_run' 8 (by kernel_rfl) (by kernel_rfl)
theorem lifted (hp:Pure) (os:Os) (started:os.Started) (H:Type) (enc:TypeId × Value→H) :
  ReturnsInHanded {} Tryz.checked os 6 .any (fun w args=>(Rows.fnPiecesSpec.pre enc Tryz.prog Tryz.f6 Rows.fnPiecesRow.domain false w args∧laidMet Tryz.prog Rows.fnPiecesRow.laid w)∧sizedMet enc Tryz.prog Tryz.f6 (OpenSpec.ofChange Rows.fnPiecesSpec) false w args) (Rows.fnPiecesSpec.post enc Tryz.prog Tryz.f6 false true false false):=by
 refine returnsInHanded_of_calls own started (by kernel_rfl) (ChangeSpec.witness_at (enc:=enc) (C:=Tryz.checked) (os:=os) (X:=fun w _=>laidMet Tryz.prog Rows.fnPiecesRow.laid w) false (pU_ os) #[.slice none 0 0] 8 rfl (by kernel_rfl) (by kernel_rfl) (by kernel_rfl) (by kernel_rfl) (by kernel_rfl) (oH_ os _)) ?_
 intro w0 tape inp _ hsh _ hok hpre _
 obtain ⟨_,_,_,fn',hfn',_,_,_,_,hval0⟩:=hok
 obtain rfl:fn'=Tryz.f6:=Option.some.inj (hfn'.symm.trans Tryz.func6)
 obtain ⟨⟨⟨ds,gs,before,hw0,hcnd⟩,hL0⟩,hz⟩:=hpre
 have hW:=DataW.Whole.of_heap (w':=w0.forCall tape inp) (by rfl) hw0
 have hL:laidMet Tryz.prog Rows.fnPiecesRow.laid (w0.forCall tape inp):=hL0.of_heap (by rfl)
 clear hw0 hL0 hz hfn' hcnd
 generalize w0.forCall tape inp=W at hsh hval0 hW hL ⊢
 generalize inp.args=args at hval0 hW ⊢
 generalize w0.heap.size=base at hval0
 suffices hgo:Calls Tryz.prog 6 args W fun e W'=>∃ v,e = .returned v∧Rows.fnPiecesSpec.post enc Tryz.prog Tryz.f6 false true false false W args v W' from hgo.mono fun e W' ⟨v,he,hp⟩=>by subst he;exact ChangeSpec.post_blind hp
 have hval:∀ (j:Nat) t v,Tryz.f6.params[j]?=some t→args[j]?=some v→Value.okWide Tryz.prog W .any base t v:=hval0
 have hW':=hW
 obtain ⟨p,q,hA0,hV,rfl,hfz,hnd⟩:=hW
 have hA:DataW.TrodAll enc Tryz.prog W 0 (fun _=>true) true Tryz.f6.params.toList args.toList ds p:=hA0
 rw [Tryz.params6] at hA hval
 obtain ⟨v0,vs0,d0,ds0,p0,q0,hargs,rfl,rfl,h0,r0⟩:=trodAll_cons hA
 obtain ⟨rfl,rfl,rfl⟩:=trodAll_nil r0
 obtain rfl:args = #[v0]:=by cases args;simp_all
 obtain ⟨rfl,rfl⟩:=trodVars_none hV
 obtain ⟨c0,len0,cap0,rfl⟩:=okWide_slice Tryz.underlying22 (hval 0 22 v0 rfl rfl)
 have lt0:∀ x ∈ p0,x.block<W.heap.size:=by obtain ⟨m,hm⟩:=h0;exact DataW.trod_lt m _ _ _ hm
 obtain ⟨l0,k0,e0,g0⟩:=arg_open kindsOk (T:=22) (ks:=[.sl .u8]) (by kernel_rfl) h0
 replace k0:=dp_ k0;obtain ⟨_,_,rfl,⟨z0,rfl⟩,k0⟩:=k0
 replace k0:=dV_ k0;subst k0
 have hT:Lib.TabIs Tryz.prog W "internal/strconv.uint64pow10" .u64 Lib.pow10Tab:=Lib.tabIs_of_head (t:=292) (e:=267) (n:=20) mx_ (by kernel_rfl) (by kernel_rfl) (by kernel_rfl) (by kernel_rfl) (by kernel_rfl) (show laidMet Tryz.prog ((_,Lib.tabData .u64 Lib.pow10Tab)::_) W from hL.tail.tail)
 obtain ⟨mx,hmx⟩:=cell_of_shapedOpen_int (g:=0) (t:=3) (k:=.i64) (zero:=#[.int .i64 0]) hsh (by decide +kernel) (by kernel_rfl) rfl (by kernel_rfl) (by kernel_rfl) (by kernel_rfl)
 have hgl:Glob E W NoF:=fun p hp=>by
  rcases List.mem_cons.1 hp with rfl|hp
  · obtain ⟨T,fr,h⟩:=tab_glob hT mx_;exact ⟨⟨_,T,fr,h,rfl⟩,fun h=>h.elim⟩
  rcases List.mem_cons.1 hp with rfl|hp
  · exact ⟨int_glob hmx,fun h=>h.elim⟩
  rcases List.mem_cons.1 hp with rfl|hp
  · exact ⟨sr_ (d:=.ptr (.agg [.lit (.string (sR_ Rows.laid_strconv_ErrSyntax).data.toList)])) (show laidMet Tryz.prog (("strconv.ErrSyntax", .iface "*errors.errorString" (.ptr (.agg [.lit (.string (sR_ Rows.laid_strconv_ErrSyntax).data.toList)])))::_) W from hL.tail.tail.tail.tail.tail) (by kernel_rfl) (by kernel_rfl),fun h=>h.elim⟩
  rcases List.mem_singleton.1 hp with rfl
  exact ⟨sr_ (d:=.ptr (.agg [.lit (.string (sR_ Rows.laid_strconv_ErrRange).data.toList)])) (show laidMet Tryz.prog (("strconv.ErrRange", .iface "*errors.errorString" (.ptr (.agg [.lit (.string (sR_ Rows.laid_strconv_ErrRange).data.toList)])))::_) W from hL.tail.tail.tail.tail) (by kernel_rfl) (by kernel_rfl),fun h=>h.elim⟩
 obtain ⟨n,hn⟩:=hp z0 g0
 refine (law_true ((AllE.get (e:=laws_FnPieces.e) 0 (allOk n) (by kernel_rfl)) (z0,()) _ hn) hgl (RL.cons e0 (.nil _ fun _=>rfl) (fun b=>rfl))).mono fun e W' ⟨he,bel⟩ => ?_
 subst he
 exact ⟨_,rfl,_,_,_,[],_,[],hW',trodAll_mk1 (shut_bool Tryz.underlying4 _),(trodAll_cons_mk (Below.trod laidOut (by kernel_rfl) (of_decide_eq_true (by kernel_rfl)) h0 bel lt0) trodAll_mk0),rfl,bel.frame _,fun h=>by cases h⟩
theorem jf0:(Rows.fnPiecesRow.wf (OpenSpec.ofChange Rows.fnPiecesSpec))=true:=by kernel_rfl
theorem jf1:(laidOutB Tryz.prog)=true:=by kernel_rfl
theorem jf2:(mapsRowed Tryz.prog)=true:=by kernel_rfl
theorem jf3:(Tryz.f6.params.all (Tryz.prog.readableRec ·))=true:=by kernel_rfl
theorem jf4:(namedTie Tryz.prog Rows.fnPiecesRow.named Rows.fnPiecesSpec.vars)=true:=by kernel_rfl
theorem jf5:((Rows.fnPiecesRow.stops == []))=true:=by kernel_rfl
theorem jf6:((Tryz.prog.stops == []))=true:=by kernel_rfl
theorem jf7:((Rows.fnPiecesRow.knobs == []))=true:=by kernel_rfl
theorem jf8:((Tryz.prog.stopKnobs == []))=true:=by kernel_rfl
theorem jf9:((Rows.fnPiecesRow.inPlace == Tryz.prog.inPlace 6))=true:=by kernel_rfl
theorem jf10:((Rows.fnPiecesRow.unfollowed == Tryz.prog.unfollowed 6))=true:=by kernel_rfl
theorem jf11:((Rows.fnPiecesRow.recurses == Tryz.prog.recurses 6))=true:=by kernel_rfl
theorem jf12:((Rows.fnPiecesRow.named == Tryz.prog.varsNamed 6))=true:=by kernel_rfl
theorem jf13:((Rows.fnPiecesRow.maps == (Tryz.f6.params.toList++Rows.fnPiecesSpec.plain.varTypes Tryz.prog).any (Tryz.prog.mapsRec ·)))=true:=by kernel_rfl
theorem jf14:((Rows.fnPiecesRow.ifaces == (Tryz.f6.params.toList++Rows.fnPiecesSpec.plain.varTypes Tryz.prog).any (Tryz.prog.ifacesRec ·)))=true:=by kernel_rfl
theorem jf15:((Rows.fnPiecesRow.mapsOut == Tryz.prog.mapsAmong Tryz.f6.resultTypes.toList))=true:=by kernel_rfl
theorem jf16:((Rows.fnPiecesRow.loops == (Tryz.f6.params.toList++Rows.fnPiecesSpec.plain.varTypes Tryz.prog).any (Tryz.prog.loopsFrom ·)))=true:=by kernel_rfl
theorem jf17:((Rows.fnPiecesRow.wideKeys == (Tryz.f6.params.toList++Rows.fnPiecesSpec.plain.varTypes Tryz.prog++Tryz.f6.resultTypes.toList).any (Tryz.prog.wideKeysFrom ·)))=true:=by kernel_rfl
theorem jf18:(Rows.fnPiecesSpec.vars.all (Tryz.prog.varReadable ·))=true:=by kernel_rfl
theorem jf19:(Tryz.f6.resultTypes.all (fun t=>Tryz.prog.readableRec t&&decide (t<Tryz.prog.types.size)))=true:=by kernel_rfl
theorem jf20:((Rows.fnPiecesRow.ifacesOut == Tryz.f6.resultTypes.toList.any (Tryz.prog.ifacesRec ·)))=true:=by kernel_rfl
theorem jf21:((Rows.fnPiecesRow.loopsOut == Tryz.f6.resultTypes.toList.any (Tryz.prog.loopsFrom ·)))=true:=by kernel_rfl
theorem jf22:((Rows.fnPiecesRow.plainKeys == Tryz.prog.plainKeys))=true:=by kernel_rfl
theorem jf23:(Rows.fnPiecesRow.shortTexts.isNone)=true:=by kernel_rfl
theorem jf24:(Tryz.prog.stopsHeard)=true:=by kernel_rfl
theorem jf25:(Tryz.prog.mayEnter)=true:=by kernel_rfl
theorem jf26:((Rows.fnPiecesRow.lifted == Tryz.prog.liftsFinal))=true:=by kernel_rfl
theorem jf27:((Tryz.prog.make == some Rows.fnPiecesRow.make))=true:=by kernel_rfl
theorem jf28:((Rows.fnPiecesRow.kinds == (if Rows.fnPiecesRow.domain.isEmpty then [] else Tryz.f6.params.toList.map fun t=>match Tryz.prog.underlying t with|some (.int k)=>some k|_=>none)))=true:=by kernel_rfl
theorem jf29:((Rows.fnPiecesRow.pinned == Rows.fnPiecesRow.pinnedBy))=true:=by kernel_rfl
theorem jf30:((Rows.fnPiecesRow.veiled == (Tryz.f6.params.toList++Rows.fnPiecesSpec.plain.varTypes Tryz.prog++Tryz.f6.resultTypes.toList).any (Tryz.prog.veiledRec ·)))=true:=by kernel_rfl
theorem jf31:(Rows.fnPiecesRow.veiledFits Tryz.prog Tryz.f6.params.toList (Tryz.f6.params.toList++Rows.fnPiecesSpec.plain.varTypes Tryz.prog++Tryz.f6.resultTypes.toList))=true:=by kernel_rfl
theorem jc_ {a b:Bool} (h:a=true) (k:b=true):(a&&b)=true:=by rw [h,k];rfl
theorem facts:joinedFacts Tryz.pinned.checked.prog 6 Tryz.f6 Rows.fnPiecesSpec Rows.fnPiecesRow=true:=(jc_ (jc_ (jc_ (jc_ (jc_ (jc_ (jc_ (jc_ (jc_ (jc_ (jc_ (jc_ (jc_ (jc_ (jc_ (jc_ (jc_ (jc_ (jc_ (jc_ (jc_ (jc_ (jc_ (jc_ (jc_ (jc_ (jc_ (jc_ (jc_ (jc_ (jc_ jf0 jf1) jf2) jf3) jf4) jf5) jf6) jf7) jf8) jf9) jf10) jf11) jf12) jf13) jf14) jf15) jf16) jf17) jf18) jf19) jf20) jf21) jf22) jf23) jf24) jf25) jf26) jf27) jf28) jf29) jf30) jf31)
theorem over (hp:Pure):Rows.fnPiecesRow.holds Tryz.pinned (OpenSpec.ofChange Rows.fnPiecesSpec) :=
 OpenClaim.holds_of_wide 6 Tryz.f6 rfl rfl rfl rfl rfl rfl rfl ⟨rfl,rfl,rfl,rfl,rfl⟩ rfl rfl rfl rfl rfl (by kernel_rfl) Tryz.func6 facts
  (of_decide_eq_true (by kernel_rfl)) (by unfold Func.isWrapper;first|(rw [if_pos (by decide +kernel)];kernel_rfl)|(rw [if_neg (by decide +kernel)];exact ⟨rfl,rfl⟩))
  (fun os started H enc _=>lifted hp os started H enc)
end laws_FnPieces
theorem laws_FnPieces.card (hp:laws_FnPieces.Pure):Rows.FnPiecesCardSaid :=
 Claim7.holds_tied_plain_at .later [] [.data,.data,.data,.data,.sentinel,.sentinel,.pinned] true (true, "731b7772da27f61403887da7ecfe18ed66ccaf2196a907d38826c3c3cd6f3b07") true
  (laws_FnPieces.over hp) (fun _ h=>by cases h) (by kernel_rfl) (fun _ h=>by cases h) fnPieces_row_tie rfl ⟨rfl,rfl⟩ (by kernel_rfl) rfl
  (fun f fn hf hfn=>by
    obtain rfl:f=6:=Option.some.inj ((show Tryz.prog.funcNamed "loop.example/g00198/laws.FnPieces" = some 6 by kernel_rfl).symm.trans hf) |>.symm
    obtain rfl:fn=Tryz.f6:=(Option.some.inj (Tryz.func6.symm.trans hfn)).symm
    exact ⟨by kernel_rfl,fun j t ht=>by
     rw [Tryz.params6] at ht
     have hm:t ∈ ([22]:List TypeId):=List.mem_of_getElem? (show ([22]:List TypeId)[j]?=some t by simpa using ht)
     have:=List.all_eq_true.1 (show ([22]:List TypeId).all (fun t => !Tryz.prog.wantsStandIn t)=true by kernel_rfl) t hm
     exact (by simpa using this:Tryz.prog.wantsStandIn t=false)⟩)
  (by kernel_rfl)
end Go.Pi
end
section
namespace Go.Pi
section
variable {α β:Type}
def Ev (f:Nat→Nat→Option α) (v:α):Prop:=∃ M,∀ n N,M≤n→M≤N→f n N=some v
theorem ae_ {v w:α}:Ev (fun _ _=>some v) w↔v=w :=
 ⟨fun ⟨M,h⟩=>Option.some.inj (h M M (Nat.le_refl _) (Nat.le_refl _)),fun h=>⟨0,fun _ _ _ _=>by rw [h]⟩⟩
theorem dE_ {f:Nat→Nat→Option α} {v w:α} (h:Ev f v):Ev f w↔v=w:=by
 constructor
 · rintro ⟨M',h'⟩
   obtain ⟨M,h⟩:=h
   have a:=h (max M M') (max M M') (by omega) (by omega)
   have b:=h' (max M M') (max M M') (by omega) (by omega)
   rw [a] at b
   exact Option.some.inj b
 · rintro rfl;exact h
theorem ab_ {f:Nat→Nat→Option α} {a:α} (h:Ev f a) {g:Nat→Nat→α→Option β} {v:β}:Ev (fun n N=>(f n N).bind (g n N)) v↔Ev (fun n N=>g n N a) v:=by
 obtain ⟨M,h⟩:=h
 constructor
 · rintro ⟨M',h'⟩
   refine ⟨max M M',fun n N h1 h2 => ?_⟩
   have:=h' n N (by omega) (by omega)
   simp only [h n N (by omega) (by omega),Option.bind_some] at this
   exact this
 · rintro ⟨M',h'⟩
   refine ⟨max M M',fun n N h1 h2 => ?_⟩
   simp only [h n N (by omega) (by omega),Option.bind_some]
   exact h' n N (by omega) (by omega)
theorem dC_ {v:α}:Ev (fun _ _=>none) v↔False:=by
 simp only [iff_false]
 rintro ⟨M,h⟩
 cases h M M (Nat.le_refl _) (Nat.le_refl _)
theorem al_ {c:Bool} {f g:Nat→Nat→Option α} {v:α}:Ev (fun n N=>cond c (f n N) (g n N)) v↔(c=true→Ev f v)∧(c=false→Ev g v):=by
 cases c<;>simp
theorem bb_ {i:Int} {len:Nat} {f:Nat→Nat→Option α} {v:α}:Ev (fun n N=>inB i len (f n N)) v↔(0≤i∧i<(len:Int))∧Ev f v:=by
 unfold inB
 rw [al_,al_]
 by_cases h1:0≤i<;>by_cases h2:i<(len:Int)<;>simp [h1,h2,dC_]
theorem ao_ {f:Nat→Nat→Option α} {v:α} (h:Ev (fun n N=>f (n+1) N) v):Ev f v:=by
 obtain ⟨M,h⟩:=h
 refine ⟨M+1,fun n N h1 h2 => ?_⟩
 obtain ⟨m,rfl⟩:∃ m,n=m+1:=⟨n - 1,by omega⟩
 exact h m N (by omega) (by omega)
theorem cZ_ {f:Nat→Nat→Option α} {v:α} (h:Ev f v):Ev (fun n _=>f n n) v:=by
 obtain ⟨M,h⟩:=h
 exact ⟨M,fun n N h1 h2=>h n n h1 h1⟩
theorem a9_ {f:Nat→Nat→Option α} {v:α} (h:Ev (fun n N=>f n (N+1)) v):Ev f v:=by
 obtain ⟨M,h⟩:=h
 refine ⟨M+1,fun n N h1 h2 => ?_⟩
 obtain ⟨m,rfl⟩:∃ m,N=m+1:=⟨N - 1,by omega⟩
 exact h n m (by omega) (by omega)
theorem ev_ex {f:Nat→Option α} {v:α} (h:Ev (fun n _=>f n) v):∃ n,f n=some v:=by
 obtain ⟨M,h⟩:=h
 exact ⟨M,h M M (Nat.le_refl _) (Nat.le_refl _)⟩
end
abbrev cb_:Nat:=9223372036854775807
theorem W_id {n:Int} (h : -9223372036854775808≤n) (h':n<9223372036854775808):W n=n:=by
 show IntKind.i64.wrap n=n
 rw [IntKind.wrap_i64];omega
theorem W_up {i:Nat} {len:Nat} (h:i<len) (hl:len≤cb_):W ((i:Int)+1)=((i+1:Nat):Int):=by
 rw [W_id (by omega) (by simp only [cb_] at hl;omega)];omega
theorem dM_ {α:Type} (d:α) {a:List α} {i:Nat} (h:i<a.length):a.drop i=a.getD i d::a.drop (i+1):=by
 rw [List.drop_eq_getElem_cons h,List.getD_eq_getElem?_getD,List.getElem?_eq_getElem h];rfl
theorem su_ {α:Type} {a:List α} {i:Nat} (h:a.length≤i):a.drop i=[]:=List.drop_eq_nil_of_le h
theorem bY_ {α:Type} (d:α) {a:List α} {i:Nat} (h:i<a.length):a.getD i d ∈ a:=by
 rw [List.getD_eq_getElem?_getD,List.getElem?_eq_getElem h];exact List.getElem_mem h
end Go.Pi
end
section
namespace Go.Pi
theorem cf_.turn4 {n N k}:cf_.loop4 n k (N+1)=cf_.step4 n k (cf_.loop4 n k N):=rfl
theorem cF_.turn3 {n N k}:cF_.loop3 n k (N+1)=cF_.step3 n k (cF_.loop3 n k N):=rfl
theorem bO_.turn5 {n N k}:bO_.loop5 n k (N+1)=bO_.step5 n k (bO_.loop5 n k N):=rfl
theorem ac_.turn20 {n N k0 k1}:ac_.loop20 n k0 k1 (N+1)=ac_.step20 n k0 k1 (ac_.loop20 n k0 k1 N):=rfl
theorem ac_.turn28 {n N k0 k1}:ac_.loop28 n k0 k1 (N+1)=ac_.step28 n k0 k1 (ac_.loop28 n k0 k1 N):=rfl
theorem aL_.turn4 {n N k}:aL_.loop4 n k (N+1)=aL_.step4 n k (aL_.loop4 n k N):=rfl
theorem a3_.turn3 {n N k}:a3_.loop3 n k (N+1)=a3_.step3 n k (a3_.loop3 n k N):=rfl
theorem a6_.turn4 {n N k}:a6_.loop4 n k (N+1)=a6_.step4 n k (a6_.loop4 n k N):=rfl
theorem ck_.turn3 {n N k}:ck_.loop3 n k (N+1)=ck_.step3 n k (ck_.loop3 n k N):=rfl
theorem bl_.turn5 {n N k}:bl_.loop5 n k (N+1)=bl_.step5 n k (bl_.loop5 n k N):=rfl
theorem bI_.turn6 {n N k}:bI_.loop6 n k (N+1)=bI_.step6 n k (bI_.loop6 n k N):=rfl
theorem a1_.turn4 {n N k}:a1_.loop4 n k (N+1)=a1_.step4 n k (a1_.loop4 n k N):=rfl
theorem aP_.turn4 {n N k}:aP_.loop4 n k (N+1)=aP_.step4 n k (aP_.loop4 n k N):=rfl
theorem ai_.turn7 {n N k}:ai_.loop7 n k (N+1)=ai_.step7 n k (ai_.loop7 n k N):=rfl
theorem ai_.turn16 {n N k}:ai_.loop16 n k (N+1)=ai_.step16 n k (ai_.loop16 n k N):=rfl
theorem cn_.turn6 {n N k}:cn_.loop6 n k (N+1)=cn_.step6 n k (cn_.loop6 n k N):=rfl
theorem b5_.turn3 {n N k}:b5_.loop3 n k (N+1)=b5_.step3 n k (b5_.loop3 n k N):=rfl
theorem bC_.turn6 {n N k}:bC_.loop6 n k (N+1)=bC_.step6 n k (bC_.loop6 n k N):=rfl
theorem aA_.turn7 {n N k}:aA_.loop7 n k (N+1)=aA_.step7 n k (aA_.loop7 n k N):=rfl
theorem aA_.turn16 {n N k}:aA_.loop16 n k (N+1)=aA_.step16 n k (aA_.loop16 n k N):=rfl
theorem bT_.turn3 {n N k}:bT_.loop3 n k (N+1)=bT_.step3 n k (bT_.loop3 n k N):=rfl
theorem bX_.turn5 {n N k}:bX_.loop5 n k (N+1)=bX_.step5 n k (bX_.loop5 n k N):=rfl
theorem bM_.turn8 {n N k}:bM_.loop8 n k (N+1)=bM_.step8 n k (bM_.loop8 n k N):=rfl
theorem aQ_.turn5 {n N k}:aQ_.loop5 n k (N+1)=aQ_.step5 n k (aQ_.loop5 n k N):=rfl
theorem b4_.turn8 {n N k}:b4_.loop8 n k (N+1)=b4_.step8 n k (b4_.loop8 n k N):=rfl
theorem bZ_.turn4 {n N k}:bZ_.loop4 n k (N+1)=bZ_.step4 n k (bZ_.loop4 n k N):=rfl
theorem b9_.turn3 {n N k}:b9_.loop3 n k (N+1)=b9_.step3 n k (b9_.loop3 n k N):=rfl
theorem bd_.turn4 {n N k}:bd_.loop4 n k (N+1)=bd_.step4 n k (bd_.loop4 n k N):=rfl
theorem aV_.turn7 {n N k}:aV_.loop7 n k (N+1)=aV_.step7 n k (aV_.loop7 n k N):=rfl
theorem bR_.turn4 {n N k}:bR_.loop4 n k (N+1)=bR_.step4 n k (bR_.loop4 n k N):=rfl
theorem b7_.turn3 {n N k}:b7_.loop3 n k (N+1)=b7_.step3 n k (b7_.loop3 n k N):=rfl
theorem ag_.turn6 {n N k}:ag_.loop6 n k (N+1)=ag_.step6 n k (ag_.loop6 n k N):=rfl
theorem aR_.turn23 {n N k0 k1}:aR_.loop23 n k0 k1 (N+1)=aR_.step23 n k0 k1 (aR_.loop23 n k0 k1 N):=rfl
theorem cl_.turn4 {n N k}:cl_.loop4 n k (N+1)=cl_.step4 n k (cl_.loop4 n k N):=rfl
theorem aq_.turn6 {n N k0 k1}:aq_.loop6 n k0 k1 (N+1)=aq_.step6 n k0 k1 (aq_.loop6 n k0 k1 N):=rfl
theorem aq_.turn14 {n N k0 k1}:aq_.loop14 n k0 k1 (N+1)=aq_.step14 n k0 k1 (aq_.loop14 n k0 k1 N):=rfl
theorem bL_.turn3 {n N k}:bL_.loop3 n k (N+1)=bL_.step3 n k (bL_.loop3 n k N):=rfl
theorem b2_.turn3 {n N k}:b2_.loop3 n k (N+1)=b2_.step3 n k (b2_.loop3 n k N):=rfl
theorem bu_.turn5 {n N k}:bu_.loop5 n k (N+1)=bu_.step5 n k (bu_.loop5 n k N):=rfl
theorem cy_.turn3 {n N k}:cy_.loop3 n k (N+1)=cy_.step3 n k (cy_.loop3 n k N):=rfl
theorem aK_.turn3 {n N k}:aK_.loop3 n k (N+1)=aK_.step3 n k (aK_.loop3 n k N):=rfl
theorem aK_.turn11 {n N k}:aK_.loop11 n k (N+1)=aK_.step11 n k (aK_.loop11 n k N):=rfl
theorem bq_.turn4 {n N k0 k1}:bq_.loop4 n k0 k1 (N+1)=bq_.step4 n k0 k1 (bq_.loop4 n k0 k1 N):=rfl
theorem aI_.turn5 {n N k}:aI_.loop5 n k (N+1)=aI_.step5 n k (aI_.loop5 n k N):=rfl
theorem aI_.turn13 {n N k}:aI_.loop13 n k (N+1)=aI_.step13 n k (aI_.loop13 n k N):=rfl
theorem cg_.turn4 {n N k}:cg_.loop4 n k (N+1)=cg_.step4 n k (cg_.loop4 n k N):=rfl
theorem cv_.turn6 {n N k}:cv_.loop6 n k (N+1)=cv_.step6 n k (cv_.loop6 n k N):=rfl
theorem aF_.turn10 {n N k}:aF_.loop10 n k (N+1)=aF_.step10 n k (aF_.loop10 n k N):=rfl
theorem aF_.turn4 {n N k}:aF_.loop4 n k (N+1)=aF_.step4 n k (aF_.loop4 n k N):=rfl
theorem bx_.turn4 {n N k}:bx_.loop4 n k (N+1)=bx_.step4 n k (bx_.loop4 n k N):=rfl
theorem aO_.turn17 {n N k0 k1}:aO_.loop17 n k0 k1 (N+1)=aO_.step17 n k0 k1 (aO_.loop17 n k0 k1 N):=rfl
theorem a5_.turn4 {n N k}:a5_.loop4 n k (N+1)=a5_.step4 n k (a5_.loop4 n k N):=rfl
theorem bz_.turn4 {n N k}:bz_.loop4 n k (N+1)=bz_.step4 n k (bz_.loop4 n k N):=rfl
theorem aB_.turn5 {n N k}:aB_.loop5 n k (N+1)=aB_.step5 n k (aB_.loop5 n k N):=rfl
theorem bD_.turn12 {n N k}:bD_.loop12 n k (N+1)=bD_.step12 n k (bD_.loop12 n k N):=rfl
theorem aU_.turn4 {n N k}:aU_.loop4 n k (N+1)=aU_.step4 n k (aU_.loop4 n k N):=rfl
theorem as_.turn5 {n N k}:as_.loop5 n k (N+1)=as_.step5 n k (as_.loop5 n k N):=rfl
theorem bQ_.turn4 {n N k}:bQ_.loop4 n k (N+1)=bQ_.step4 n k (bQ_.loop4 n k N):=rfl
theorem aT_.turn4 {n N k}:aT_.loop4 n k (N+1)=aT_.step4 n k (aT_.loop4 n k N):=rfl
theorem bt_.turn11 {n N k}:bt_.loop11 n k (N+1)=bt_.step11 n k (bt_.loop11 n k N):=rfl
theorem av_.turn4 {n N k}:av_.loop4 n k (N+1)=av_.step4 n k (av_.loop4 n k N):=rfl
theorem ap_.turn3 {n N k}:ap_.loop3 n k (N+1)=ap_.step3 n k (ap_.loop3 n k N):=rfl
theorem am_.turn7 {n N k0 k1}:am_.loop7 n k0 k1 (N+1)=am_.step7 n k0 k1 (am_.loop7 n k0 k1 N):=rfl
theorem ay_.turn3 {n N k}:ay_.loop3 n k (N+1)=ay_.step3 n k (ay_.loop3 n k N):=rfl
theorem au_.turn3 {n N k}:au_.loop3 n k (N+1)=au_.step3 n k (au_.loop3 n k N):=rfl
theorem bK_.turn7 {n N k0 k1}:bK_.loop7 n k0 k1 (N+1)=bK_.step7 n k0 k1 (bK_.loop7 n k0 k1 N):=rfl
theorem b0_.turn4 {n N k}:b0_.loop4 n k (N+1)=b0_.step4 n k (b0_.loop4 n k N):=rfl
theorem bc_.turn4 {n N k0 k1}:bc_.loop4 n k0 k1 (N+1)=bc_.step4 n k0 k1 (bc_.loop4 n k0 k1 N):=rfl
theorem aG_.turn3 {n N k}:aG_.loop3 n k (N+1)=aG_.step3 n k (aG_.loop3 n k N):=rfl
theorem a7_.turn4 {n N k0 k1}:a7_.loop4 n k0 k1 (N+1)=a7_.step4 n k0 k1 (a7_.loop4 n k0 k1 N):=rfl
theorem bV_.turn4 {n N k}:bV_.loop4 n k (N+1)=bV_.step4 n k (bV_.loop4 n k N):=rfl
theorem bE_.turn7 {n N k}:bE_.loop7 n k (N+1)=bE_.step7 n k (bE_.loop7 n k N):=rfl
theorem cw_.turn3 {n N k}:cw_.loop3 n k (N+1)=cw_.step3 n k (cw_.loop3 n k N):=rfl
theorem aJ_.turn6 {n N k}:aJ_.loop6 n k (N+1)=aJ_.step6 n k (aJ_.loop6 n k N):=rfl
theorem ah_.turn6 {n N k0 k1}:ah_.loop6 n k0 k1 (N+1)=ah_.step6 n k0 k1 (ah_.loop6 n k0 k1 N):=rfl
theorem b1_.turn4 {n N k}:b1_.loop4 n k (N+1)=b1_.step4 n k (b1_.loop4 n k N):=rfl
theorem bv_.turn4 {n N k}:bv_.loop4 n k (N+1)=bv_.step4 n k (bv_.loop4 n k N):=rfl
theorem cd_.turn5 {n N k}:cd_.loop5 n k (N+1)=cd_.step5 n k (cd_.loop5 n k N):=rfl
theorem b3_.turn3 {n N k}:b3_.loop3 n k (N+1)=b3_.step3 n k (b3_.loop3 n k N):=rfl
theorem bo_.turn5 {n N k}:bo_.loop5 n k (N+1)=bo_.step5 n k (bo_.loop5 n k N):=rfl
theorem aE_.turn7 {n N k}:aE_.loop7 n k (N+1)=aE_.step7 n k (aE_.loop7 n k N):=rfl
theorem aH_.turn4 {n N k}:aH_.loop4 n k (N+1)=aH_.step4 n k (aH_.loop4 n k N):=rfl
theorem aY_.turn8 {n N k0 k1}:aY_.loop8 n k0 k1 (N+1)=aY_.step8 n k0 k1 (aY_.loop8 n k0 k1 N):=rfl
theorem a4_.turn6 {n N k}:a4_.loop6 n k (N+1)=a4_.step6 n k (a4_.loop6 n k N):=rfl
theorem bg_.turn7 {n N k}:bg_.loop7 n k (N+1)=bg_.step7 n k (bg_.loop7 n k N):=rfl
theorem ad_.turn20 {n N k}:ad_.loop20 n k (N+1)=ad_.step20 n k (ad_.loop20 n k N):=rfl
theorem ad_.turn5 {n N k}:ad_.loop5 n k (N+1)=ad_.step5 n k (ad_.loop5 n k N):=rfl
theorem cs_.turn8 {n N k}:cs_.loop8 n k (N+1)=cs_.step8 n k (cs_.loop8 n k N):=rfl
theorem a2_.turn4 {n N k}:a2_.loop4 n k (N+1)=a2_.step4 n k (a2_.loop4 n k N):=rfl
theorem aM_.turn4 {n N k}:aM_.loop4 n k (N+1)=aM_.step4 n k (aM_.loop4 n k N):=rfl
theorem b6_.turn4 {n N k}:b6_.loop4 n k (N+1)=b6_.step4 n k (b6_.loop4 n k N):=rfl
theorem bN_.turn4 {n N k}:bN_.loop4 n k (N+1)=bN_.step4 n k (bN_.loop4 n k N):=rfl
theorem laws_FnPieces.turn20 {n N k}:laws_FnPieces.loop20 n k (N+1)=laws_FnPieces.step20 n k (laws_FnPieces.loop20 n k N):=rfl
end Go.Pi
end
section
namespace Go.Pi
def ii_ (p:Nat→Bool):Nat→Nat→Bool
 |0,_=>true
 |d+1,i=>p i&&ii_ p d (i+1)
def iG_ (p:Nat→Bool) (len:Nat):Bool:=ii_ p len 0
theorem e3_ (L:Nat→Nat→Nat→Option Bool) (p:Nat→Bool) {len:Nat} {v:Bool}
  (h:∀ i w,i<len→Ev (fun n N=>L n N (i+1)) w→Ev (fun n N=>L n (N+1) i) (p i&&w)) (h2:Ev (fun n N=>L n (N+1) len) v) :
  Ev (fun n _=>L n n 0) (iG_ p len&&v):=by
 have key:∀ d i,d+i=len→Ev (fun n N=>L n N i) (ii_ p d i&&v):=by
  intro d
  induction d with
  |zero=>intro i hd;obtain rfl:i=len:=by omega
         simpa [ii_] using a9_ (f:=fun n N=>L n N i) h2
  |succ d ih=>intro i hd
              have:=h i _ (by omega) (ih (i+1) (by omega))
              rw [←Bool.and_assoc] at this
              exact a9_ (f:=fun n N=>L n N i) this
 exact cZ_ (f:=fun n N=>L n N 0) (key len 0 (by omega))
theorem ge_ {α:Type} {f:Nat→Nat→Option α} {v w:α} (h:Ev f v) (e:v=w):Ev f w:=e ▸ h
def inn (x lo hi:Int):Bool:=decide (lo≤x)&&decide (x≤hi)
theorem i8_ {x lo hi:Int}:inn x lo hi=true↔lo≤x∧x≤hi:=by simp [inn]
theorem l1In_ev {x lo hi:Int}:Ev (fun n _=>b8_ n x lo hi) (inn x lo hi):=by
 refine ao_ ?_
 simp only [b8_,al_,ae_,inn]
 grind
theorem pi_ {x lo hi:Int}:Ev (fun n _=>aN_ n x lo hi) (inn x lo hi):=by
 refine ao_ ?_
 simp only [aN_,al_,ae_,inn]
 grind
section
variable {β:Type} {x lo hi:Int} {g:Nat→Nat→Bool→Option β} {v:β}
theorem fT_:Ev (fun n N=>(b8_ n x lo hi).bind (g n N)) v↔Ev (fun n N=>g n N (inn x lo hi)) v:=ab_ l1In_ev
theorem gE_:Ev (fun n N=>(aN_ n x lo hi).bind (g n N)) v↔Ev (fun n N=>g n N (inn x lo hi)) v:=ab_ pi_
theorem isNum_b:Ev (fun n N=>(bp_ n x).bind (g n N)) v↔Ev (fun n N=>g n N (inn x (-1000000000) 1000000000)) v :=
 ab_ (ao_ (by simp only [bp_,gE_,ae_]))
end
theorem cC_ {i len:Nat} (h:i<len):decide ((i:Int)<(len:Int))=true:=by simp;omega
theorem cr_ {len:Nat}:decide ((len:Int)<(len:Int))=false:=by simp
theorem ch_ {i len:Nat} (h:i<len):((0:Int)≤(i:Int)∧(i:Int)<(len:Int))↔True:=by simp;omega
end Go.Pi
end
section
namespace Go.Pi
abbrev cap:Nat:=1048576
def eo_ {α:Type} (f:α→Nat):List α→Nat
 |[]=>0
 |x::xs=>f x+eo_ f xs
def i0_ {α:Type} (f:α→Nat) (l:List α):Nat:=l.length+eo_ f l
def lenL {α:Type} (P:α→Prop) (l:List α):Prop:=l.length≤cb_∧∀ x ∈ l,P x
def szB (s:Bs):Nat:=s.length
def lenI (_:Int):Prop:=True
def lenB (s:Bs):Prop:=s.length≤cb_
theorem jp_ {α:Type} (f:α→Nat) (d:α) {a:List α} {i:Nat} (h:i<a.length):eo_ f (a.drop i)=f (a.getD i d)+eo_ f (a.drop (i+1)):=by
 rw [dM_ d h];rfl
theorem iW_ {α:Type} (f:α→Nat) {a:List α} {x:α} (h:x ∈ a):f x≤eo_ f a:=by
 induction a with
 |nil=>cases h
 |cons y a ih=>
  simp only [eo_]
  rcases List.mem_cons.1 h with rfl|h
  · omega
  · have:=ih h;omega
end Go.Pi
end
section
namespace Go.Pi
theorem W_dn {i:Nat} (h:i≤cb_):W ((i:Int) - 1)=(i:Int) - 1:=by
 rw [W_id (by omega) (by simp only [cb_] at h;omega)]
theorem lk_ {i:Nat}:((i:Int) - 1).toNat=i - 1:=by omega
theorem gM_ {x lo hi:Int} (h:inn x lo hi=true):lo≤x∧x≤hi:=i8_.1 h
def gO_ {α:Type} (s:Nat→α→α) (v:α):Nat→Nat→α
 |0,_=>v
 |d+1,i=>s i (gO_ s v d (i+1))
theorem mC_ {α:Type} (L:Nat→Nat→Nat→Option α) (s:Nat→α→α) {len:Nat} {v:α}
  (h:∀ i w,i<len→Ev (fun n N=>L n N (i+1)) w→Ev (fun n N=>L n (N+1) i) (s i w)) (h2:Ev (fun n N=>L n (N+1) len) v) :
  Ev (fun n _=>L n n 0) (gO_ s v len 0):=by
 have key:∀ d i,d+i=len→Ev (fun n N=>L n N i) (gO_ s v d i):=by
  intro d
  induction d with
  |zero=>intro i hd;obtain rfl:i=len:=by omega
         exact a9_ (f:=fun n N=>L n N i) h2
  |succ d ih=>intro i hd
              exact a9_ (f:=fun n N=>L n N i) (h i _ (by omega) (ih (i+1) (by omega)))
 exact cZ_ (f:=fun n N=>L n N 0) (key len 0 (by omega))
theorem ba_ {α:Type} {n b:Nat} {f:Nat→Nat→Option α} {v:α}:Ev (fun m N=>bm_ n b (f m N)) v↔n*b≤140737488355328∧Ev f v:=by
 unfold bm_
 rw [al_]
 by_cases h:n*b≤140737488355328<;>simp [h,dC_]
theorem qh_ {α β γ:Type} (d:α) (a:List α) (f:α→β) (L:Nat→Nat→Nat→List β→Option γ) (v:γ)
  (h1:∀ i s,i<a.length→s.length=i→∀ F,Ev (fun n N=>L n N (i+1) (s++[f (a.getD i d)])) F→Ev (fun n N=>L n (N+1) i s) F)
  (h2:Ev (fun n N=>L n (N+1) a.length (a.map f)) v):Ev (fun n _=>L n n 0 []) v:=by
 have key:∀ j i,j+i=a.length→Ev (fun n N=>L n N i ((a.take i).map f)) v:=by
  intro j
  induction j with
  |zero=>
   intro i hi
   have:i=a.length:=by omega
   subst this
   rw [List.take_of_length_le (Nat.le_refl _)]
   exact a9_ h2
  |succ j ih=>
   intro i hi
   refine a9_ (h1 i _ (by omega) (by simp;omega) _ ?_)
   have:=ih (i+1) (by omega)
   rw [List.take_add_one,List.map_append] at this
   have e:a[i]?.toList=[a.getD i d]:=by
    rw [List.getD_eq_getElem?_getD,List.getElem?_eq_getElem (by omega)];rfl
   rw [e] at this
   exact this
 have:=key a.length 0 (by omega)
 exact cZ_ (f:=fun n N=>L n N 0 []) this
abbrev fg_:Nat:=1073741824
theorem eI_ {α γ:Type} (S:Nat→α) (len:Nat) (L:Nat→Nat→Nat→α→Option γ) (v:γ)
  (h1:∀ i,i<len→∀ F,Ev (fun n N=>L n N (i+1) (S (i+1))) F→Ev (fun n N=>L n (N+1) i (S i)) F)
  (h2:Ev (fun n N=>L n (N+1) len (S len)) v):Ev (fun n _=>L n n 0 (S 0)) v:=by
 have key:∀ j i,j+i=len→Ev (fun n N=>L n N i (S i)) v:=by
  intro j
  induction j with
  |zero=>
   intro i hi
   have:i=len:=by omega
   subst this
   exact a9_ h2
  |succ j ih=>exact fun i hi=>a9_ (h1 i (by omega) _ (ih (i+1) (by omega)))
 exact cZ_ (f:=fun n N=>L n N 0 (S 0)) (key len 0 (by omega))
theorem cE_ {α:Type} (d:α) {a:List α} {i:Nat} (h:i<a.length):a.take (i+1)=a.take i++[a.getD i d]:=by
 rw [List.take_add_one,List.getD_eq_getElem?_getD,List.getElem?_eq_getElem h];rfl
theorem gN_ {α:Type} (d:α) (P:α→Bool):∀ (rows:List α),gO_ (fun i (x:Int)=>cond (P (rows.getD i d)) (i:Int) x) (-1) rows.length 0=if rows.findIdx P<rows.length then (rows.findIdx P:Int) else -1:=by
 intro rows
 have key:∀ j i,j+i=rows.length→(∀ k,k<i→P (rows.getD k d)=false)→gO_ (fun i (x:Int)=>cond (P (rows.getD i d)) (i:Int) x) (-1) j i=if rows.findIdx P<rows.length then (rows.findIdx P:Int) else -1:=by
  intro j
  induction j with
  |zero=>
   intro i hi hk
   have:¬ rows.findIdx P<rows.length:=by
    intro h
    have h1:=List.findIdx_getElem (w:=h)
    have h2:=hk _ (show rows.findIdx P<i by omega)
    rw [List.getD_eq_getElem?_getD,List.getElem?_eq_getElem h] at h2
    simp only [Option.getD_some] at h2
    rw [h1] at h2;cases h2
   rw [if_neg this];rfl
  |succ j ih=>
   intro i hi hk
   simp only [gO_]
   cases hp:P (rows.getD i d) with
   |true=>
    have hlt:i<rows.length:=by omega
    rw [List.getD_eq_getElem?_getD,List.getElem?_eq_getElem hlt] at hp
    have e:rows.findIdx P=i:=by
     apply Nat.le_antisymm
     · exact Nat.le_of_not_lt fun h=>by have:=List.not_of_lt_findIdx h;rw [Option.getD_some] at hp;rw [hp] at this;cases this
     · exact Nat.le_of_not_lt fun h=>by
        have h2:=hk _ h
        have hl:rows.findIdx P<rows.length:=by omega
        rw [List.getD_eq_getElem?_getD,List.getElem?_eq_getElem hl] at h2
        rw [Option.getD_some,List.findIdx_getElem (w:=hl)] at h2;cases h2
    rw [e,if_pos hlt];rfl
   |false=>
    rw [cond_false]
    exact ih (i+1) (by omega) fun k hk'=>by
     by_cases e:k=i
     · subst e;exact hp
     · exact hk k (by omega)
 exact key rows.length 0 (by omega) fun k hk=>by omega
theorem d1_ {α:Type} {lo hi:Int} {len:Nat} {f:Nat→Nat→Option α} {v:α}:Ev (fun n N=>gf_ lo hi len (f n N)) v↔(0≤lo∧lo≤hi∧hi≤(len:Int))∧Ev f v:=by
 unfold gf_
 simp only [al_,dC_]
 by_cases h1:0≤lo<;>by_cases h2:lo≤hi<;>by_cases h3:hi≤(len:Int)<;>simp [h1,h2,h3]
theorem e8_ {p:Nat→Bool} {len:Nat}:iG_ p len=true↔∀ i,i<len→p i=true:=by
 have key:∀ d i,d+i=len→(ii_ p d i=true↔∀ k,i≤k→k<len→p k=true):=by
  intro d
  induction d with
  |zero=>intro i hi;simp only [ii_,true_iff];intro k h1 h2;omega
  |succ d ih=>
   intro i hi
   simp only [ii_,Bool.and_eq_true,ih (i+1) (by omega)]
   constructor
   · rintro ⟨h1,h2⟩ k h3 h4
     by_cases e:k=i
     · subst e;exact h1
     · exact h2 k (by omega) h4
   · exact fun h=>⟨h i (Nat.le_refl _) (by omega),fun k h1 h2=>h k (by omega) h2⟩
 have:=key len 0 (by omega)
 unfold iG_
 rw [this]
 exact ⟨fun h i hi=>h i (Nat.zero_le _) hi,fun h i _ hi=>h i hi⟩
end Go.Pi
end
section
namespace Go.Pi
section
variable {α β σ:Type}
def Ans (f:Nat→Nat→Option α) (Q:α→Prop):Prop:=∃ v,Ev f v∧Q v
theorem ans_ev {f:Nat→Nat→Option α} {v:α} (h:Ev f v) {Q:α→Prop}:Ans f Q↔Q v :=
 ⟨fun ⟨w,h1,h2⟩=>(dE_ h).1 h1 ▸ h2,fun hq=>⟨v,h,hq⟩⟩
theorem aS_ {v:α} {Q:α→Prop}:Ans (fun _ _=>some v) Q↔Q v:=ans_ev (ae_.2 rfl)
theorem sD_ {Q:α→Prop}:Ans (fun _ _=>none) Q↔False :=
 ⟨fun ⟨_,h,_⟩=>dC_.1 h,fun h=>h.elim⟩
theorem bf_ {f:Nat→Nat→Option α} {a:α} (h:Ev f a) {g:Nat→Nat→α→Option β} {Q:β→Prop}:Ans (fun n N=>(f n N).bind (g n N)) Q↔Ans (fun n N=>g n N a) Q:=by
 unfold Ans;simp only [ab_ h]
theorem az_ {f:Nat→Nat→Option α} {P:α→Prop} (h:Ans f P) {g:Nat→Nat→α→Option β} {Q:β→Prop} (k:∀ v,P v→Ans (fun n N=>g n N v) Q):Ans (fun n N=>(f n N).bind (g n N)) Q:=by
 obtain ⟨v,h1,h2⟩:=h
 exact (bf_ h1).2 (k v h2)
theorem be_ {c:Bool} {f g:Nat→Nat→Option α} {Q:α→Prop}:Ans (fun n N=>cond c (f n N) (g n N)) Q↔(c=true→Ans f Q)∧(c=false→Ans g Q):=by
 cases c<;>simp
theorem eX_ {i:Int} {len:Nat} {f:Nat→Nat→Option α} {Q:α→Prop}:Ans (fun n N=>inB i len (f n N)) Q↔(0≤i∧i<(len:Int))∧Ans f Q:=by
 unfold Ans;simp only [bb_]
 exact ⟨fun ⟨v,⟨h1,h2⟩,h3⟩=>⟨h1,v,h2,h3⟩,fun ⟨h1,v,h2,h3⟩=>⟨v,⟨h1,h2⟩,h3⟩⟩
theorem dN_ {n b:Nat} {f:Nat→Nat→Option α} {Q:α→Prop}:Ans (fun m N=>bm_ n b (f m N)) Q↔n*b≤140737488355328∧Ans f Q:=by
 unfold Ans;simp only [ba_]
 exact ⟨fun ⟨v,⟨h1,h2⟩,h3⟩=>⟨h1,v,h2,h3⟩,fun ⟨h1,v,h2,h3⟩=>⟨v,⟨h1,h2⟩,h3⟩⟩
theorem lu_ {lo hi:Int} {len:Nat} {f:Nat→Nat→Option α} {Q:α→Prop}:Ans (fun n N=>gf_ lo hi len (f n N)) Q↔(0≤lo∧lo≤hi∧hi≤(len:Int))∧Ans f Q:=by
 unfold Ans;simp only [d1_]
 exact ⟨fun ⟨v,⟨h1,h2⟩,h3⟩=>⟨h1,v,h2,h3⟩,fun ⟨h1,v,h2,h3⟩=>⟨v,⟨h1,h2⟩,h3⟩⟩
theorem ci_ {f:Nat→Nat→Option α} {Q:α→Prop} (h:Ans (fun n N=>f (n+1) N) Q):Ans f Q :=
 let ⟨v,h1,h2⟩:=h;⟨v,ao_ h1,h2⟩
theorem cx_ {f:Nat→Nat→Option α} {Q:α→Prop} (h:Ans (fun n N=>f n (N+1)) Q):Ans f Q :=
 let ⟨v,h1,h2⟩:=h;⟨v,a9_ h1,h2⟩
theorem en_ {f:Nat→Nat→Option α} {Q:α→Prop} (h:Ans f Q):Ans (fun n _=>f n n) Q :=
 let ⟨v,h1,h2⟩:=h;⟨v,cZ_ h1,h2⟩
theorem gg_ (L:Nat→Nat→σ→Option α) (m:σ→Nat) (I:σ→Prop) (Q:α→Prop)
  (h:∀ s,I s→(∀ s',I s'→m s'<m s→Ans (fun n N=>L n N s') Q)→Ans (fun n N=>L n (N+1) s) Q):∀ s,I s→Ans (fun n _=>L n n s) Q:=by
 have key:∀ k s,m s<k→I s→Ans (fun n N=>L n N s) Q:=by
  intro k
  induction k with
  |zero=>intro s hk;omega
  |succ k ih=>exact fun s hk hI=>cx_ (h s hI fun s' hI' hm=>ih s' (by omega) hI')
 exact fun s hI=>en_ (f:=fun n N=>L n N s) (key _ s (Nat.lt_succ_self _) hI)
end
end Go.Pi
end
section
namespace Go.Pi
theorem aW_ (j:aa_):aa_.re j=j:=by cases j;rfl
def jf_ (s:Bs):Bool:=iG_ (fun i=>inn ((s.getD i 0).toNat:Int) 32 126) s.length&&decide ((s.length:Int)≤60)
theorem sC_ (b:UInt8):W ((b.toNat:Int))=(b.toNat:Int):=W_id (by omega) (by have:=b.toNat_lt;omega)
theorem gT_ {s:Bs} (hs:s.length≤cb_):Ev (fun n _=>b7_ n s) (jf_ s):=by
 refine ao_ ?_
 simp only [b7_]
 refine e3_ (fun n N i=>b7_.loop3 n (fun xy1=>(some (decide ((xy1.length:Int)≤60)))) N s (i:Int)) _ (fun i w hi ih => ?_) ?_
 · simp only [b7_.turn3,b7_.step3,Int.toNat_natCast,al_,bb_,ae_,W_up hi hs,dE_ ih,cC_ hi,ch_ hi]
   clear ih
   simp only [inn]
   by_cases h1:(((s.getD i 0).toNat:Nat):Int)<32<;>by_cases h2:(((s.getD i 0).toNat:Nat):Int) > 126<;>simp [h1,h2]<;>(intros;omega)
 · simp only [b7_.turn3,b7_.step3,cr_,cond_false,ae_]
theorem g0_ {s:Bs} (hs:s.length≤cb_):Ev (fun n _=>ay_ n s) (jf_ s):=by
 refine ao_ ?_
 simp only [ay_]
 refine e3_ (fun n N i=>ay_.loop3 n (fun xy1=>(some (decide ((xy1.length:Int)≤60)))) N s (s.length:Int) (i:Int)) _ (fun i w hi ih => ?_) ?_
 · simp only [ay_.turn3,ay_.step3,Int.toNat_natCast,al_,bb_,gE_,sC_,ae_,W_up hi hs,dE_ ih,cC_ hi,ch_ hi]
   clear ih
   grind
 · simp only [ay_.turn3,ay_.step3,cr_,cond_false,ae_]
def lenNs (c:Nat) (l:List Bs):Prop:=l.length≤c∧∀ x ∈ l,x.length≤c
theorem jP_ {c:Nat} {l:List Bs} (h:lenNs c l) (i:Nat):(l.getD i []).length≤c:=by
 by_cases hi:i<l.length
 · exact h.2 _ (bY_ [] hi)
 · rw [List.getD_eq_getElem?_getD,List.getElem?_eq_none (by omega)];exact Nat.zero_le _
def k4_ (l:List Bs):Bool:=iG_ (fun i=>jf_ (l.getD i [])&&(decide (i=0)||Op.bytesLess (l.getD (i - 1) []) (l.getD i []))) l.length
theorem mr_ {l:List Bs} (h:lenNs cb_ l):Ev (fun n _=>au_ n l) (k4_ l):=by
 refine ao_ ?_
 simp only [au_]
 refine ge_ (e3_ (fun n N i=>au_.loop3 n (some true) N l l (l.length:Int) (i:Int)) (fun i=>jf_ (l.getD i [])&&(decide (i=0)||Op.bytesLess (l.getD (i - 1) []) (l.getD i []))) (len:=l.length) (v:=true) (fun i w hi ih => ?_) ?_) (by rw [Bool.and_true];rfl)
 · simp only [au_.turn3,au_.step3,Int.toNat_natCast,W_up hi h.1,W_dn (i:=i) (by have:=h.1;omega),lk_,al_,bb_,ab_ (g0_ (jP_ h i)),ae_,dE_ ih,cC_ hi,ch_ hi]
   clear ih
   repeat' (first|apply And.intro|intro _)
   all_goals (try rw [Bool.eq_iff_iff])
   all_goals (try simp only [Bool.not_eq_true',Bool.not_eq_false',decide_eq_true_eq,decide_eq_false_iff_not,Bool.and_eq_true,Bool.or_eq_true,Bool.and_eq_false_iff,Bool.or_eq_false_iff] at *)
   all_goals grind
 · simp only [au_.turn3,au_.step3,cr_,cond_false,ae_]
def rB_ (j:aa_):Bool:=cond (j.kind != 5) ((j.names.length:Int) == 0) (k4_ j.names&&((j.names.length:Int) == (j.list.length:Int)))
theorem lJ_ {j:aa_} (h:lenNs cb_ j.names):Ev (fun n _=>ag_ n j) (rB_ j):=by
 refine ao_ ?_
 have hl:Ev (fun n _=>ag_.loop6 n (fun xy2 xy3 xy4 xy5 xy6=>(some ((xy6.length:Int) == (xy5.length:Int)))) n 0 j.kind j.n_ j.s j.list j.names) (k4_ j.names&&((j.names.length:Int) == (j.list.length:Int))):=by
  refine e3_ (fun n N i=>ag_.loop6 n (fun xy2 xy3 xy4 xy5 xy6=>(some ((xy6.length:Int) == (xy5.length:Int)))) N (i:Int) j.kind j.n_ j.s j.list j.names) _ (fun i w hi ih => ?_) ?_
  · simp only [ag_.turn6,ag_.step6,Int.toNat_natCast,W_up hi h.1,W_dn (i:=i) (by have:=h.1;omega),lk_,al_,bb_,ab_ (gT_ (jP_ h i)),ae_,dE_ ih,cC_ hi,ch_ hi]
    clear ih
    repeat' (first|apply And.intro|intro _)
    all_goals (try rw [Bool.eq_iff_iff])
    all_goals (try simp only [Bool.not_eq_true',Bool.not_eq_false',decide_eq_true_eq,decide_eq_false_iff_not,Bool.and_eq_true,Bool.or_eq_true,Bool.and_eq_false_iff,Bool.or_eq_false_iff] at *)
    all_goals grind
  · simp only [ag_.turn6,ag_.step6,cr_,cond_false,ae_]
 simp only [ag_,al_,ae_,dE_ hl,rB_]
 cases (j.kind != 5)<;>simp
end Go.Pi
end
section
namespace Go.Pi
def bi (l:Bs):List Int:=l.map fun c=>((c.toNat:Nat):Int)
theorem ka_ (l:Bs):hL_ (bi l)=l:=by
 unfold hL_ bi
 rw [List.map_map]
 refine (List.map_congr_left fun c _ => ?_).trans (List.map_id l)
 simp
theorem k2_ (l:Bs):(bi l).length=l.length:=List.length_map _
theorem bi_app (a b:Bs):bi (a++b)=bi a++bi b:=List.map_append
theorem k1_ (c:UInt8) (k:Nat) (d:UInt8) (hd:d.toNat=k):(((c.toNat:Nat):Int) == (k:Int))=decide (c=d):=by
 by_cases h:c=d
 · subst h;rw [hd];simp
 · rw [decide_eq_false h,beq_eq_false_iff_ne]
   intro e
   exact h (UInt8.toNat_inj.1 (by omega))
theorem byte34 (c:UInt8):(((c.toNat:Nat):Int) == 34)=decide (c=34):=k1_ c 34 34 rfl
theorem byte92 (c:UInt8):(((c.toNat:Nat):Int) == 92)=decide (c=92):=k1_ c 92 92 rfl
theorem byte126 (c:UInt8):(((c.toNat:Nat):Int) == 126)=decide (c=126):=k1_ c 126 126 rfl
theorem byte47 (c:UInt8):(((c.toNat:Nat):Int) == 47)=decide (c=47):=k1_ c 47 47 rfl
theorem gd_ (f:UInt8→Bs) (h:∀ c,(f c).length≤2):∀ s:Bs,(s.flatMap f).length≤2*s.length
 |[]=>Nat.le_refl _
 |c::s=>by
  have:=gd_ f h s
  have:=h c
  simp only [List.flatMap_cons,List.length_append,List.length_cons];omega
theorem qd_ (f:UInt8→Bs) {s:Bs} {i:Nat} (h:i<s.length):(s.take (i+1)).flatMap f=(s.take i).flatMap f++f (s.getD i 0):=by
 rw [cE_ 0 h,List.flatMap_append];simp
def fP_ (c:UInt8):Bs:=if c=34∨c=92 then [92,c] else [c]
theorem jB_ (c:UInt8):(fP_ c).length≤2:=by unfold fP_;split<;>simp
def dn_ (s:Bs):Bs:=34::s.flatMap fP_++[34]
theorem gl_ (s:Bs):(dn_ s).length≤2*s.length+2:=by
 have:=gd_ fP_ jB_ s
 simp only [dn_,List.cons_append,List.length_cons,List.length_append,List.length_nil];omega
theorem q2 (o:Bs) (c:UInt8):bi (34::(o++[92,c]))=(bi (34::o)++[92])++[((c.toNat:Nat):Int)]:=by simp [bi]
theorem q1 (o:Bs) (c:UInt8):bi (34::(o++[c]))=bi (34::o)++[((c.toNat:Nat):Int)]:=by simp [bi]
theorem qEnd (o:Bs):hL_ (bi (34::o)++[34])=34::o++[34]:=by
 have:bi (34::o)++[34]=bi (34::o++[34]):=by simp [bi]
 rw [this,ka_]
theorem hP_ {s:Bs} (hs:s.length≤1000000):Ev (fun n _=>bx_ n s) (dn_ s):=by
 refine ao_ ?_
 have ht:s.length≤cb_:=by simp only [cb_];omega
 simp only [bx_]
 have:=eI_ (fun i=>bi (34::(s.take i).flatMap fP_)) s.length (fun n N i (o:List Int)=>bx_.loop4 n (fun xy1=>(bm_ (xy1.length+([34]:List Int).length) 1 (some (hL_ (xy1++([34]:List Int)))))) N s (i:Int) o) (dn_ s) (fun i hi F hF => ?_) ?_
 · exact this
 · have hl:=gd_ fP_ jB_ (s.take i)
   rw [List.length_take] at hl
   rw [qd_ fP_ hi] at hF
   generalize (s.take i).flatMap fP_=o at hF hl ⊢
   have hb:=k2_ (34::o)
   simp only [List.length_cons] at hb
   simp only [bx_.turn4,bx_.step4,Int.toNat_natCast,W_up hi ht,al_,bb_,ba_,cC_ hi,ch_ hi,byte34,byte92]
   generalize s.getD i 0=c at hF ⊢
   unfold fP_ at hF
   by_cases h1:c=34
   · rw [if_pos (.inl h1),q2] at hF
     simp only [h1,decide_true] at hF ⊢
     repeat' (first|apply And.intro|intro _)
     all_goals (first|contradiction|exact hF|trivial|(simp [hb];omega))
   · by_cases h2:c=92
     · rw [if_pos (.inr h2),q2] at hF
       simp only [h2,decide_true] at hF ⊢
       repeat' (first|apply And.intro|intro _)
       all_goals (first|contradiction|exact hF|trivial|(simp [hb];omega))
     · rw [if_neg (fun h=>h.elim h1 h2),q1] at hF
       simp only [h1,h2,decide_false] at hF ⊢
       repeat' (first|apply And.intro|intro _)
       all_goals (first|contradiction|exact hF|trivial|(simp [hb];omega))
 · have hl:=gd_ fP_ jB_ s
   have hb:=k2_ (34::s.flatMap fP_)
   simp only [List.length_cons] at hb
   simp only [bx_.turn4,bx_.step4,cr_,cond_false,ba_,List.take_length,ae_,qEnd]
   exact ⟨by simp only [hb,List.length_cons,List.length_nil];omega,rfl⟩
theorem iP_ {s:Bs} (hs:s.length≤1000000):Ev (fun n _=>b0_ n s) (dn_ s):=by
 refine ao_ ?_
 have ht:s.length≤cb_:=by simp only [cb_];omega
 simp only [b0_]
 have:=eI_ (fun i=>bi (34::(s.take i).flatMap fP_)) s.length (fun n N i (o:List Int)=>b0_.loop4 n (fun xy1=>(bm_ (xy1.length+([34]:List Int).length) 1 (some (hL_ (xy1++([34]:List Int)))))) N s (s.length:Int) (i:Int) o) (dn_ s) (fun i hi F hF => ?_) ?_
 · exact this
 · have hl:=gd_ fP_ jB_ (s.take i)
   rw [List.length_take] at hl
   rw [qd_ fP_ hi] at hF
   generalize (s.take i).flatMap fP_=o at hF hl ⊢
   have hb:=k2_ (34::o)
   simp only [List.length_cons] at hb
   simp only [b0_.turn4,b0_.step4,Int.toNat_natCast,W_up hi ht,al_,bb_,ba_,cC_ hi,ch_ hi,byte34,byte92]
   generalize s.getD i 0=c at hF ⊢
   unfold fP_ at hF
   by_cases h1:c=34
   · rw [if_pos (.inl h1),q2] at hF
     simp only [h1,decide_true] at hF ⊢
     repeat' (first|apply And.intro|intro _)
     all_goals (first|contradiction|exact hF|trivial|(simp [hb];omega))
   · by_cases h2:c=92
     · rw [if_pos (.inr h2),q2] at hF
       simp only [h2,decide_true] at hF ⊢
       repeat' (first|apply And.intro|intro _)
       all_goals (first|contradiction|exact hF|trivial|(simp [hb];omega))
     · rw [if_neg (fun h=>h.elim h1 h2),q1] at hF
       simp only [h1,h2,decide_false] at hF ⊢
       repeat' (first|apply And.intro|intro _)
       all_goals (first|contradiction|exact hF|trivial|(simp [hb];omega))
 · have hl:=gd_ fP_ jB_ s
   have hb:=k2_ (34::s.flatMap fP_)
   simp only [List.length_cons] at hb
   simp only [b0_.turn4,b0_.step4,cr_,cond_false,ba_,List.take_length,ae_,qEnd]
   exact ⟨by simp only [hb,List.length_cons,List.length_nil];omega,rfl⟩
end Go.Pi
end
section
namespace Go.Pi
theorem gj_ (a b:UInt8) (l:Bs):Lib.index (b::l) [a]=if a=b then 0 else if Lib.index l [a] = -1 then -1 else Lib.index l [a]+1:=by
 rw [Lib.index]
 have:List.isPrefixOf [a] (b::l)=decide (a=b):=by
  simp only [List.isPrefixOf,Bool.and_true]
  exact Bool.eq_iff_iff.2 (by simp)
 rw [this]
 by_cases h:a=b
 · rw [decide_eq_true h,if_pos rfl,if_pos h]
 · rw [decide_eq_false h,if_neg (by simp),if_neg h]
   by_cases h2:Lib.index l [a] = -1
   · rw [h2,if_pos rfl,if_pos (by decide)]
   · rw [if_neg h2,if_neg (by simpa using h2)]
theorem qT_ {a b:UInt8} (h:a≠b) (new l:Bs):∀ k,Lib.replaceK [a] new k (b::l)=b::Lib.replaceK [a] new k l
 |0=>rfl
 |k+1=>by
  rw [Lib.replaceK,Lib.replaceK,gj_,if_neg h]
  by_cases h2:Lib.index l [a] = -1
  · rw [if_pos h2,if_pos (by decide),h2,if_pos (by decide)]
  · have:=Lib.index_ge l [a]
    obtain ⟨i,hi⟩:∃ i:Nat,Lib.index l [a]=i:=⟨(Lib.index l [a]).toNat,by omega⟩
    rw [if_neg h2,if_neg (by rw [hi];simp<;>omega),if_neg (by rw [hi];simp<;>omega),hi,show ((i:Int)+1).toNat=i+1 by omega,show ((i:Int)).toNat=i by omega]
    rfl
theorem qU_ (a:UInt8) (new l:Bs) (k:Nat):Lib.replaceK [a] new (k+1) (a::l)=new++Lib.replaceK [a] new k l:=by
 rw [Lib.replaceK,gj_,if_pos rfl,if_neg (by decide)]
 rfl
theorem hZ_ (a:UInt8) (new:Bs):∀ (s:Bs) (k:Nat),s.count a≤k→Lib.replaceK [a] new k s=s.flatMap fun c=>if c=a then new else [c]
 |[],0,_=>rfl
 |[],k+1,_=>by
  rw [Lib.replaceK]
  have:Lib.index [] [a] = -1:=rfl
  rw [this,if_pos (by decide)];rfl
 |b::l,k,h=>by
  by_cases e:b=a
  · subst e
    rw [List.count_cons_self] at h
    obtain ⟨k,rfl⟩:∃ m,k=m+1:=⟨k - 1,by omega⟩
    rw [qU_,hZ_ b new l k (by omega),List.flatMap_cons,if_pos rfl]
  · rw [List.count_cons_of_ne e] at h
    rw [qT_ (fun h=>e h.symm),hZ_ a new l k h,List.flatMap_cons,if_neg e];rfl
theorem hs_ (a:UInt8):∀ (s:Bs) (f:Nat),s.length<f→Lib.countFrom [a] f s=s.count a
 |[],f+1,_=>by
  rw [Lib.countFrom]
  have:Lib.index [] [a] = -1:=rfl
  rw [this,if_pos (by decide)];rfl
 |b::l,f+1,h=>by
  have hl:l.length<f:=by simpa using h
  by_cases e:a=b
  · subst e
    rw [List.count_cons_self,Lib.countFrom,gj_,if_pos rfl,if_neg (by decide)]
    show 1+Lib.countFrom [a] f l=_
    rw [hs_ a l f hl];omega
  · rw [List.count_cons_of_ne (fun h=>e h.symm),←hs_ a l (f+1) (by omega),Lib.countFrom,Lib.countFrom,gj_,if_neg e]
    by_cases h2:Lib.index l [a] = -1
    · rw [if_pos h2,if_pos (by decide),h2,if_pos (by decide)]
    · have:=Lib.index_ge l [a]
      obtain ⟨i,hi⟩:∃ i:Nat,Lib.index l [a]=i:=⟨(Lib.index l [a]).toNat,by omega⟩
      rw [if_neg h2,if_neg (by rw [hi];simp<;>omega),if_neg (by rw [hi];simp<;>omega),hi,show ((i:Int)+1).toNat=i+1 by omega,show ((i:Int)).toNat=i by omega]
      rfl
theorem mH_ (a:UInt8) (s:Bs):Lib.count s [a]=s.count a:=hs_ a s _ (Nat.lt_succ_self _)
theorem m9_ (a:UInt8) (new s:Bs) (hne:([a] == new)=false):Lib.replaceAll s [a] new=s.flatMap fun c=>if c=a then new else [c]:=by
 unfold Lib.replaceAll Lib.replace Lib.replaceNum
 rw [hne,if_neg (by simp),if_pos (.inl (by decide)),mH_]
 exact hZ_ a new s _ (Nat.le_refl _)
theorem jZ_ {a b c:UInt8} {s:Bs} (hs:s.length≤1000000) (hne:([a] == [b,c])=false):Ev (fun n _=>strings_ReplaceAll n s [a] [b,c]) (s.flatMap fun x=>if x=a then [b,c] else [x]):=by
 refine ao_ ?_
 have:=List.count_le_length (a:=a) (l:=s)
 simp only [strings_ReplaceAll,gp_,mH_,m9_ a [b,c] s hne,al_,ae_,dC_]
 refine ⟨fun _=>trivial,fun h => ?_⟩
 have e1:decide (s.length<4294967281)=true:=decide_eq_true (by omega)
 have e2:decide (1≤[a].length)=true:=rfl
 have e3:decide (s.length+List.count a s*[b,c].length≤140737488355328)=true:=decide_eq_true (by simp only [List.length_cons,List.length_nil];omega)
 rw [e1,e2,e3] at h;cases h
def gC_ (c:UInt8):Bs:=if c=126 then [126,48] else if c=47 then [126,49] else [c]
theorem rI_ (c:UInt8):(gC_ c).length≤2:=by
 unfold gC_
 split
 · simp
 · split<;>simp
theorem wesc_two (s:Bs):((s.flatMap fun x=>if x=126 then [126,48] else [x]).flatMap fun x=>if x=47 then [126,49] else [x])=s.flatMap gC_:=by
 induction s with
 |nil=>rfl
 |cons c s ih=>
  rw [List.flatMap_cons,List.flatMap_append,ih,List.flatMap_cons]
  congr 1
  unfold gC_
  by_cases h1:c=126
  · subst h1;rfl
  · by_cases h2:c=47
    · subst h2;rfl
    · rw [if_neg h1,if_neg h1,if_neg h2];simp [h2]
def FWay (w:List Bs):Bs:=w.flatMap fun s=>47::s.flatMap gC_
theorem rJ_ {w:List Bs} {i:Nat} (h:i<w.length):FWay (w.take (i+1))=FWay (w.take i)++(47::(w.getD i []).flatMap gC_):=by
 unfold FWay
 rw [cE_ [] h,List.flatMap_append];simp
theorem o9_ {w:List Bs} {c:Nat} (h:∀ s ∈ w,s.length≤c):(FWay w).length≤w.length*(2*c+1):=by
 induction w with
 |nil=>exact Nat.zero_le _
 |cons s w ih=>
  have h1:=gd_ gC_ rI_ s
  have h2:=h s (List.mem_cons_self ..)
  have h3:=ih fun x hx=>h x (List.mem_cons_of_mem _ hx)
  have e:FWay (s::w)=(47::s.flatMap gC_)++FWay w:=rfl
  rw [e,List.length_append,List.length_cons,List.length_cons,Nat.add_mul];omega
theorem rO_ {w:List Bs} {c:Nat} (h:∀ s ∈ w,s.length≤c) (i:Nat):∀ s ∈ w.take i,s.length≤c:=fun s hs=>h s (List.mem_of_mem_take hs)
theorem h7_ {w:List Bs} (hw:w.length≤6) (hs:∀ s ∈ w,s.length≤60):Ev (fun n _=>bV_ n w) (FWay w):=by
 refine ao_ ?_
 have ht:w.length≤cb_:=by simp only [cb_];omega
 simp only [bV_]
 have:=eI_ (fun i=>FWay (w.take i)) w.length (fun n N i (o:Bs)=>bV_.loop4 n (fun xy3=>(some xy3)) N o w (w.length:Int) (i:Int)) (FWay w) (fun i hi F hF => ?_) ?_
 · exact this
 · have h1:=hs _ (bY_ [] hi)
   have h2:=gd_ gC_ rI_ (w.getD i [])
   have h3:=o9_ (rO_ hs i)
   rw [List.length_take] at h3
   rw [rJ_ hi] at hF
   have r1:=jZ_ (a:=126) (b:=126) (c:=48) (s:=w.getD i []) (by omega) (by decide)
   have h4:=gd_ (fun x=>if x=126 then [126,48] else [x]) (fun c=>by split<;>simp) (w.getD i [])
   have r2:=jZ_ (a:=47) (b:=126) (c:=49) (s:=(w.getD i []).flatMap fun x=>if x=126 then [126,48] else [x]) (by omega) (by decide)
   rw [wesc_two] at r2
   generalize FWay (w.take i)=o at hF h3 ⊢
   simp only [bV_.turn4,bV_.step4,Int.toNat_natCast,W_up hi ht,al_,bb_,dC_,cC_ hi,ch_ hi,ab_ r1,ab_ r2]
   generalize (w.getD i []).flatMap gC_=e at hF h2 ⊢
   have e2:([47]:Bs)++e=47::e:=rfl
   rw [e2]
   refine ⟨fun _=>⟨trivial,fun _=>⟨fun _=>hF,fun h => ?_⟩,fun h => ?_⟩,fun h=>(by cases h)⟩
   · have h:=of_decide_eq_false h
     simp only [List.length_cons] at h;omega
   · have h:=of_decide_eq_false h
     simp only [List.length_cons,List.length_nil] at h;omega
 · simp only [bV_.turn4,bV_.step4,cr_,cond_false,List.take_length,ae_]
theorem jJ_ {α:Type} {i len:Nat} {x:Option α} (h:i<len):inB (i:Int) len x=x:=by
 unfold inB
 rw [decide_eq_true (by omega),decide_eq_true (by omega)];rfl
theorem jz_ {α:Type} {n b:Nat} {x:Option α} (h:n*b≤140737488355328):bm_ n b x=x:=by
 unfold bm_
 rw [decide_eq_true h];rfl
theorem oX_ {α:Type} {f g:Nat→Nat→Option α} {v:α} (M:Nat) (h:∀ n N,M≤n→f n N=g n N) (hg:Ev g v):Ev f v:=by
 obtain ⟨M',hM⟩:=hg
 exact ⟨max M M',fun n N h1 h2=>by rw [h n N (by omega)];exact hM n N (by omega) (by omega)⟩
theorem pk_ (n:Nat) (k2:List Bs→Int→List Int→Option Bs) {w:List Bs} {i:Nat} (hi:i<w.length) (hl:(w.getD i []).length≤1000000):∀ (d j m:Nat) (o:List Int),j+d=(w.getD i []).length→d<m→o.length+2*d≤100000000 →
  aF_.loop10 n k2 m w (i:Int) (j:Int) o=k2 w (i:Int) (o++bi (((w.getD i []).drop j).flatMap gC_))
 |0,j,m+1,o,hj,_,_=>by
  have e:(j:Int)=((w.getD i []).length:Int):=by omega
  have e2:(w.getD i []).drop j=[]:=List.drop_eq_nil_of_le (by omega)
  rw [aF_.turn10,aF_.step10,Int.toNat_natCast,jJ_ hi,e,cr_,e2]
  simp [bi]
 |d+1,j,m+1,o,hj,hm,ho=>by
  have hjl:j<(w.getD i []).length:=by omega
  have ih:=fun o=>pk_ n k2 hi hl d (j+1) m o (by omega) (by omega)
  have e1:(w.getD i []).drop j=(w.getD i []).getD j 0::(w.getD i []).drop (j+1):=dM_ 0 hjl
  rw [aF_.turn10,aF_.step10,Int.toNat_natCast,Int.toNat_natCast,jJ_ hi,jJ_ hi,jJ_ hi,jJ_ hjl,jJ_ hjl,cC_ hjl,W_up hjl (show (w.getD i []).length≤cb_ by simp only [cb_];omega),byte126,byte47,e1,List.flatMap_cons,bi_app,←List.append_assoc]
  generalize (w.getD i []).getD j 0=c
  rw [jz_ (by simp;omega),jz_ (by simp;omega),jz_ (by simp;omega)]
  unfold gC_
  by_cases h1:c=126
  · rw [decide_eq_true h1,if_pos h1]
    exact ih _ (by simp;omega)
  · by_cases h2:c=47
    · rw [decide_eq_false h1,decide_eq_true h2,if_neg h1,if_pos h2]
      exact ih _ (by simp;omega)
    · rw [decide_eq_false h1,decide_eq_false h2,if_neg h1,if_neg h2]
      exact ih _ (by simp;omega)
theorem lK_ {w:List Bs} (hw:w.length≤6) (hs:∀ s ∈ w,s.length≤60):Ev (fun n _=>aF_ n w) (FWay w):=by
 refine ao_ ?_
 have ht:w.length≤cb_:=by simp only [cb_];omega
 simp only [aF_]
 have:=eI_ (fun i=>bi (FWay (w.take i))) w.length (fun n N i (o:List Int)=>aF_.loop4 n (fun xy4=>(some (hL_ xy4))) N w (i:Int) o) (FWay w) (fun i hi F hF => ?_) ?_
 · exact this
 · have h1:=hs _ (bY_ [] hi)
   have h3:=o9_ (rO_ hs i)
   rw [List.length_take] at h3
   rw [rJ_ hi] at hF
   generalize FWay (w.take i)=o at hF h3 ⊢
   have hb:=k2_ o
   simp only [aF_.turn4,aF_.step4,cC_ hi,cond_true,ba_]
   refine ⟨by simp [hb];omega,oX_ 61 (fun n N hn=>pk_ n _ hi (by omega) (w.getD i []).length 0 n _ (by omega) (by omega) (by simp only [hb,List.length_append,List.length_cons,List.length_nil];omega)) ?_⟩
   simp only [W_up hi ht,List.drop_zero]
   have e:bi (o++47::(w.getD i []).flatMap gC_)=bi o++([47]:List Int)++bi ((w.getD i []).flatMap gC_):=by simp [bi]
   rw [e] at hF
   exact hF
 · simp only [aF_.turn4,aF_.step4,cr_,cond_false,List.take_length,ae_,ka_]
end Go.Pi
end
section
namespace Go.Pi
theorem mo_ (k:Int):k=0∨k=1∨k=2∨k=3∨k=4∨k=5∨(k≠0∧k≠1∧k≠2∧k≠3∧k≠4∧k≠5):=by omega
theorem oD_ {α:Type} (l:List α):decide (l.length=0) = !decide ((l.length:Int) > 0):=by
 by_cases hz:l.length=0
 · rw [hz];rfl
 · rw [decide_eq_false hz,decide_eq_true (show (l.length:Int) > 0 by omega)];rfl
def FOwnK (j:aa_):Bool :=
 cond (j.kind == 1) (inn j.n_ 0 1) (cond (j.kind == 2) (inn j.n_ (-1000000000) 1000000000) (cond (j.kind == 3) (jf_ j.s) (cond (j.kind == 5) (((j.names.length:Int) == (j.list.length:Int))&&k4_ j.names) ((j.kind == 0)||(j.kind == 4)))))
def FOwn (j:aa_):Bool :=
 (decide (j.list.length=0)||((j.kind == 4)||(j.kind == 5)))&&((decide (j.names.length=0)||(j.kind == 5))&&(((j.n_ == 0)||((j.kind == 1)||(j.kind == 2)))&&(((j.s == [])||(j.kind == 3))&&FOwnK j)))
def lenJ1 (j:aa_):Prop:=j.s.length≤cb_∧lenNs cb_ j.names
theorem oO_ {j:aa_} (h:lenJ1 j):Ev (fun n _=>eU_ n j) (FOwn j):=by
 refine ao_ ?_
 simp only [eU_,al_,gE_,isNum_b,ab_ (g0_ h.1),ab_ (mr_ h.2),ae_]
 unfold FOwn FOwnK
 have e1:=oD_ j.list
 have e2:=oD_ j.names
 rw [e1,e2]
 generalize decide ((j.list.length:Int) > 0)=a
 generalize decide ((j.names.length:Int) > 0)=b
 generalize (j.s == [])=c
 have e3:(j.n_ != 0) = !(j.n_ == 0):=rfl
 rw [e3]
 generalize hd:(j.n_ == 0)=d
 generalize jf_ j.s=ft
 generalize k4_ j.names=fn
 generalize ((j.names.length:Int) == (j.list.length:Int))=eq
 rcases mo_ j.kind with hk|hk|hk|hk|hk|hk|⟨k0,k1,k2,k3,k4,k5⟩
 all_goals (first|simp only [hk]|simp only [beq_eq_false_iff_ne.2 k0,beq_eq_false_iff_ne.2 k1,beq_eq_false_iff_ne.2 k2,beq_eq_false_iff_ne.2 k3,beq_eq_false_iff_ne.2 k4,beq_eq_false_iff_ne.2 k5,bne])
 all_goals (cases a<;>cases b<;>cases c<;>cases d<;>simp)
 all_goals (cases eq<;>simp)
def bG_:Nat→aa_→Nat
 |0,_=>401
 |d+1,j=>cond (FOwn j) (min 401 (1+eo_ (bG_ d) j.list)) 401
theorem FSize_le:∀ (d:Nat) (j:aa_),bG_ d j≤401
 |0,_=>Nat.le_refl _
 |d+1,j=>by
  simp only [bG_]
  cases FOwn j<;>simp only [cond_true,cond_false]<;>omega
def ft_:Nat→aa_→Prop
 |0,_=>True
 |d+1,j=>lenJ1 j∧j.list.length≤cb_∧∀ x ∈ j.list,ft_ d x
theorem getD_json {d:Nat} {l:List aa_} (h:∀ x ∈ l,ft_ d x) {i:Nat} (hi:i<l.length):ft_ d (l.getD i aa_.dflt):=h _ (bY_ _ hi)
theorem iO_:∀ (d:Nat) (j:aa_),d≤1000→ft_ d j→Ev (fun n _=>bK_ n j (d:Int)) (bG_ d j:Int)
 |0,j,_,_=>by
  refine ao_ ?_
  simp only [bK_,al_,ae_]
  exact ⟨fun _=>rfl,fun h=>by simp at h⟩
 |d+1,j,hd,h=>by
  refine ao_ ?_
  have hW:W (((d+1:Nat):Int) - 1)=(d:Int):=by rw [W_id (by omega) (by omega)];omega
  simp only [bK_,aW_,al_,ab_ (oO_ h.1),ae_,bG_]
  refine ⟨fun hc=>by have:=of_decide_eq_true hc;omega,fun _ => ?_⟩
  cases ho:FOwn j with
  |false=>exact ⟨fun _=>rfl,fun h=>by cases h⟩
  |true=>
   refine ⟨fun h=>(by cases h),fun _ => ?_⟩
   have ht:=h.2.1
   have key:∀ (k i:Nat) (s:Nat),k+i=j.list.length→s≤400→Ev (fun n N=>bK_.loop7 n (bK_ n) (fun xy3=>some xy3) N ((d+1:Nat):Int) (s:Int) j.list (j.list.length:Int) (i:Int)) ((min 401 (s+eo_ (bG_ d) (j.list.drop i)):Nat):Int):=by
    intro k
    induction k with
    |zero=>
     intro i s hi hs
     have:i=j.list.length:=by omega
     subst this
     refine a9_ ?_
     simp only [bK_.turn7,bK_.step7,cr_,cond_false,ae_,List.drop_length,eo_]
     omega
    |succ k ih=>
     intro i s hi hs
     have hlt:i<j.list.length:=by omega
     refine a9_ ?_
     have hc:=iO_ d (j.list.getD i aa_.dflt) (by omega) (getD_json h.2.2 hlt)
     have hle:=FSize_le d (j.list.getD i aa_.dflt)
     have hw:W ((s:Int)+(bG_ d (j.list.getD i aa_.dflt):Int))=((s+bG_ d (j.list.getD i aa_.dflt):Nat):Int):=by rw [W_id (by omega) (by omega)];omega
     simp only [bK_.turn7,bK_.step7,aW_,Int.toNat_natCast,hW,W_up hlt ht,al_,bb_,cC_ hlt,ch_ hlt,ab_ hc,hw,ae_]
     rw [jp_ (bG_ d) aa_.dflt hlt]
     refine ⟨fun _=>⟨trivial,fun hg => ?_,fun hg => ?_⟩,fun h=>(by cases h)⟩
     · have:=of_decide_eq_true hg;omega
     · have:=of_decide_eq_false hg
       rw [show s+(bG_ d (j.list.getD i aa_.dflt)+eo_ (bG_ d) (j.list.drop (i+1)))=(s+bG_ d (j.list.getD i aa_.dflt))+eo_ (bG_ d) (j.list.drop (i+1)) by omega]
       exact ih (i+1) _ (by omega) (by omega)
   have:=key j.list.length 0 1 (by omega) (by omega)
   rw [List.drop_zero] at this
   exact cZ_ (f:=fun n N=>bK_.loop7 n (bK_ n) (fun xy3=>some xy3) N ((d+1:Nat):Int) 1 j.list (j.list.length:Int) 0) this
def cI_ (j:aa_):Bool:=decide (bG_ 6 j≤400)
theorem eD_ {j:aa_} (h:ft_ 6 j):Ev (fun n _=>c7_ n j) (cI_ j):=by
 refine ao_ ?_
 have e:Ev (fun n _=>bK_ n j 6) (bG_ 6 j:Int):=iO_ 6 j (by omega) h
 simp only [c7_,aW_,ab_ e,ae_,cI_]
 by_cases hq:bG_ 6 j≤400
 · rw [decide_eq_true hq,decide_eq_true (by omega)]
 · rw [decide_eq_false hq,decide_eq_false (by omega)]
end Go.Pi
end
section
namespace Go.Pi
def Great (d:Nat) (j:aa_):Prop:=∃ v:Nat,v≤401+401*d∧min 401 v=bG_ d j∧Ev (fun n _=>aR_ n j (d:Int)) (v:Int)
theorem tc_ {d:Nat} {l:List aa_} (hd:d≤1000) (ht:l.length≤cb_) (ih:∀ x ∈ l,Great d x) (kd nn:Int) (s:Bs) (ns:List Bs) :
  ∃ w:Nat,w≤401+401*(d+1)∧min 401 w=min 401 (1+eo_ (bG_ d) l)∧∀ (K:Nat→aR_.K23_1) (F:Int),Ev (fun n N=>K n 401 (w:Int) kd nn s l ns) F→Ev (fun n _=>aR_.loop23 n (aR_ n) (K n) n ((d+1:Nat):Int) 401 1 0 kd nn s l ns) F:=by
 have hW:W (((d+1:Nat):Int) - 1)=(d:Int):=by rw [W_id (by omega) (by omega)];omega
 have key:∀ (k i:Nat) (m:Nat),k+i=l.length→m≤401+401*(d+1)→∃ w:Nat,w≤401+401*(d+1)∧min 401 w=min 401 (m+eo_ (bG_ d) (l.drop i))∧∀ (K:Nat→aR_.K23_1) (F:Int),Ev (fun n N=>K n 401 (w:Int) kd nn s l ns) F →
   Ev (fun n N=>aR_.loop23 n (aR_ n) (K n) N ((d+1:Nat):Int) 401 (m:Int) (i:Int) kd nn s l ns) F:=by
  intro k
  induction k with
  |zero=>
   intro i m hi hm
   have:i=l.length:=by omega
   subst this
   refine ⟨m,hm,by simp [eo_],fun K F hF=>a9_ ?_⟩
   simp only [aR_.turn23,aR_.step23,cr_,cond_false]
   exact hF
  |succ k ihk=>
   intro i m hi hm
   have hlt:i<l.length:=by omega
   by_cases hg:m≤400
   · obtain ⟨v,hv1,hv2,hv3⟩:=ih _ (bY_ aa_.dflt hlt)
     have hw:W ((m:Int)+(v:Int))=((m+v:Nat):Int):=by rw [W_id (by omega) (by omega)];omega
     obtain ⟨w,a1,a2,a3⟩:=ihk (i+1) (m+v) (by omega) (by omega)
     refine ⟨w,a1,?_,fun K F hF=>a9_ ?_⟩
     · rw [a2,jp_ (bG_ d) aa_.dflt hlt,←hv2];omega
     · simp only [aR_.turn23,aR_.step23,aW_,Int.toNat_natCast,hW,W_up hlt ht,al_,bb_,cC_ hlt,ch_ hlt,ab_ hv3,hw]
       exact ⟨fun _=>⟨fun _=>⟨trivial,a3 K F hF⟩,fun h=>by have:=of_decide_eq_false h;omega⟩,fun h=>(by cases h)⟩
   · refine ⟨m,hm,by omega,fun K F hF=>a9_ ?_⟩
     simp only [aR_.turn23,aR_.step23,Int.toNat_natCast,al_,cC_ hlt]
     exact ⟨fun _=>⟨fun h=>by have:=of_decide_eq_true h;omega,fun _=>hF⟩,fun h=>(by cases h)⟩
 obtain ⟨w,a1,a2,a3⟩:=key l.length 0 1 (by omega) (by omega)
 rw [List.drop_zero] at a2
 exact ⟨w,a1,a2,fun K F hF=>cZ_ (f:=fun n N=>aR_.loop23 n (aR_ n) (K n) N ((d+1:Nat):Int) 401 1 0 kd nn s l ns) (a3 K F hF)⟩
theorem ec_ (j:aa_):aa_.mk j.kind j.n_ j.s j.list j.names=j:=by cases j;rfl
theorem hQ_:∀ (d:Nat) (j:aa_),d≤1000→ft_ d j→Great d j
 |0,j,_,_=>by
  refine ⟨401,by omega,rfl,ao_ ?_⟩
  simp only [aR_,al_,ae_]
  exact ⟨fun _=>rfl,fun h=>by simp at h⟩
 |d+1,j,hd,h=>by
  obtain ⟨w,w1,w2,w3⟩:=tc_ (d:=d) (l:=j.list) (by omega) h.2.1 (fun x hx=>hQ_ d x (by omega) (h.2.2 x hx)) j.kind j.n_ j.s j.names
  have hz:((((d+1:Nat):Int)) == 0)=false:=by simp;omega
  have hN:=lJ_ (j:=j) h.1.2
  obtain ⟨v,hv⟩:∃ v:Nat,v=cond (FOwn j) (cond ((j.kind == 4)||(j.kind == 5)) w 1) 401:=⟨_,rfl⟩
  refine ⟨v,?_,?_,ao_ ?_⟩
  · rw [hv];cases FOwn j<;>cases ((j.kind == 4)||(j.kind == 5))<;>simp only [cond_true,cond_false]<;>omega
  · rw [hv]
    simp only [bG_]
    cases ho:FOwn j with
    |false=>rfl
    |true=>
     cases hk:((j.kind == 4)||(j.kind == 5)) with
     |true=>simp only [cond_true];exact w2
     |false=>
      have:j.list=[]:=by
       unfold FOwn at ho
       rw [hk,Bool.or_false] at ho
       simp only [Bool.and_eq_true,decide_eq_true_eq] at ho
       exact List.eq_nil_of_length_eq_zero ho.1
      rw [this];rfl
  · have hT:=gT_ (s:=j.s) h.1.1
    have e1:=oD_ j.list
    have e2:=oD_ j.names
    have e4:((j.names.length:Int) == 0) = !decide ((j.names.length:Int) > 0):=by
     by_cases hz:j.names.length=0
     · rw [hz];rfl
     · rw [beq_eq_false_iff_ne.2 (show (j.names.length:Int)≠0 by omega),decide_eq_true (show (j.names.length:Int) > 0 by omega)];rfl
    subst hv
    unfold FOwn FOwnK
    unfold rB_ at hN
    rw [e1,e2]
    rw [e4] at hN
    simp only [aR_,aW_,hz,cond_false,al_,fT_,ab_ hT,ab_ hN,ae_,bne]
    rcases mo_ j.kind with hk|hk|hk|hk|hk|hk|⟨k0,k1,k2,k3,k4,k5⟩
    case inr.inr.inr.inr.inl=>
     have hj:aa_.mk 4 j.n_ j.s j.list j.names=j:=by rw [←hk];exact ec_ j
     rw [hk] at w3
     simp only [hk,Int.reduceBEq,Int.reduceLT,Int.reduceLE,Int.reduceNeg,ge_iff_le,gt_iff_lt,decide_true,decide_false,Bool.not_false,Bool.not_true,Bool.or_true,Bool.true_or,Bool.or_false,Bool.false_or,Bool.and_true,Bool.true_and,Bool.not_not,forall_const,reduceCtorEq,false_implies,true_and,and_true,implies_true,cond_true,cond_false] at hN ⊢
     refine w3 _ _ ?_
     simp only [hj,al_,ab_ hN,ae_,Int.reduceBEq,Int.reduceLT,Int.reduceLE,Int.reduceNeg,ge_iff_le,gt_iff_lt,decide_true,decide_false,Bool.not_false,Bool.not_true,Bool.or_true,Bool.true_or,Bool.or_false,Bool.false_or,Bool.and_true,Bool.true_and,Bool.not_not,forall_const,reduceCtorEq,false_implies,true_and,and_true,implies_true,cond_true,cond_false]
     clear hN w3 hT e1 e2 e4 hj
     generalize decide (0<(j.names.length:Int))=b
     generalize (j.s == [])=c
     generalize hd:(j.n_ == 0)=dd
     cases b<;>cases c<;>cases dd<;>simp
    case inr.inr.inr.inr.inr.inl=>
     have hj:aa_.mk 5 j.n_ j.s j.list j.names=j:=by rw [←hk];exact ec_ j
     rw [hk] at w3
     simp only [hk,Int.reduceBEq,Int.reduceLT,Int.reduceLE,Int.reduceNeg,ge_iff_le,gt_iff_lt,decide_true,decide_false,Bool.not_false,Bool.not_true,Bool.or_true,Bool.true_or,Bool.or_false,Bool.false_or,Bool.and_true,Bool.true_and,Bool.not_not,forall_const,reduceCtorEq,false_implies,true_and,and_true,implies_true,cond_true,cond_false] at hN ⊢
     refine w3 _ _ ?_
     simp only [hj,al_,ab_ hN,ae_,Int.reduceBEq,Int.reduceLT,Int.reduceLE,Int.reduceNeg,ge_iff_le,gt_iff_lt,decide_true,decide_false,Bool.not_false,Bool.not_true,Bool.or_true,Bool.true_or,Bool.or_false,Bool.false_or,Bool.and_true,Bool.true_and,Bool.not_not,forall_const,reduceCtorEq,false_implies,true_and,and_true,implies_true,cond_true,cond_false]
     clear hN w3 hT e1 e2 e4 hj
     generalize k4_ j.names=fn
     generalize ((j.names.length:Int) == (j.list.length:Int))=eq
     generalize (j.s == [])=c
     generalize hd:(j.n_ == 0)=dd
     cases fn<;>cases eq<;>cases c<;>cases dd<;>simp
    case inr.inr.inr.inr.inr.inr=>
     simp only [beq_eq_false_iff_ne.2 k0,beq_eq_false_iff_ne.2 k1,beq_eq_false_iff_ne.2 k2,beq_eq_false_iff_ne.2 k3,beq_eq_false_iff_ne.2 k4,beq_eq_false_iff_ne.2 k5,Int.reduceBEq,Int.reduceLT,Int.reduceLE,Int.reduceNeg,ge_iff_le,gt_iff_lt,decide_true,decide_false,Bool.not_false,Bool.not_true,Bool.or_true,Bool.true_or,Bool.or_false,Bool.false_or,Bool.and_true,Bool.true_and,Bool.not_not,forall_const,reduceCtorEq,false_implies,true_and,and_true,implies_true,cond_true,cond_false,Bool.and_false,Bool.false_and]
     rfl
    all_goals (
     simp only [hk,Int.reduceBEq,Int.reduceLT,Int.reduceLE,Int.reduceNeg,ge_iff_le,gt_iff_lt,decide_true,decide_false,Bool.not_false,Bool.not_true,Bool.or_true,Bool.true_or,Bool.or_false,Bool.false_or,Bool.and_true,Bool.true_and,Bool.not_not,forall_const,reduceCtorEq,false_implies,true_and,and_true,implies_true,cond_true,cond_false]
     clear hN w3 hT e1 e2 e4
     generalize decide (0<(j.names.length:Int))=b
     generalize decide (0<(j.list.length:Int))=a
     generalize (j.s == [])=c
     generalize hd:(j.n_ == 0)=dd
     generalize inn j.n_ 0 1=i1
     generalize inn j.n_ (-1000000000) 1000000000=i2
     generalize jf_ j.s=ft
     cases a<;>cases b<;>cases c<;>cases dd<;>cases i1<;>cases i2<;>cases ft<;>simp)
theorem dz_ {j:aa_} (h:ft_ 6 j):Ev (fun n _=>cS_ n j) (cI_ j):=by
 refine ao_ ?_
 obtain ⟨v,v1,v2,v3⟩:=hQ_ 6 j (by omega) h
 have e:Ev (fun n _=>aR_ n j 6) (v:Int):=v3
 simp only [cS_,aW_,ab_ e,ae_,cI_]
 by_cases hq:bG_ 6 j≤400
 · rw [decide_eq_true hq,decide_eq_true (by omega)]
 · rw [decide_eq_false hq,decide_eq_false (by omega)]
end Go.Pi
end
section
namespace Go.Pi
def digs (u:Nat):Bs:=if u=0 then [] else Lib.decDigits u
theorem digs_step {u:Nat} (h:u≠0):digs u=digs (u / 10)++[UInt8.ofNat (48+u % 10)]:=by
 unfold digs
 rw [if_neg h,Lib.decDigits]
 by_cases h1:u<10
 · rw [dif_pos h1,if_pos (by omega),Nat.mod_eq_of_lt h1];rfl
 · rw [dif_neg h1,if_neg (by omega)]
theorem sv_ {d:Nat} (h:d<10):hL_ ([(IntKind.u8.wrap (W (48+(d:Int))))]:List Int)=[UInt8.ofNat (48+d)]:=by
 have e1:W (48+(d:Int))=((48+d:Nat):Int):=by rw [W_id (by omega) (by omega)];omega
 rw [e1]
 have e2:IntKind.u8.wrap (((48+d:Nat):Int))=((48+d:Nat):Int):=by
  have:d=0∨d=1∨d=2∨d=3∨d=4∨d=5∨d=6∨d=7∨d=8∨d=9:=by omega
  rcases this with rfl|rfl|rfl|rfl|rfl|rfl|rfl|rfl|rfl|rfl<;>rfl
 rw [e2]
 rfl
theorem c0_ {x:Int} (h0 : -9223372036854775808≤x) (h1:x≤9223372036854775807):Ev (fun n _=>aV_ n x) (Lib.itoa x):=by
 refine ao_ ?_
 simp only [aV_,al_,ae_]
 refine ⟨fun h => ?_,fun h => ?_⟩
 · have:x=0:=by simpa using h
   subst this
   unfold Lib.itoa
   rw [if_neg (by decide)]
   show _=Lib.decDigits 0
   rw [Lib.decDigits_one (by decide)];rfl
 have hx0:x≠0:=by simpa using h
 have key:∀ (k:Nat) (y:Int) (out:Bs),y.natAbs<10 ^ k → -9223372036854775808≤y→y≤9223372036854775807→out.length+k≤100 →
   Ev (fun n N=>aV_.loop7 n (fun xy3 xy4=>(cond xy3 (cond (decide ([45].length+xy4.length≤9223372036854775807)) (some (([45]:Bs)++xy4)) none) (some xy4))) N y (decide (x<0)) out) (cond (decide (x<0)) ([45]++(digs y.natAbs++out)) (digs y.natAbs++out)):=by
  intro k
  induction k with
  |zero=>
   intro y out hy _ _ ho
   have:y=0:=by simp at hy;omega
   subst this
   refine a9_ ?_
   simp only [aV_.turn7,aV_.step7,bne_self_eq_false,cond_false,al_,ae_,dC_]
   refine ⟨fun hb=>⟨fun _=>by rw [hb];rfl,fun hc=>by have:=of_decide_eq_false hc;simp at this;omega⟩,fun hb=>by rw [hb];rfl⟩
  |succ k ih=>
   intro y out hy hy0 hy1 ho
   by_cases hz:y=0
   · subst hz
     refine a9_ ?_
     simp only [aV_.turn7,aV_.step7,bne_self_eq_false,cond_false,al_,ae_,dC_]
     refine ⟨fun hb=>⟨fun _=>by rw [hb];rfl,fun hc=>by have:=of_decide_eq_false hc;simp at this;omega⟩,fun hb=>by rw [hb];rfl⟩
   · have hm:(Int.tmod y 10).natAbs=y.natAbs % 10:=by rw [Int.natAbs_tmod];rfl
     have hd:(Int.tdiv y 10).natAbs=y.natAbs / 10:=by rw [Int.natAbs_tdiv];rfl
     have hW:W (Int.tdiv y 10)=Int.tdiv y 10:=W_id (by omega) (by omega)
     have hlt:y.natAbs % 10<10:=Nat.mod_lt _ (by decide)
     have hdl:(Int.tdiv y 10).natAbs<10 ^ k:=by rw [hd];rw [Nat.pow_succ] at hy;omega
     have hrec:=ih (Int.tdiv y 10) ([UInt8.ofNat (48+y.natAbs % 10)]++out) hdl (by omega) (by omega) (by simp;omega)
     have hdig:digs (Int.tdiv y 10).natAbs++([UInt8.ofNat (48+y.natAbs % 10)]++out)=digs y.natAbs++out:=by rw [hd,digs_step (show y.natAbs≠0 by omega),List.append_assoc]
     rw [hdig] at hrec
     have hne:(y != 0)=true:=by simpa using hz
     refine a9_ ?_
     simp only [aV_.turn7,aV_.step7,hne,cond_true,al_,dC_,hW]
     refine ⟨fun hneg => ?_,fun hneg => ?_⟩
     · have hneg:=of_decide_eq_true hneg
       have e:W (0 - Int.tmod y 10)=((y.natAbs % 10:Nat):Int):=by rw [W_id (by omega) (by omega)];omega
       rw [e,sv_ hlt]
       exact ⟨fun _=>hrec,fun hc=>by have:=of_decide_eq_false hc;simp at this;omega⟩
     · have hneg:=of_decide_eq_false hneg
       have e:Int.tmod y 10=((y.natAbs % 10:Nat):Int):=by omega
       rw [e,sv_ hlt]
       exact ⟨fun _=>hrec,fun hc=>by have:=of_decide_eq_false hc;simp at this;omega⟩
 have hfin:=key 19 x [] (by omega) h0 h1 (by simp)
 have hv:Lib.itoa x=cond (decide (x<0)) ([45]++(digs x.natAbs++[])) (digs x.natAbs++[]):=by
  unfold Lib.itoa digs
  rw [if_neg (show x.natAbs≠0 by omega)]
  by_cases hn:x<0
  · rw [if_pos hn,decide_eq_true hn];simp
  · rw [if_neg hn,decide_eq_false hn,cond_false,List.append_nil,show x.toNat=x.natAbs by omega]
 rw [hv]
 exact cZ_ hfin
theorem Itoa_ev {x:Int} (h0 : -9223372036854775808≤x) (h1:x≤9223372036854775807):Ev (fun n _=>strconv_Itoa n x) (Lib.itoa x) :=
 ao_ (by simp only [strconv_Itoa,nItoa,al_,ae_,dC_];exact ⟨fun _=>trivial,fun h=>by simp at h;omega⟩)
end Go.Pi
end
section
namespace Go.Pi
theorem join_snoc (x sep:Bs):∀ l:List Bs,Lib.join (l++[x]) sep=if l=[] then x else Lib.join l sep++sep++x
 |[]=>by rw [if_pos rfl];exact Lib.join_one x sep
 |y::l=>by
  rw [if_neg (by simp),List.cons_append,Lib.join_cons,Lib.join_cons]
  simp [Lib.joinTail]
theorem gF_ {α:Type} (f:α→Nat):∀ a b:List α,eo_ f (a++b)=eo_ f a+eo_ f b
 |[],b=>by simp [eo_]
 |x::a,b=>by simp only [List.cons_append,eo_,gF_ f a b];omega
theorem rQ_ {α:Type} (f:α→Nat) (h:∀ x,1≤f x):∀ a:List α,a.length≤eo_ f a
 |[]=>Nat.le_refl _
 |x::a=>by have:=rQ_ f h a;have:=h x;simp only [eo_,List.length_cons];omega
theorem qz_:∀ (d:Nat) (j:aa_),1≤bG_ d j
 |0,_=>by simp only [bG_];omega
 |d+1,j=>by
  simp only [bG_]
  cases FOwn j<;>simp only [cond_true,cond_false]<;>omega
theorem il_ {s:Bs} (h:jf_ s=true):s.length≤60:=by
 unfold jf_ at h
 rw [Bool.and_eq_true] at h
 have:=of_decide_eq_true h.2;omega
theorem iF_ {l:List Bs} (h:k4_ l=true) {i:Nat} (hi:i<l.length):(l.getD i []).length≤60:=by
 have:=e8_.1 h i hi
 rw [Bool.and_eq_true] at this
 exact il_ this.1
structure Own (j:aa_):Prop where
 kind:j.kind=0∨j.kind=1∨j.kind=2∨j.kind=3∨j.kind=4∨j.kind=5
 list:j.kind≠4→j.kind≠5→j.list=[]
 bool:j.kind=1→0≤j.n_∧j.n_≤1
 num:j.kind=2 → -1000000000≤j.n_∧j.n_≤1000000000
 text:j.kind=3→j.s.length≤60
 obj:j.kind=5→j.names.length=j.list.length∧k4_ j.names=true
theorem FOwn_own {j:aa_} (h:FOwn j=true):Own j:=by
 unfold FOwn FOwnK at h
 simp only [Bool.and_eq_true,Bool.or_eq_true] at h
 obtain ⟨h1,h2,h3,h4,h5⟩:=h
 refine ⟨?_,fun k4 k5 => ?_,fun hk => ?_,fun hk => ?_,fun hk => ?_,fun hk => ?_⟩
 · rcases mo_ j.kind with hk|hk|hk|hk|hk|hk|⟨k0,k1,k2,k3,k4,k5⟩
   · exact .inl hk
   · exact .inr (.inl hk)
   · exact .inr (.inr (.inl hk))
   · exact .inr (.inr (.inr (.inl hk)))
   · exact .inr (.inr (.inr (.inr (.inl hk))))
   · exact .inr (.inr (.inr (.inr (.inr hk))))
   · simp only [beq_eq_false_iff_ne.2 k0,beq_eq_false_iff_ne.2 k1,beq_eq_false_iff_ne.2 k2,beq_eq_false_iff_ne.2 k3,beq_eq_false_iff_ne.2 k4,beq_eq_false_iff_ne.2 k5,cond_false,Bool.or_false] at h5
     cases h5
 · rcases h1 with h1|h1|h1
   · exact List.eq_nil_of_length_eq_zero (of_decide_eq_true h1)
   · exact absurd (by simpa using h1) k4
   · exact absurd (by simpa using h1) k5
 · simp only [hk,Int.reduceBEq,cond_true,cond_false] at h5;exact gM_ h5
 · simp only [hk,Int.reduceBEq,cond_true,cond_false] at h5;exact gM_ h5
 · simp only [hk,Int.reduceBEq,cond_true,cond_false] at h5;exact il_ h5
 · simp only [hk,Int.reduceBEq,cond_true,cond_false,Bool.and_eq_true] at h5
   exact ⟨by have:=h5.1;simp at this;omega,h5.2⟩
def dD_ (enc:aa_→Bs) (j:aa_) (i:Nat):Bs:=cond (j.kind == 5) (dn_ (j.names.getD i [])++([58]++enc (j.list.getD i aa_.dflt))) (enc (j.list.getD i aa_.dflt))
def ej_ (enc:aa_→Bs) (j:aa_) (m:Nat):Bs:=Lib.join ((List.range m).map (dD_ enc j)) [44]
def FEnc:Nat→aa_→Bs
 |0,_=>[]
 |d+1,j=>cond (j.kind == 0) [110,117,108,108] (cond (j.kind == 1) (cond (j.n_ == 1) [116,114,117,101] [102,97,108,115,101]) (cond (j.kind == 2) (Lib.itoa j.n_) (cond (j.kind == 3) (dn_ j.s)
   (cond (j.kind == 5) ([123]++ej_ (FEnc d) j j.list.length++[125]) ([91]++ej_ (FEnc d) j j.list.length++[93])))))
theorem n6_ (enc:aa_→Bs) (j:aa_):ej_ enc j 0=[]:=rfl
theorem ip_ (enc:aa_→Bs) (j:aa_):ej_ enc j 1=dD_ enc j 0:=Lib.join_one _ _
theorem hb_ (enc:aa_→Bs) (j:aa_) {m:Nat} (h:0<m):ej_ enc j (m+1)=ej_ enc j m++[44]++dD_ enc j m:=by
 unfold ej_
 rw [List.range_succ,List.map_append,List.map_cons,List.map_nil,join_snoc,if_neg]
 intro e
 have:=congrArg List.length e
 simp at this;omega
theorem d2_ {d:Nat} {j:aa_} (h:bG_ (d+1) j≤400):Own j∧bG_ (d+1) j=1+eo_ (bG_ d) j.list:=by
 simp only [bG_] at h ⊢
 cases ho:FOwn j with
 |false=>rw [ho,cond_false] at h;omega
 |true=>
  rw [ho,cond_true] at h
  exact ⟨FOwn_own ho,by rw [cond_true];omega⟩
theorem enc_len:∀ (d:Nat) (j:aa_),bG_ d j≤400→(FEnc d j).length+150≤300*bG_ d j
 |0,j,h=>by simp only [bG_] at h;omega
 |d+1,j,h=>by
  obtain ⟨ho,hs⟩:=d2_ h
  have hJ:∀ m,m≤j.list.length→(ej_ (FEnc d) j m).length≤300*eo_ (bG_ d) (j.list.take m):=by
   intro m
   induction m with
   |zero=>intro _;exact Nat.zero_le _
   |succ m ih=>
    intro hm
    have hi:m<j.list.length:=by omega
    have h1:=ih (by omega)
    have h2:=iW_ (bG_ d) (bY_ aa_.dflt hi)
    have h3:=enc_len d (j.list.getD m aa_.dflt) (by omega)
    have h4:(dD_ (FEnc d) j m).length≤123+(FEnc d (j.list.getD m aa_.dflt)).length:=by
     unfold dD_
     cases hk:(j.kind == 5) with
     |false=>rw [cond_false];omega
     |true=>
      obtain ⟨e1,e2⟩:=ho.obj (by simpa using hk)
      have:=iF_ e2 (i:=m) (by omega)
      have:=gl_ (j.names.getD m [])
      rw [cond_true];simp only [List.length_append,List.length_cons,List.length_nil];omega
    rw [cE_ aa_.dflt hi,gF_]
    simp only [eo_,Nat.mul_add]
    by_cases h0:m=0
    · subst h0;rw [ip_];omega
    · rw [hb_ _ _ (by omega)];simp only [List.length_append,List.length_cons,List.length_nil];omega
  have hL:=hJ j.list.length (Nat.le_refl _)
  rw [List.take_length] at hL
  rw [hs]
  rcases ho.kind with hk|hk|hk|hk|hk|hk
  · simp only [FEnc,hk,Int.reduceBEq,cond_true,cond_false,List.length_cons,List.length_nil];omega
  · simp only [FEnc,hk,Int.reduceBEq,cond_true,cond_false]
    cases (j.n_ == 1)<;>simp only [cond_true,cond_false,List.length_cons,List.length_nil]<;>omega
  · have:=ho.num hk
    have:=Lib.itoa_length_le j.n_ (by omega) (by omega)
    simp only [FEnc,hk,Int.reduceBEq,cond_true,cond_false];omega
  · have:=ho.text hk
    have:=gl_ j.s
    simp only [FEnc,hk,Int.reduceBEq,cond_true,cond_false];omega
  · simp only [FEnc,hk,Int.reduceBEq,cond_true,cond_false,List.length_append,List.length_cons,List.length_nil];omega
  · simp only [FEnc,hk,Int.reduceBEq,cond_true,cond_false,List.length_append,List.length_cons,List.length_nil];omega
structure Part (d:Nat) (j:aa_) (i:Nat):Prop where
 size:bG_ d (j.list.getD i aa_.dflt)≤400
 enc:(FEnc d (j.list.getD i aa_.dflt)).length≤120000
 name:j.kind=5→i<j.names.length∧(j.names.getD i []).length≤60
theorem fB_ {d:Nat} {j:aa_} (h:bG_ (d+1) j≤400) {i:Nat} (hi:i<j.list.length):Part d j i:=by
 obtain ⟨ho,hs⟩:=d2_ h
 have h2:=iW_ (bG_ d) (bY_ aa_.dflt hi)
 have h3:=enc_len d (j.list.getD i aa_.dflt) (by omega)
 exact ⟨by omega,by omega,fun hk=>⟨by have:=(ho.obj hk).1;omega,iF_ (ho.obj hk).2 (by have:=(ho.obj hk).1;omega)⟩⟩
theorem oL_ {d:Nat} {j:aa_} (h:bG_ (d+1) j≤400):∀ m,m≤j.list.length→(ej_ (FEnc d) j m).length≤m*120200:=by
 intro m
 induction m with
 |zero=>intro _;exact Nat.zero_le _
 |succ m ih=>
  intro hm
  have hp:=fB_ h (i:=m) (by omega)
  have h1:=ih (by omega)
  have h4:(dD_ (FEnc d) j m).length≤123+120000:=by
   have:=hp.enc
   unfold dD_
   cases hk:(j.kind == 5) with
   |false=>rw [cond_false];omega
   |true=>
    have:=(hp.name (by simpa using hk)).2
    have:=gl_ (j.names.getD m [])
    rw [cond_true];simp only [List.length_append,List.length_cons,List.length_nil];omega
  by_cases h0:m=0
  · subst h0;rw [ip_];omega
  · rw [hb_ _ _ (by omega)];simp only [List.length_append,List.length_cons,List.length_nil];omega
theorem eT_ {d:Nat} {j:aa_} (h:bG_ (d+1) j≤400):j.list.length≤400:=by
 have:=(d2_ h).2
 have:=rQ_ (bG_ d) (qz_ d) j.list
 omega
end Go.Pi
end
section
namespace Go.Pi
def fF_ (c:UInt8):Prop:=48≤c.toNat∧c.toNat≤57
theorem jT_ {d:Nat} (h:d<10):(UInt8.ofNat (48+d)).toNat=48+d:=by
 rw [UInt8.toNat_ofNat'];omega
theorem ig_:∀ (u:Nat),∀ c ∈ Lib.decDigits u,fF_ c:=by
 intro u
 induction u using Nat.strongRecOn with
 |ind u ih=>
  intro c hc
  rw [Lib.decDigits] at hc
  by_cases h:u<10
  · rw [dif_pos h] at hc
    obtain rfl:=List.mem_singleton.1 hc
    unfold fF_;rw [jT_ h];omega
  · rw [dif_neg h] at hc
    rcases List.mem_append.1 hc with hc|hc
    · exact ih (u / 10) (by omega) c hc
    · obtain rfl:=List.mem_singleton.1 hc
      unfold fF_;rw [jT_ (by omega)];omega
theorem mG_ (u:Nat):1≤(Lib.decDigits u).length:=by
 rw [Lib.decDigits]
 by_cases h:u<10
 · rw [dif_pos h];simp
 · rw [dif_neg h];simp
theorem ri_:∀ (k u:Nat),u<10 ^ (k+1)→(Lib.decDigits u).length≤k+1
 |0,u,h=>by rw [Lib.decDigits,dif_pos (by simpa using h)];simp
 |k+1,u,h=>by
  rw [Lib.decDigits]
  by_cases h1:u<10
  · rw [dif_pos h1];simp
  · rw [dif_neg h1,List.length_append]
    have:=ri_ k (u / 10) (by rw [Nat.pow_succ] at h;omega)
    simp;omega
def j8_ (x:Nat) (l:Bs):Nat:=l.foldl (fun x c=>10*x+(c.toNat - 48)) x
theorem val_nil (x:Nat):j8_ x []=x:=rfl
theorem jl_ (x:Nat) (c:UInt8) (l:Bs):j8_ x (c::l)=j8_ (10*x+(c.toNat - 48)) l:=by unfold j8_;rw [List.foldl_cons]
theorem val_app (x:Nat) (a b:Bs):j8_ x (a++b)=j8_ (j8_ x a) b:=List.foldl_append
theorem n9_:∀ (u:Nat),j8_ 0 (Lib.decDigits u)=u:=by
 intro u
 induction u using Nat.strongRecOn with
 |ind u ih=>
  rw [Lib.decDigits]
  by_cases h:u<10
  · rw [dif_pos h,jl_,val_nil,jT_ h];omega
  · rw [dif_neg h,val_app,ih (u / 10) (by omega)]
    have e:=jT_ (d:=u % 10) (by omega)
    rw [jl_,val_nil,e]
    omega
theorem val_le:∀ (x:Nat) (l:Bs),x≤j8_ x l
 |_,[]=>Nat.le_refl _
 |x,c::l=>by rw [jl_];exact Nat.le_trans (by omega) (val_le _ l)
theorem pu_val:∀ (x:Nat) (l:Bs),(∀ c ∈ l,fF_ c)→j8_ x l≤1000000000000000000→Lib.parseUint10 x l = .ok (j8_ x l)
 |_,[],_,_=>rfl
 |x,c::l,h,hv=>by
  have hc:=h c (List.mem_cons_self ..)
  have h1:=val_le (10*x+(c.toNat - 48)) l
  rw [jl_] at hv ⊢
  unfold fF_ at hc
  rw [Lib.parseUint10,if_pos hc,if_neg (by omega),if_neg (by omega),show x*10+(c.toNat - 48)=10*x+(c.toNat - 48) by omega]
  exact pu_val _ l (fun c hc=>h c (List.mem_cons_of_mem _ hc)) hv
theorem qr_ {n:Int} (h0 : -1000000000≤n) (h1:n≤1000000000):Lib.atoiAll (Lib.itoa n) = .ok n:=by
 unfold Lib.itoa
 have key:∀ u:Nat,u≤1000000000→Lib.parseMag (Lib.decDigits u) = .ok u:=by
  intro u hu
  have:=mG_ u
  unfold Lib.parseMag
  rw [if_neg (fun e=>by rw [e] at this;simp at this),pu_val 0 _ (ig_ u) (by rw [n9_];omega),n9_]
 by_cases hn:n<0
 · rw [if_pos hn,Lib.atoiAll_minus,key n.natAbs (by omega)]
   show (if 9223372036854775808<n.natAbs then Lib.NumEnd.range else .ok (-(n.natAbs:Int)))=_
   rw [if_neg (by omega),show (-(n.natAbs:Int))=n by omega]
 · rw [if_neg hn]
   have e:=key n.toNat (by omega)
   have hp:=mG_ n.toNat
   have hd:=ig_ n.toNat
   generalize Lib.decDigits n.toNat=l at e hp hd ⊢
   cases l with
   |nil=>simp at hp
   |cons c r=>
    have hc:=hd c (List.mem_cons_self ..)
    unfold fF_ at hc
    rw [Lib.atoiAll_plain c r (by omega) (by omega),e]
    show (if 9223372036854775808≤n.toNat then Lib.NumEnd.range else .ok (n.toNat:Int))=_
    rw [if_neg (by omega),show (n.toNat:Int)=n by omega]
def dK_ (enc:aa_→Bs) (j:aa_):Nat→Nat→Bs
 |0,_=>[]
 |k+1,i=>(if i=0 then [] else [44])++(dD_ enc j i++dK_ enc j k (i+1))
theorem n7_ (enc:aa_→Bs) (j:aa_):∀ k i,ej_ enc j i++dK_ enc j k i=ej_ enc j (i+k)
 |0,i=>by rw [dK_,List.append_nil];rfl
 |k+1,i=>by
  rw [dK_,show i+(k+1)=i+1+k by omega,←n7_ enc j k (i+1)]
  by_cases h:i=0
  · subst h;rw [n6_,ip_,if_pos rfl];simp
  · rw [if_neg h,hb_ enc j (by omega)];simp
theorem mU_ (enc:aa_→Bs) (j:aa_) (m:Nat):ej_ enc j m=dK_ enc j m 0:=by
 have:=n7_ enc j m 0
 rw [n6_,List.nil_append,Nat.zero_add] at this
 exact this.symm
def Stop (r:Bs):Prop:=∀ c t,r=c::t→¬ fF_ c
theorem od_:Stop []:=fun c t h=>(by cases h)
theorem lE_ {c:UInt8} {t:Bs} (h:¬ fF_ c):Stop (c::t):=fun d u e=>by cases e;exact h
theorem h2_ (n:Int):∃ c t,Lib.itoa n=c::t∧(c=45∨fF_ c):=by
 unfold Lib.itoa
 by_cases h:n<0
 · rw [if_pos h];exact ⟨45,_,rfl,.inl rfl⟩
 · rw [if_neg h]
   have hp:=mG_ n.toNat
   have hd:=ig_ n.toNat
   generalize Lib.decDigits n.toNat=l at hp hd ⊢
   cases l with
   |nil=>simp at hp
   |cons c r=>exact ⟨c,r,rfl,.inr (hd c (List.mem_cons_self ..))⟩
theorem enc_head {d:Nat} {j:aa_} (h:bG_ d j≤400):∃ c t,FEnc d j=c::t∧c.toNat≠93∧c.toNat≠125∧c.toNat≠44:=by
 cases d with
 |zero=>simp only [bG_] at h;omega
 |succ d=>
  have ho:=(d2_ h).1
  rcases ho.kind with hk|hk|hk|hk|hk|hk
  · exact ⟨110,[117,108,108],by simp only [FEnc,hk,Int.reduceBEq,cond_true],by decide⟩
  · cases hb:(j.n_ == 1) with
    |true=>exact ⟨116,[114,117,101],by simp only [FEnc,hk,hb,Int.reduceBEq,cond_true,cond_false],by decide⟩
    |false=>exact ⟨102,[97,108,115,101],by simp only [FEnc,hk,hb,Int.reduceBEq,cond_true,cond_false],by decide⟩
  · obtain ⟨c,t,e,hc⟩:=h2_ j.n_
    refine ⟨c,t,by simp only [FEnc,hk,Int.reduceBEq,cond_true,cond_false,e],?_⟩
    rcases hc with rfl|hc
    · decide
    · unfold fF_ at hc;omega
  · exact ⟨34,j.s.flatMap fP_++[34],by simp only [FEnc,hk,Int.reduceBEq,cond_true,cond_false,dn_];rfl,by decide⟩
  · exact ⟨91,ej_ (FEnc d) j j.list.length++[93],by simp only [FEnc,hk,Int.reduceBEq,cond_true,cond_false];rfl,by decide⟩
  · exact ⟨123,ej_ (FEnc d) j j.list.length++[125],by simp only [FEnc,hk,Int.reduceBEq,cond_true,cond_false];rfl,by decide⟩
theorem n5_ {d:Nat} {j:aa_} (h:bG_ (d+1) j≤400) {i:Nat} (hi:i<j.list.length):∃ c t,dD_ (FEnc d) j i=c::t∧c.toNat≠93∧c.toNat≠125∧c.toNat≠44:=by
 unfold dD_
 cases (j.kind == 5) with
 |true=>exact ⟨34,(j.names.getD i []).flatMap fP_++[34]++([58]++FEnc d (j.list.getD i aa_.dflt)),by simp only [cond_true,dn_];rfl,by decide⟩
 |false=>exact enc_head (fB_ h hi).size
theorem qesc_nl {s:Bs} (h:∀ c ∈ s,c≠10):∀ c ∈ dn_ s,c≠10:=by
 intro c hc
 unfold dn_ at hc
 simp only [List.cons_append,List.mem_cons,List.mem_append,List.mem_flatMap,List.not_mem_nil,or_false] at hc
 rcases hc with rfl|⟨b,hb,hc⟩|rfl
 · decide
 · have:=h b hb
   unfold fP_ at hc
   split at hc
   · simp only [List.mem_cons,List.not_mem_nil,or_false] at hc
     rcases hc with rfl|rfl
     · decide
     · exact this
   · obtain rfl:=List.mem_singleton.1 hc;exact this
 · decide
theorem text_nl {s:Bs} (h:jf_ s=true):∀ c ∈ s,c≠10:=by
 intro c hc e
 subst e
 unfold jf_ at h
 rw [Bool.and_eq_true] at h
 obtain ⟨i,hi,e⟩:=List.getElem_of_mem hc
 have:=e8_.1 h.1 i hi
 rw [List.getD_eq_getElem?_getD,List.getElem?_eq_getElem hi,Option.getD_some,e] at this
 revert this;decide
theorem i7_ (n:Int):∀ c ∈ Lib.itoa n,c≠10:=by
 intro c hc e
 subst e
 unfold Lib.itoa at hc
 have key:∀ u,(10:UInt8) ∈ Lib.decDigits u→False:=fun u h=>by have:=ig_ u 10 h;unfold fF_ at this;revert this;decide
 split at hc
 · rcases List.mem_cons.1 hc with h|h
   · revert h;decide
   · exact key _ h
 · exact key _ hc
structure Own2 (j:aa_):Prop where
 text:j.kind=3→jf_ j.s=true
 n0:j.kind≠1→j.kind≠2→j.n_=0
 s0:j.kind≠3→j.s=[]
 ns0:j.kind≠5→j.names=[]
theorem fp_ {j:aa_} (h:FOwn j=true):Own2 j:=by
 unfold FOwn FOwnK at h
 simp only [Bool.and_eq_true,Bool.or_eq_true] at h
 obtain ⟨h1,h2,h3,h4,h5⟩:=h
 refine ⟨fun hk => ?_,fun k1 k2 => ?_,fun k3 => ?_,fun k5 => ?_⟩
 · simpa only [hk,Int.reduceBEq,cond_true,cond_false] using h5
 · rcases h3 with h|h|h
   · simpa using h
   · exact absurd (by simpa using h) k1
   · exact absurd (by simpa using h) k2
 · rcases h4 with h|h
   · simpa using h
   · exact absurd (by simpa using h) k3
 · rcases h2 with h|h
   · exact List.eq_nil_of_length_eq_zero (of_decide_eq_true h)
   · exact absurd (by simpa using h) k5
theorem e1_ {d:Nat} {j:aa_} (h:bG_ (d+1) j≤400):FOwn j=true:=by
 simp only [bG_] at h
 cases ho:FOwn j with
 |false=>rw [ho,cond_false] at h;omega
 |true=>rfl
theorem enc_nl:∀ (d:Nat) (j:aa_),bG_ d j≤400→∀ c ∈ FEnc d j,c≠10
 |0,j,h=>by simp only [bG_] at h;omega
 |d+1,j,h=>by
  have ho:=(d2_ h).1
  have ho2:=fp_ (e1_ h)
  have hJ:∀ k i,i+k≤j.list.length→∀ c ∈ dK_ (FEnc d) j k i,c≠10:=by
   intro k
   induction k with
   |zero=>intro i _ c hc;cases hc
   |succ k ih=>
    intro i hi c hc
    have hp:=fB_ h (i:=i) (by omega)
    simp only [dK_,List.mem_append] at hc
    rcases hc with hc|hc|hc
    · split at hc
      · cases hc
      · obtain rfl:=List.mem_singleton.1 hc;decide
    · have he:=enc_nl d _ hp.size
      unfold dD_ at hc
      cases hk:(j.kind == 5) with
      |false=>rw [hk,cond_false] at hc;exact he c hc
      |true=>
       obtain ⟨e1,e2⟩:=ho.obj (by simpa using hk)
       have hn:=e8_.1 e2 i (by omega)
       rw [Bool.and_eq_true] at hn
       rw [hk,cond_true] at hc
       simp only [List.mem_append] at hc
       rcases hc with hc|hc|hc
       · exact qesc_nl (text_nl hn.1) c hc
       · obtain rfl:=List.mem_singleton.1 hc;decide
       · exact he c hc
    · exact ih (i+1) (by omega) c hc
  have hA:=hJ j.list.length 0 (by omega)
  rw [←mU_] at hA
  intro c hc
  rcases ho.kind with hk|hk|hk|hk|hk|hk
  · simp only [FEnc,hk,Int.reduceBEq,cond_true] at hc
    intro e;subst e;revert hc;decide
  · simp only [FEnc,hk,Int.reduceBEq,cond_true,cond_false] at hc
    intro e;subst e;revert hc;cases (j.n_ == 1)<;>decide
  · simp only [FEnc,hk,Int.reduceBEq,cond_true,cond_false] at hc
    exact i7_ _ c hc
  · simp only [FEnc,hk,Int.reduceBEq,cond_true,cond_false] at hc
    exact qesc_nl (text_nl (ho2.text hk)) c hc
  all_goals (
   simp only [FEnc,hk,Int.reduceBEq,cond_true,cond_false,List.mem_append,List.mem_singleton] at hc
   rcases hc with (rfl|hc)|rfl
   · decide
   · exact hA c hc
   · decide)
end Go.Pi
end
