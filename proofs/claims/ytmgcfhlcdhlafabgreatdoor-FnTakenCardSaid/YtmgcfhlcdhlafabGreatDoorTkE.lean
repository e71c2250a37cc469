/- FnTaken: who asked of a drawn store and takes what is due has nothing due then; what was ek_ leads from what was sent to what is true. No condition. Text 5 of 7. -/
import Derived.Test.YtmgcfhlcdhlafabGreatDoorTkD
import Derived.Shelf.RegionOpenPlain
import Derived.WalkKit
import Derived.Deep.RegionLaw
import Derived.Lib.Walk
import Derived.Lib.SliceRun
import Derived.Laws.CopyRow
import Derived.RowKit
import Derived.Lib.Overlaps
import Derived.Lib.AppendZerosOnto
import Derived.Laws.NewBlocks
import Derived.Laws.Externs
import Derived.Shelf.Strings.OnBuilder
import Derived.Shelf.Strings.Replace
import Derived.Shelf.Strconv.AtoiAll
import Derived.ChangeArms
import Derived.DataReads
import Derived.ChangeOld
set_option linter.unusedVariables false
set_option maxRecDepth 100000
set_option linter.unusedSimpArgs false
section
namespace Go.Pi
def br_.p (m:M):List Pat:=[.i .i64,.i .i64,.i .i64]
abbrev br_.c:Type:=Int × Int × Int × Unit
def br_.of:br_.c→br_:=fun (x0,x1,x2,_)=>⟨x0,x1,x2⟩
def br_.to (s:br_):br_.c:=(s.col,s.op,s.v,())
def ap_.p (m:M):List Pat:=[.i .i64,.sl m .iCond,.i .i64,.b,.i .i64,.sl m .int,.b,.i .i64,.i .i64]
abbrev ap_.c:Type:=Int × (List br_) × Int × Bool × Int × (List Int) × Bool × Int × Int × Unit
def ap_.of:ap_.c→ap_:=fun (x0,x1,x2,x3,x4,x5,x6,x7,x8,_)=>⟨x0,x1,x2,x3,x4,x5,x6,x7,x8⟩
def ap_.to (s:ap_):ap_.c:=(s.table,s.where_,s.order,s.down,s.first,s.show_,s.kids,s.kidTable,s.kidCol,())
def TRow.p (m:M):List Pat:=[.i .i64,.sl m .int]
abbrev TRow.c:Type:=Int × (List Int) × Unit
def TRow.of:TRow.c→TRow:=fun (x0,x1,_)=>⟨x0,x1⟩
def TRow.to (s:TRow):TRow.c:=(s.id_,s.cells,())
def TKid.p (m:M):List Pat:=[.i .i64,.i .i64]
abbrev TKid.c:Type:=Int × Int × Unit
def TKid.of:TKid.c→TKid:=fun (x0,x1,_)=>⟨x0,x1⟩
def TKid.to (s:TKid):TKid.c:=(s.id_,s.n_,())
def aJ_.p (m:M):List Pat:=[.i .i64,.sl m .iCond,.i .i64,.b,.i .i64,.sl m .int,.b,.i .i64,.i .i64,.sl m .iRow,.sl m .iKid]
abbrev aJ_.c:Type:=Int × (List br_) × Int × Bool × Int × (List Int) × Bool × Int × Int × (List TRow) × (List TKid) × Unit
def aJ_.of:aJ_.c→aJ_:=fun (x0,x1,x2,x3,x4,x5,x6,x7,x8,x9,x10,_)=>⟨⟨x0,x1,x2,x3,x4,x5,x6,x7,x8⟩,x9,x10⟩
def aJ_.to (s:aJ_):aJ_.c:=(s.q.table,s.q.where_,s.q.order,s.q.down,s.q.first,s.q.show_,s.q.kids,s.q.kidTable,s.q.kidCol,s.rows,s.kids,())
def bS_.p (m:M):List Pat:=[.i .i64,.sl m .iCond,.i .i64,.b,.i .i64,.sl m .int,.b,.i .i64,.i .i64,.sl m .iRow,.sl m .iKid,.i .i64,.i .i64,.sl m .iCond,.i .i64,.b,.i .i64,.sl m .int,.b,.i .i64,.i .i64,.sl m .iRow,.sl m .iKid,.i .i64,.b]
abbrev bS_.c:Type:=Int × (List br_) × Int × Bool × Int × (List Int) × Bool × Int × Int × (List TRow) × (List TKid) × Int × Int × (List br_) × Int × Bool × Int × (List Int) × Bool × Int × Int × (List TRow) × (List TKid) × Int × Bool × Unit
def bS_.of:bS_.c→bS_:=fun (x0,x1,x2,x3,x4,x5,x6,x7,x8,x9,x10,x11,x12,x13,x14,x15,x16,x17,x18,x19,x20,x21,x22,x23,x24,_)=>⟨⟨⟨x0,x1,x2,x3,x4,x5,x6,x7,x8⟩,x9,x10⟩,x11,⟨⟨x12,x13,x14,x15,x16,x17,x18,x19,x20⟩,x21,x22⟩,x23,x24⟩
def bS_.to (s:bS_):bS_.c:=(s.view.q.table,s.view.q.where_,s.view.q.order,s.view.q.down,s.view.q.first,s.view.q.show_,s.view.q.kids,s.view.q.kidTable,s.view.q.kidCol,s.view.rows,s.view.kids,s.version,s.last.q.table,s.last.q.where_,s.last.q.order,s.last.q.down,s.last.q.first,s.last.q.show_,s.last.q.kids,s.last.q.kidTable,s.last.q.kidCol,s.last.rows,s.last.kids,s.lastVersion,s.began,())
def al_.p (m:M):List Pat:=[.sl m .u8,.i .i64,.i .i64]
abbrev al_.c:Type:=(List Int) × Int × Int × Unit
def al_.of:al_.c→al_:=fun (x0,x1,x2,_)=>⟨x0,x1,x2⟩
def al_.to (s:al_):al_.c:=(s.b,s.i,s.h,())
def aI_.p (m:M):List Pat:=[.sl m .int]
abbrev aI_.c:Type:=(List Int) × Unit
def aI_.of:aI_.c→aI_:=fun (x0,_)=>⟨x0⟩
def aI_.to (s:aI_):aI_.c:=(s.cols,())
def ar_.p (m:M):List Pat:=[.sl m .int,.i .i64,.sl m .s_iRow]
abbrev ar_.c:Type:=(List Int) × Int × (List (List TRow)) × Unit
def ar_.of:ar_.c→ar_:=fun (x0,x1,x2,_)=>⟨⟨x0⟩,x1,x2⟩
def ar_.to (s:ar_):ar_.c:=(s.schema.cols,s.version,s.tables,())
def aa_.p (m:M):List Pat:=[.i .i64,.i .i64,.s,.sl m .iJson,.sl m .str]
abbrev aa_.c:Type:=Int × Int × Bs × (List aa_) × (List Bs) × Unit
def aa_.of:aa_.c→aa_:=fun (x0,x1,x2,x3,x4,_)=>⟨x0,x1,x2,x3,x4⟩
def aa_.to (s:aa_):aa_.c:=(s.kind,s.n_,s.s,s.list,s.names,())
def TOp.p (m:M):List Pat:=[.i .i64,.sl m .str,.i .i64,.i .i64,.s,.sl m .iJson,.sl m .str]
abbrev TOp.c:Type:=Int × (List Bs) × Int × Int × Bs × (List aa_) × (List Bs) × Unit
def TOp.of:TOp.c→TOp:=fun (x0,x1,x2,x3,x4,x5,x6,_)=>⟨x0,x1,⟨x2,x3,x4,x5,x6⟩⟩
def TOp.to (s:TOp):TOp.c:=(s.kind,s.way,s.value.kind,s.value.n_,s.value.s,s.value.list,s.value.names,())
def c0_.p (m:M):List Pat:=[.i .i64,.i .i64,.i .i64,.i .i64,.i .i64,.s,.sl m .iJson,.sl m .str,.sl m .iOp]
abbrev c0_.c:Type:=Int × Int × Int × Int × Int × Bs × (List aa_) × (List Bs) × (List TOp) × Unit
def c0_.of:c0_.c→c0_:=fun (x0,x1,x2,x3,x4,x5,x6,x7,x8,_)=>⟨x0,x1,x2,⟨x3,x4,x5,x6,x7⟩,x8⟩
def c0_.to (s:c0_):c0_.c:=(s.kind,s.version,s.base,s.doc.kind,s.doc.n_,s.doc.s,s.doc.list,s.doc.names,s.ops,())
def TMut.p (m:M):List Pat:=[.i .i64,.i .i64,.i .i64,.sl m .int]
abbrev TMut.c:Type:=Int × Int × Int × (List Int) × Unit
def TMut.of:TMut.c→TMut:=fun (x0,x1,x2,x3,_)=>⟨x0,x1,⟨x2,x3⟩⟩
def TMut.to (s:TMut):TMut.c:=(s.kind,s.table,s.row.id_,s.row.cells,())
def aS_.p (m:M):List Pat:=[.i .i64,.b,.b,.i .i64,.sl m .int,.i .i64,.sl m .int]
abbrev aS_.c:Type:=Int × Bool × Bool × Int × (List Int) × Int × (List Int) × Unit
def aS_.of:aS_.c→aS_:=fun (x0,x1,x2,x3,x4,x5,x6,_)=>⟨x0,x1,x2,⟨x3,x4⟩,⟨x5,x6⟩⟩
def aS_.to (s:aS_):aS_.c:=(s.table,s.had,s.has,s.old.id_,s.old.cells,s.new.id_,s.new.cells,())
def ao_.p (m:M):List Pat:=[.i .i64,.i .i64,.i .i64,.s,.sl m .iJson,.sl m .str]
abbrev ao_.c:Type:=Int × Int × Int × Bs × (List aa_) × (List Bs) × Unit
def ao_.of:ao_.c→ao_:=fun (x0,x1,x2,x3,x4,x5,_)=>⟨x0,⟨x1,x2,x3,x4,x5⟩⟩
def ao_.to (s:ao_):ao_.c:=(s.key,s.value.kind,s.value.n_,s.value.s,s.value.list,s.value.names,())
def rd0:RD:=⟨Bool,[.b],fun (a0,_)=>a0,fun r=>(r,())⟩
def gs_.e:FE:=mkE rd0 5 6 1 [.sl .v .u8] [.tmp 2] [] [] [] (un1 gs_)
def od0:OD:=⟨[(0,.view .u8),(3,.k),(4,.k)],(al_.p .v),[.ext]⟩
def od1:OD:=⟨[(0,.view .u8),(3,.k)],[.sl .v .u8,.i .i64],[.ext]⟩
def rd1:RD:=⟨al_,[.bx (al_.p .v)],fun (a0,_)=>(al_.of a0),fun r=>(al_.to r,())⟩
def b9_.e:FE:=mkE rd1 40 32 1 [.sl .v .u8] [.tmp 2] [] [(4,od0)] [(0,od1)] (un1 b9_)
def rd2:RD:=⟨Int × al_,[.i .i64,.bx (al_.p .v)],fun (a0,a1,_)=>(a0,(al_.of a1)),fun (a0,a1)=>(a0,al_.to a1,())⟩
def di_.e:FE:=mkE rd2 97 58 2 [.bx (al_.p .v)] [.tmp 2] [.pb 1 0] [] [] fun n (a0,_)=>di_ n (al_.of a0)
def av_.e:FE:=mkE rd2 42 37 2 [.bx (al_.p .v),.i .i64] [.tmp 4] [.pb 1 0] [] [] fun n (a0,a1,_)=>av_ n (al_.of a0) a1
def od2:OD:=⟨[(0,.box [.view .u8,.k,.k]),(2,.box [.k]),(3,.box [.own .d .int]),(4,.k)],[.pb 1 0,.pb 2 0,.pb 3 0,.i .i64],[.ext,.box (al_.p .v),.box [.nils],.box [.rt 4],.arr .d .int 2]⟩
def od3:OD:=⟨[(2,.box [.k]),(3,.box [.own .d .int])],[.pb 2 0,.pb 3 0],[.ext,.box (al_.p .v),.box [.nils],.box [.rt 4],.arr .d .int 2]⟩
def rd3:RD:=⟨aI_ × al_,[.ag [.sl .d .int],.bx (al_.p .v)],fun (a0,a1,_)=>((aI_.of a0),(al_.of a1)),fun (a0,a1)=>(aI_.to a0,al_.to a1,())⟩
def ay_.e:FE:=mkE rd3 174 22 2 [.bx (al_.p .v)] [.cell 2 41] [.pb 1 0] [(4,od2)] [(0,od3)] fun n (a0,_)=>ay_ n (al_.of a0)
def b4_.e:FE:=mkE rd0 129 15 1 (br_.p .v) [.tmp 6] [] [] [] (un3 b4_)
def od4:OD:=⟨[(1,.box [.view .int]),(3,.k)],[.pb 1 0,.i .i64],[.ext,.box [.sl .v .int]]⟩
def od5:OD:=⟨[(1,.box [.view .int])],[.pb 1 0],[.ext,.box [.sl .v .int]]⟩
def a1_.e:FE:=mkE rd0 179 22 1 [.ag [.sl .v .int]] [.tmp 2] [] [(3,od4)] [(0,od5)] fun n (a0,_)=>a1_ n (aI_.of a0)
def rd4:RD:=⟨aI_,[.ag [.sl .d .int]],fun (a0,_)=>(aI_.of a0),fun r=>(aI_.to r,())⟩
def dn_.e:FE:=mkE rd4 181 8 1 [.ag [.sl .v .int]] [.cell 2 41] [] [] [] fun n (a0,_)=>dn_ n (aI_.of a0)
def rd5:RD:=⟨ar_ × Bool,[.ag (ar_.p .d),.b],fun (a0,a1,_)=>((ar_.of a0),a1),fun (a0,a1)=>(ar_.to a0,a1,())⟩
def dC_.e:FE:=mkE rd5 173 15 1 [.ag [.sl .v .int]] [.cell 2 88,.tmp 3] [] [] [] fun n (a0,_)=>dC_ n (aI_.of a0)
def od6:OD:=⟨[(0,.box [.view .u8,.k,.k]),(1,.k),(4,.box [.k,.k]),(5,.box [.k,.own .d .int]),(6,.k)],[.pb 1 0,.i .i64,.pb 2 0,.pb 3 0,.i .i64],[.ext,.box (al_.p .v),.box [.i .i64,.nils],.box [.i .i64,.rt 4],.arr .d .int 2]⟩
def od7:OD:=⟨[(4,.box [.k,.k]),(5,.box [.k,.own .d .int])],[.pb 2 0,.pb 3 0],[.ext,.box (al_.p .v),.box [.i .i64,.nils],.box [.i .i64,.rt 4],.arr .d .int 2]⟩
def rd6:RD:=⟨TRow × al_,[.ag (TRow.p .d),.bx (al_.p .v)],fun (a0,a1,_)=>((TRow.of a0),(al_.of a1)),fun (a0,a1)=>(TRow.to a0,al_.to a1,())⟩
def aN_.e:FE:=mkE rd6 184 24 2 [.bx (al_.p .v),.i .i64] [.cell 4 75] [.pb 1 0] [(4,od6)] [(0,od7)] fun n (a0,a1,_)=>aN_ n (al_.of a0) a1
def od8:OD:=⟨[(0,.view .iRow),(1,.k),(5,.k)],[.sl .v .iRow,.i .i64,.i .i64],[.ext]⟩
def od9:OD:=⟨[],[],[.ext]⟩
def rd7:RD:=⟨Int,[.i .i64],fun (a0,_)=>a0,fun r=>(r,())⟩
def ca_.e:FE:=mkE rd7 208 20 1 [.sl .v .iRow,.i .i64] [.tmp 4] [] [(3,od8)] [(0,od9)] (un2 ca_)
def rd8:RD:=⟨TRow,[.ag (TRow.p .d)],fun (a0,_)=>(TRow.of a0),fun r=>(TRow.to r,())⟩
def cq_.e:FE:=mkE rd8 166 10 1 [.ag (TRow.p .v)] [.cell 2 75] [] [] [] fun n (a0,_)=>cq_ n (TRow.of a0)
def od10:OD:=⟨[(0,.view .iRow),(5,.k),(6,.own .d .iRow),(7,.k)],[.sl .v .iRow,.i .i64,.rt 1,.i .i64],[.ext,.arr .d .iRow 2]⟩
def od11:OD:=⟨[(6,.own .d .iRow)],[.rt 1],[.ext,.arr .d .iRow 2]⟩
def rd9:RD:=⟨(List TRow),[.sl .d .iRow],fun (a0,_)=>a0,fun r=>(r,())⟩
def bc_.e:FE:=mkE rd9 185 30 1 [.sl .v .iRow,.i .i64] [.tmp 4] [] [(5,od10)] [(0,od11)] (un2 bc_)
def od12:OD:=⟨[(3,.box [.k,.view .int]),(5,.own .d .iRow),(6,.k),(7,.k)],[.pb 1 0,.rt 2,.i .i64,.i .i64],[.ext,.box (TRow.p .v),.arr .d .iRow 2]⟩
def od13:OD:=⟨[(3,.box [.k,.view .int]),(5,.own .d .iRow),(6,.k)],[.pb 1 0,.rt 2,.i .i64],[.ext,.box (TRow.p .v),.arr .d .iRow 2]⟩
def rd10:RD:=⟨(List TRow),[.sl .s .iRow],fun (a0,_)=>a0,fun r=>(r,())⟩
def bx_.e:FE:=mkE rd10 206 55 1 [.sl .v .iRow,.ag (TRow.p .v)] [.tmp 4] [] [(6,od12)] [(0,od13)] fun n (a0,a1,_)=>bx_ n a0 (TRow.of a1)
def od14:OD:=⟨[(0,.box [.view .u8,.k,.k]),(1,.k),(5,.own .s .iRow),(6,.k)],[.pb 1 0,.i .i64,.rt 2,.i .i64],[.ext,.box (al_.p .v),.arr .s .iRow 2]⟩
def od15:OD:=⟨[(5,.own .s .iRow)],[.rt 2],[.ext,.box (al_.p .v),.arr .s .iRow 2]⟩
def rd11:RD:=⟨(List TRow) × al_,[.sl .s .iRow,.bx (al_.p .v)],fun (a0,a1,_)=>(a0,(al_.of a1)),fun (a0,a1)=>(a0,al_.to a1,())⟩
def aE_.e:FE:=mkE rd11 175 20 2 [.bx (al_.p .v),.i .i64] [.tmp 4] [.pb 1 0] [(4,od14)] [(0,od15)] fun n (a0,a1,_)=>aE_ n (al_.of a0) a1
def od16:OD:=⟨[(0,.box [.view .u8,.k,.k]),(2,.box [.k,.k,.k]),(3,.box [.own .d .int,.k,.own .s .s_iRow]),(5,.k)],[.pb 1 0,.pb 2 0,.pb 3 0,.i .i64],[.ext,.box (al_.p .v),.box [.nils,.i .i64,.nils],.box [.rt 4,.i .i64,.rt 5],.arr .d .int 2,.arr .s .s_iRow 2]⟩
def od17:OD:=⟨[(0,.box [.view .u8,.k,.k]),(2,.box [.k,.k,.k]),(3,.box [.own .d .int,.k,.own .s .s_iRow])],[.pb 1 0,.pb 2 0,.pb 3 0],[.ext,.box (al_.p .v),.box [.nils,.i .i64,.nils],.box [.rt 4,.i .i64,.rt 5],.arr .d .int 2,.arr .s .s_iRow 2]⟩
def rd12:RD:=⟨ar_ × al_,[.ag [.sl .d .int,.i .i64,.sl .s .s_iRow],.bx (al_.p .v)],fun (a0,a1,_)=>((ar_.of a0),(al_.of a1)),fun (a0,a1)=>(ar_.to a0,al_.to a1,())⟩
def az_.e:FE:=mkE rd12 125 35 2 [.bx (al_.p .v)] [.cell 2 88] [.pb 1 0] [(4,od16)] [(0,od17)] fun n (a0,_)=>az_ n (al_.of a0)
def cz_.e:FE:=mkE rd7 150 10 1 (TKid.p .v) [.tmp 4] [] [] [] (un2 cz_)
def rd13:RD:=⟨Bool × al_,[.b,.bx (al_.p .v)],fun (a0,a1,_)=>(a0,(al_.of a1)),fun (a0,a1)=>(a0,al_.to a1,())⟩
def cA_.e:FE:=mkE rd13 41 9 2 [.bx (al_.p .v),.i .i64] [.tmp 4] [.pb 1 0] [] [] fun n (a0,a1,_)=>cA_ n (al_.of a0) a1
def bU_.e:FE:=mkE rd2 114 12 2 [.bx (al_.p .v),.sl .v .int] [.tmp 4] [.pb 1 0] [] [] fun n (a0,a1,_)=>bU_ n (al_.of a0) a1
def od18:OD:=⟨[(0,.box [.view .u8,.k,.k]),(3,.box [.view .int]),(4,.box [.k,.k,.k,.k,.k,.k,.k,.k,.k]),(5,.box [.k,.own .d .iCond,.k,.k,.k,.k,.k,.k,.k]),(6,.k),(7,.k)],[.pb 1 0,.pb 2 0,.pb 3 0,.pb 4 0,.i .i64,.i .i64],[.ext,.box (al_.p .v),.box [.sl .v .int],.box [.i .i64,.nils,.i .i64,.b,.i .i64,.nils,.b,.i .i64,.i .i64],.box [.i .i64,.rt 5,.i .i64,.b,.i .i64,.nils,.b,.i .i64,.i .i64],.arr .d .iCond 2]⟩
def od19:OD:=⟨[(0,.box [.view .u8,.k,.k]),(3,.box [.view .int]),(4,.box [.k,.k,.k,.k,.k,.k,.k,.k,.k]),(5,.box [.k,.own .d .iCond,.k,.k,.k,.own .d .int,.k,.k,.k]),(6,.k),(8,.k)],[.pb 1 0,.pb 2 0,.pb 3 0,.pb 4 0,.i .i64,.i .i64],[.ext,.box (al_.p .v),.box [.sl .v .int],.box [.i .i64,.nils,.i .i64,.b,.i .i64,.nils,.b,.i .i64,.i .i64],.box [.i .i64,.rt 5,.i .i64,.b,.i .i64,.rt 6,.b,.i .i64,.i .i64],.arr .d .iCond 2,.arr .d .int 2]⟩
def od20:OD:=⟨[(0,.box [.view .u8,.k,.k]),(3,.box [.view .int]),(4,.box [.k,.k,.k,.k,.k,.k,.k,.k,.k]),(5,.box [.k,.own .d .iCond,.k,.k,.k,.k,.k,.k,.k]),(6,.k)],[.pb 1 0,.pb 2 0,.pb 3 0,.pb 4 0,.i .i64],[.ext,.box (al_.p .v),.box [.sl .v .int],.box [.i .i64,.nils,.i .i64,.b,.i .i64,.nils,.b,.i .i64,.i .i64],.box [.i .i64,.rt 5,.i .i64,.b,.i .i64,.nils,.b,.i .i64,.i .i64],.arr .d .iCond 2]⟩
def od21:OD:=⟨[(0,.box [.view .u8,.k,.k]),(3,.box [.view .int]),(4,.box [.k,.k,.k,.k,.k,.k,.k,.k,.k]),(5,.box [.k,.own .d .iCond,.k,.k,.k,.own .d .int,.k,.k,.k])],[.pb 1 0,.pb 2 0,.pb 3 0,.pb 4 0],[.ext,.box (al_.p .v),.box [.sl .v .int],.box [.i .i64,.nils,.i .i64,.b,.i .i64,.nils,.b,.i .i64,.i .i64],.box [.i .i64,.rt 5,.i .i64,.b,.i .i64,.rt 6,.b,.i .i64,.i .i64],.arr .d .iCond 2,.arr .d .int 2]⟩
def rd14:RD:=⟨ap_ × al_,[.ag (ap_.p .d),.bx (al_.p .v)],fun (a0,a1,_)=>((ap_.of a0),(al_.of a1)),fun (a0,a1)=>(ap_.to a0,al_.to a1,())⟩
def ad_.e:FE:=mkE rd14 127 106 2 [.bx (al_.p .v),.ag [.sl .v .int]] [.cell 4 27] [.pb 1 0] [(7,od18),(16,od19)] [(0,od20),(2,od21)] fun n (a0,a1,_)=>ad_ n (al_.of a0) (aI_.of a1)
def od22:OD:=⟨[(5,.box [.k,.view .int]),(7,.k)],[.pb 1 0,.i .i64],[.ext,.box (TRow.p .v)]⟩
def ce_.e:FE:=mkE rd0 207 51 1 [.ag [.sl .v .int],.i .i64,.ag (TRow.p .v)] [.tmp 6] [] [(6,od22)] [(0,od9)] fun n (a0,a1,a2,_)=>ce_ n (aI_.of a0) a1 (TRow.of a2)
def od23:OD:=⟨[(1,.k),(2,.view .iRow),(3,.box [.view .int]),(7,.k)],[.i .i64,.sl .v .iRow,.pb 1 0,.i .i64],[.ext,.box [.sl .v .int]]⟩
def od24:OD:=⟨[(1,.k),(2,.view .iRow),(3,.box [.view .int])],[.i .i64,.sl .v .iRow,.pb 1 0],[.ext,.box [.sl .v .int]]⟩
def bR_.e:FE:=mkE rd0 180 55 1 [.ag [.sl .v .int],.i .i64,.sl .v .iRow] [.tmp 6] [] [(3,od23)] [(0,od24)] fun n (a0,a1,a2,_)=>bR_ n (aI_.of a0) a1 a2
def od25:OD:=⟨[(1,.box [.view .int,.k,.view .s_iRow]),(3,.k)],[.pb 1 0,.i .i64],[.ext,.box (ar_.p .v)]⟩
def bs_.e:FE:=mkE rd0 128 41 1 [.ag (ar_.p .v)] [.tmp 2] [] [(6,od25)] [(0,od9)] fun n (a0,_)=>bs_ n (ar_.of a0)
def od26:OD:=⟨[(2,.box [.view .int]),(3,.box [.k,.view .iCond,.k,.k,.k,.view .int,.k,.k,.k]),(5,.k),(6,.k)],[.pb 1 0,.pb 2 0,.i .i64,.i .i64],[.ext,.box [.sl .v .int],.box (ap_.p .v)]⟩
def od27:OD:=⟨[(2,.box [.view .int]),(3,.box [.k,.view .iCond,.k,.k,.k,.view .int,.k,.k,.k]),(5,.k),(8,.k)],[.pb 1 0,.pb 2 0,.i .i64,.i .i64],[.ext,.box [.sl .v .int],.box (ap_.p .v)]⟩
def od28:OD:=⟨[(2,.box [.view .int]),(3,.box [.k,.view .iCond,.k,.k,.k,.view .int,.k,.k,.k]),(5,.k)],[.pb 1 0,.pb 2 0,.i .i64],[.ext,.box [.sl .v .int],.box (ap_.p .v)]⟩
def aB_.e:FE:=mkE rd0 176 148 1 [.ag [.sl .v .int],.ag (ap_.p .v)] [.tmp 4] [] [(7,od26),(16,od27)] [(0,od28),(2,od28)] fun n (a0,a1,_)=>aB_ n (aI_.of a0) (ap_.of a1)
def rd15:RD:=⟨ap_,[.ag (ap_.p .d)],fun (a0,_)=>(ap_.of a0),fun r=>(ap_.to r,())⟩
def eg_.e:FE:=mkE rd15 117 14 1 [.ag (ap_.p .v)] [.cell 2 27] [] [] [] fun n (a0,_)=>eg_ n (ap_.of a0)
def dJ_.e:FE:=mkE rd0 209 46 1 [.ag (br_.p .v),.ag (TRow.p .v)] [.tmp 4] [] [] [] fun n (a0,a1,_)=>dJ_ n (br_.of a0) (TRow.of a1)
def od29:OD:=⟨[(2,.box [.k,.view .iCond,.k,.k,.k,.view .int,.k,.k,.k]),(3,.box [.k,.view .int]),(5,.k)],[.pb 1 0,.pb 2 0,.i .i64],[.ext,.box (ap_.p .v),.box (TRow.p .v)]⟩
def bF_.e:FE:=mkE rd0 186 21 1 [.ag (ap_.p .v),.ag (TRow.p .v)] [.tmp 4] [] [(3,od29)] [(0,od9)] fun n (a0,a1,_)=>bF_ n (ap_.of a0) (TRow.of a1)
def bH_.e:FE:=mkE rd7 188 17 1 [.ag (TRow.p .v),.i .i64] [.tmp 4] [] [] [] fun n (a0,a1,_)=>bH_ n (TRow.of a0) a1
def eI_.e:FE:=mkE rd0 210 36 1 [.ag (ap_.p .v),.ag (TRow.p .v),.ag (TRow.p .v)] [.tmp 6] [] [] [] fun n (a0,a1,a2,_)=>eI_ n (ap_.of a0) (TRow.of a1) (TRow.of a2)
def od30:OD:=⟨[(1,.view .iRow),(3,.box [.k,.view .iCond,.k,.k,.k,.view .int,.k,.k,.k]),(5,.box [.k,.view .int]),(7,.own .s .iRow),(8,.k),(9,.k)],[.sl .v .iRow,.pb 1 0,.pb 2 0,.rt 3,.b,.i .i64],[.ext,.box (ap_.p .v),.box (TRow.p .v),.arr .s .iRow 2]⟩
def od31:OD:=⟨[(5,.box [.k,.view .int]),(7,.own .s .iRow),(8,.k)],[.pb 1 0,.rt 2,.b],[.ext,.box (TRow.p .v),.arr .s .iRow 2]⟩
def bI_.e:FE:=mkE rd10 187 48 1 [.ag (ap_.p .v),.sl .v .iRow,.ag (TRow.p .v)] [.tmp 6] [] [(5,od30)] [(0,od31)] fun n (a0,a1,a2,_)=>bI_ n (ap_.of a0) a1 (TRow.of a2)
def od32:OD:=⟨[(3,.box [.k,.view .iCond,.k,.k,.k,.view .int,.k,.k,.k]),(5,.own .s .iRow),(6,.view .iRow),(7,.k)],[.pb 1 0,.rt 2,.sl .v .iRow,.i .i64],[.ext,.box (ap_.p .v),.arr .s .iRow 2]⟩
def od33:OD:=⟨[(5,.own .s .iRow)],[.rt 1],[.ext,.arr .s .iRow 2]⟩
def bB_.e:FE:=mkE rd10 177 46 1 [.ag (ar_.p .v),.ag (ap_.p .v)] [.tmp 4] [] [(8,od32)] [(0,od33)] fun n (a0,a1,_)=>bB_ n (ar_.of a0) (ap_.of a1)
def od34:OD:=⟨[(0,.view .iKid),(1,.k),(2,.k),(7,.own .d .iKid),(8,.k),(9,.k)],[.sl .v .iKid,.i .i64,.i .i64,.rt 1,.b,.i .i64],[.ext,.arr .d .iKid 2]⟩
def od35:OD:=⟨[(1,.k),(2,.k),(7,.own .d .iKid),(8,.k)],[.i .i64,.i .i64,.rt 1,.b],[.ext,.arr .d .iKid 2]⟩
def rd16:RD:=⟨(List TKid),[.sl .d .iKid],fun (a0,_)=>a0,fun r=>(r,())⟩
def aQ_.e:FE:=mkE rd16 178 69 1 [.sl .v .iKid,.i .i64,.i .i64] [.tmp 6] [] [(5,od34)] [(0,od35)] (un3 aQ_)
def od36:OD:=⟨[(3,.box [.k,.view .iCond,.k,.k,.k,.view .int,.k,.k,.k]),(4,.box [.k,.k,.k,.k,.k,.k,.k,.k,.k,.k,.k]),(6,.box [.k,.own .d .iCond,.k,.k,.k,.own .d .int,.k,.k,.k,.own .s .iRow,.own .d .iKid]),(7,.view .iRow),(8,.k)],[.pb 1 0,.pb 2 0,.pb 3 0,.sl .v .iRow,.i .i64],[.ext,.box (ap_.p .v),.box [.i .i64,.nils,.i .i64,.b,.i .i64,.nils,.b,.i .i64,.i .i64,.nils,.nils],.box [.i .i64,.rt 4,.i .i64,.b,.i .i64,.rt 5,.b,.i .i64,.i .i64,.rt 6,.rt 7],.arr .d .iCond 2,.arr .d .int 2,.arr .s .iRow 2,.arr .d .iKid 2]⟩
def od37:OD:=⟨[(4,.box [.k,.k,.k,.k,.k,.k,.k,.k,.k,.k,.k]),(6,.box [.k,.own .d .iCond,.k,.k,.k,.own .d .int,.k,.k,.k,.own .s .iRow,.own .d .iKid])],[.pb 1 0,.pb 2 0],[.ext,.box [.i .i64,.nils,.i .i64,.b,.i .i64,.nils,.b,.i .i64,.i .i64,.nils,.nils],.box [.i .i64,.rt 3,.i .i64,.b,.i .i64,.rt 4,.b,.i .i64,.i .i64,.rt 5,.rt 6],.arr .d .iCond 2,.arr .d .int 2,.arr .s .iRow 2,.arr .d .iKid 2]⟩
def rd17:RD:=⟨aJ_ × Bool,[.ag [.i .i64,.sl .d .iCond,.i .i64,.b,.i .i64,.sl .d .int,.b,.i .i64,.i .i64,.sl .s .iRow,.sl .d .iKid],.b],fun (a0,a1,_)=>((aJ_.of a0),a1),fun (a0,a1)=>(aJ_.to a0,a1,())⟩
def bM_.e:FE:=mkE rd17 126 56 1 [.ag (ar_.p .v),.ag (ap_.p .v)] [.cell 4 31,.tmp 5] [] [(8,od36)] [(0,od37)] fun n (a0,a1,_)=>bM_ n (ar_.of a0) (ap_.of a1)
def rd18:RD:=⟨bS_ × Bool,[.ag [.i .i64,.sl .d .iCond,.i .i64,.b,.i .i64,.sl .d .int,.b,.i .i64,.i .i64,.sl .s .iRow,.sl .d .iKid,.i .i64,.i .i64,.sl .d .iCond,.i .i64,.b,.i .i64,.sl .d .int,.b,.i .i64,.i .i64,.sl .d .iRow,.sl .d .iKid,.i .i64,.b],.b],fun (a0,a1,_)=>((bS_.of a0),a1),fun (a0,a1)=>(bS_.to a0,a1,())⟩
def d7_.e:FE:=mkE rd18 162 21 1 [.ag (ar_.p .v),.ag (ap_.p .v)] [.cell 4 49,.tmp 5] [] [] [] fun n (a0,a1,_)=>d7_ n (ar_.of a0) (ap_.of a1)
def od38:OD:=⟨[(0,.view .iRow),(3,.own .d .iRow),(4,.k)],[.sl .v .iRow,.rt 1,.i .i64],[.ext,.arr .d .iRow 2]⟩
def od39:OD:=⟨[(3,.own .d .iRow)],[.rt 1],[.ext,.arr .d .iRow 2]⟩
def bL_.e:FE:=mkE rd9 118 21 1 [.sl .v .iRow] [.tmp 2] [] [(4,od38)] [(0,od39)] (un1 bL_)
def rd19:RD:=⟨aJ_,[.ag (aJ_.p .d)],fun (a0,_)=>(aJ_.of a0),fun r=>(aJ_.to r,())⟩
def cI_.e:FE:=mkE rd19 57 14 1 [.ag (aJ_.p .v)] [.cell 2 31] [] [] [] fun n (a0,_)=>cI_ n (aJ_.of a0)
def rd20:RD:=⟨bS_,[.ag (bS_.p .d)],fun (a0,_)=>(bS_.of a0),fun r=>(bS_.to r,())⟩
def dK_.e:FE:=mkE rd20 56 16 1 [.ag (bS_.p .v)] [.cell 2 49] [] [] [] fun n (a0,_)=>dK_ n (bS_.of a0)
def od40:OD:=⟨[(1,.k),(2,.box [.k,.view .iCond,.k,.k,.k,.view .int,.k,.k,.k,.view .iRow,.view .iKid]),(5,.k)],[.i .i64,.pb 1 0,.i .i64],[.ext,.box (aJ_.p .v)]⟩
def bY_.e:FE:=mkE rd7 89 27 1 [.ag (aJ_.p .v),.i .i64] [.tmp 4] [] [(3,od40)] [(0,od9)] fun n (a0,a1,_)=>bY_ n (aJ_.of a0) a1
def od41:OD:=⟨[(1,.box [.k,.view .iCond,.k,.k,.k,.view .int,.k,.k,.k,.view .iRow,.view .iKid]),(3,.own .d .int),(4,.k)],[.pb 1 0,.rt 2,.i .i64],[.ext,.box (aJ_.p .v),.arr .d .int 2]⟩
def od42:OD:=⟨[(3,.own .d .int)],[.rt 1],[.ext,.arr .d .int 2]⟩
def rd21:RD:=⟨(List Int),[.sl .d .int],fun (a0,_)=>a0,fun r=>(r,())⟩
def a8_.e:FE:=mkE rd21 84 25 1 [.ag (aJ_.p .v)] [.tmp 2] [] [(4,od41)] [(0,od42)] fun n (a0,_)=>a8_ n (aJ_.of a0)
def eW_.e:FE:=mkE rd7 151 10 1 (TKid.p .v) [.tmp 4] [] [] [] (un2 eW_)
def dq_.e:FE:=mkE rd7 87 14 1 [.ag (ap_.p .v),.i .i64] [.tmp 4] [] [] [] fun n (a0,a1,_)=>dq_ n (ap_.of a0) a1
def od43:OD:=⟨[(0,.k),(3,.k),(4,.k)],[.i .i64,.b,.s],[.ext]⟩
def od44:OD:=⟨[(3,.k),(4,.k)],[.b,.s],[.ext]⟩
def sy_:RD:=⟨Bs,[.s],fun (a0,_)=>a0,fun r=>(r,())⟩
def a0_.e:FE:=mkE sy_ 145 31 1 [.i .i64] [.tmp 2] [] [(7,od43)] [(0,od44)] (un1 a0_)
def tn_:RD:=⟨aa_,[.ag (aa_.p .d)],fun (a0,_)=>(aa_.of a0),fun r=>(aa_.to r,())⟩
def cY_.e:FE:=mkE tn_ 149 5 1 [.i .i64] [.cell 2 46] [] [] [] (un1 cY_)
def od45:OD:=⟨[(1,.k),(3,.box [.k,.k,.k,.view .iJson,.view .str]),(5,.box [.k,.k,.k,.view .iJson,.view .str]),(6,.box [.k,.k,.k,.k,.k]),(7,.box [.k,.k,.k,.own .s .iJson,.own .d .str]),(8,.k),(9,.k)],[.s,.pb 1 0,.pb 2 0,.pb 3 0,.pb 4 0,.b,.i .i64],[.ext,.box (aa_.p .v),.box (aa_.p .v),.box [.i .i64,.i .i64,.s,.nils,.nils],.box [.i .i64,.i .i64,.s,.rt 5,.rt 6],.arr .s .iJson 2,.arr .d .str 2]⟩
def od46:OD:=⟨[(1,.k),(5,.box [.k,.k,.k,.view .iJson,.view .str]),(6,.box [.k,.k,.k,.k,.k]),(7,.box [.k,.k,.k,.own .s .iJson,.own .d .str]),(8,.k)],[.s,.pb 1 0,.pb 2 0,.pb 3 0,.b],[.ext,.box (aa_.p .v),.box [.i .i64,.i .i64,.s,.nils,.nils],.box [.i .i64,.i .i64,.s,.rt 4,.rt 5],.arr .s .iJson 2,.arr .d .str 2]⟩
def rd24:RD:=⟨aa_,[.ag [.i .i64,.i .i64,.s,.sl .s .iJson,.sl .d .str]],fun (a0,_)=>(aa_.of a0),fun r=>(aa_.to r,())⟩
def bG_.e:FE:=mkE rd24 96 83 1 [.ag (aa_.p .v),.s,.ag (aa_.p .v)] [.cell 6 46] [] [(5,od45)] [(0,od46)] fun n (a0,a1,a2,_)=>bG_ n (aa_.of a0) a1 (aa_.of a2)
def od47:OD:=⟨[(2,.k),(3,.box [.k,.view .iCond,.k,.k,.k,.view .int,.k,.k,.k]),(4,.box [.k,.view .int]),(6,.box [.k,.k,.k,.k,.k]),(7,.box [.k,.k,.k,.own .s .iJson,.own .d .str]),(8,.k)],[.i .i64,.pb 1 0,.pb 2 0,.pb 3 0,.pb 4 0,.i .i64],[.ext,.box (ap_.p .v),.box (TRow.p .v),.box [.i .i64,.i .i64,.s,.nils,.nils],.box [.i .i64,.i .i64,.s,.rt 5,.rt 6],.arr .s .iJson 2,.arr .d .str 2]⟩
def od48:OD:=⟨[(2,.k),(3,.box [.k,.view .iCond,.k,.k,.k,.view .int,.k,.k,.k]),(4,.box [.k,.view .int]),(6,.box [.k,.k,.k,.k,.k]),(7,.box [.k,.k,.k,.own .s .iJson,.own .d .str])],[.i .i64,.pb 1 0,.pb 2 0,.pb 3 0,.pb 4 0],[.ext,.box (ap_.p .v),.box (TRow.p .v),.box [.i .i64,.i .i64,.s,.nils,.nils],.box [.i .i64,.i .i64,.s,.rt 5,.rt 6],.arr .s .iJson 2,.arr .d .str 2]⟩
def bE_.e:FE:=mkE rd24 147 46 1 [.ag (ap_.p .v),.ag (TRow.p .v),.i .i64] [.cell 6 46] [] [(4,od47)] [(0,od48)] fun n (a0,a1,a2,_)=>bE_ n (ap_.of a0) (TRow.of a1) a2
def od49:OD:=⟨[(0,.k),(3,.k)],[.s,.i .i64],[.ext]⟩
def od50:OD:=⟨[(0,.k)],[.s],[.ext]⟩
def bV_.e:FE:=mkE rd0 155 23 1 [.s] [.tmp 2] [] [(3,od49)] [(0,od50)] (un1 bV_)
def od51:OD:=⟨[(1,.box [.k,.k,.k,.view .iJson,.view .str]),(3,.k)],[.pb 1 0,.i .i64],[.ext,.box (aa_.p .v)]⟩
def od52:OD:=⟨[(1,.box [.k,.k,.k,.view .iJson,.view .str])],[.pb 1 0],[.ext,.box (aa_.p .v)]⟩
def ae_.e:FE:=mkE rd0 194 50 1 [.ag (aa_.p .v)] [.tmp 2] [] [(6,od51)] [(0,od52)] fun n (a0,_)=>ae_ n (aa_.of a0)
def od53:OD:=⟨[(1,.k),(2,.box [.k,.k,.k,.view .iJson,.view .str]),(5,.k),(6,.k),(7,.k)],[.i .i64,.pb 1 0,.i .i64,.i .i64,.i .i64],[.ext,.box (aa_.p .v)]⟩
def od54:OD:=⟨[(2,.box [.k,.k,.k,.view .iJson,.view .str]),(5,.k),(6,.k)],[.pb 1 0,.i .i64,.i .i64],[.ext,.box (aa_.p .v)]⟩
def aR_.e:FE:=mkE rd7 144 106 1 [.ag (aa_.p .v),.i .i64] [.tmp 4] [] [(23,od53)] [(1,od54)] fun n (a0,a1,_)=>aR_ n (aa_.of a0) a1
def cJ_.e:FE:=mkE rd0 81 6 1 [.ag (aa_.p .v)] [.tmp 2] [] [] [] fun n (a0,_)=>cJ_ n (aa_.of a0)
def rd25:RD:=⟨aa_,[.ag (aa_.p .v)],fun (a0,_)=>(aa_.of a0),fun r=>(aa_.to r,())⟩
def c7_.e:FE:=mkE rd25 148 8 1 [.ag (aa_.p .v)] [.cell 2 46] [] [] [] fun n (a0,_)=>c7_ n (aa_.of a0)
def od55:OD:=⟨[(1,.view .iRow),(2,.view .int),(3,.box [.k,.view .iCond,.k,.k,.k,.view .int,.k,.k,.k]),(6,.box [.k,.k,.k,.k,.k]),(7,.box [.k,.k,.k,.own .s .iJson,.k]),(8,.k)],[.sl .v .iRow,.sl .v .int,.pb 1 0,.pb 2 0,.pb 3 0,.i .i64],[.ext,.box (ap_.p .v),.box [.i .i64,.i .i64,.s,.nils,.nils],.box [.i .i64,.i .i64,.s,.rt 4,.nils],.arr .s .iJson 2]⟩
def od56:OD:=⟨[(1,.view .iRow),(6,.box [.k,.k,.k,.k,.k]),(7,.box [.k,.k,.k,.own .s .iJson,.k])],[.sl .v .iRow,.pb 1 0,.pb 2 0],[.ext,.box [.i .i64,.i .i64,.s,.nils,.nils],.box [.i .i64,.i .i64,.s,.rt 3,.nils],.arr .s .iJson 2]⟩
def cb_.e:FE:=mkE rd25 83 47 1 [.ag (ap_.p .v),.sl .v .iRow,.sl .v .int] [.cell 6 46] [] [(4,od55)] [(0,od56)] fun n (a0,a1,a2,_)=>cb_ n (ap_.of a0) a1 a2
def dc_.e:FE:=mkE rd25 33 10 1 [.ag (aJ_.p .v)] [.cell 2 46] [] [] [] fun n (a0,_)=>dc_ n (aJ_.of a0)
def od57:OD:=⟨[(2,.box [.k,.k,.k,.view .iJson,.view .str]),(3,.box [.k,.k,.k,.view .iJson,.view .str]),(5,.k)],[.pb 1 0,.pb 2 0,.i .i64],[.ext,.box (aa_.p .v),.box (aa_.p .v)]⟩
def od58:OD:=⟨[(2,.box [.k,.k,.k,.view .iJson,.view .str]),(3,.box [.k,.k,.k,.view .iJson,.view .str]),(6,.k)],[.pb 1 0,.pb 2 0,.i .i64],[.ext,.box (aa_.p .v),.box (aa_.p .v)]⟩
def od59:OD:=⟨[(2,.box [.k,.k,.k,.view .iJson,.view .str]),(3,.box [.k,.k,.k,.view .iJson,.view .str])],[.pb 1 0,.pb 2 0],[.ext,.box (aa_.p .v),.box (aa_.p .v)]⟩
def ax_.e:FE:=mkE rd0 119 81 1 [.ag (aa_.p .v),.ag (aa_.p .v)] [.tmp 4] [] [(6,od57),(14,od58)] [(0,od59),(2,od9)] fun n (a0,a1,_)=>ax_ n (aa_.of a0) (aa_.of a1)
def dD_.e:FE:=mkE rd0 58 16 1 [.ag (aa_.p .v),.ag (aa_.p .v)] [.tmp 4] [] [] [] fun n (a0,a1,_)=>dD_ n (aa_.of a0) (aa_.of a1)
def dL_.e:FE:=mkE rd0 21 16 1 [.ag (bS_.p .v)] [.tmp 2] [] [] [] fun n (a0,_)=>dL_ n (bS_.of a0)
def od60:OD:=⟨[(0,.view .iCond),(1,.view .iCond),(5,.k)],[.sl .v .iCond,.sl .v .iCond,.i .i64],[.ext]⟩
def od61:OD:=⟨[(0,.view .iCond),(1,.view .iCond)],[.sl .v .iCond,.sl .v .iCond],[.ext]⟩
def bA_.e:FE:=mkE rd0 85 32 1 [.sl .v .iCond,.sl .v .iCond] [.tmp 4] [] [(3,od60)] [(0,od61)] (un2 bA_)
def od62:OD:=⟨[(0,.view .int),(1,.view .int),(5,.k)],[.sl .v .int,.sl .v .int,.i .i64],[.ext]⟩
def od63:OD:=⟨[(0,.view .int),(1,.view .int)],[.sl .v .int,.sl .v .int],[.ext]⟩
def bQ_.e:FE:=mkE rd0 86 32 1 [.sl .v .int,.sl .v .int] [.tmp 4] [] [(3,od62)] [(0,od63)] (un2 bQ_)
def dr_.e:FE:=mkE rd0 34 66 1 [.ag (ap_.p .v),.ag (ap_.p .v)] [.tmp 4] [] [] [] fun n (a0,a1,_)=>dr_ n (ap_.of a0) (ap_.of a1)
def eX_.e:FE:=mkE tn_ 35 11 1 [.i .i64] [.cell 2 46] [] [] [] (un1 eX_)
def eq_.e:FE:=mkE rd25 88 12 1 [.ag (ap_.p .v),.ag (TRow.p .v),.i .i64] [.cell 6 46] [] [] [] fun n (a0,a1,a2,_)=>eq_ n (ap_.of a0) (TRow.of a1) a2
def od64:OD:=⟨[(1,.box [.k,.view .iCond,.k,.k,.k,.view .int,.k,.k,.k,.view .iRow,.view .iKid]),(4,.own .s .iJson),(5,.own .d .int),(6,.k)],[.pb 1 0,.rt 2,.rt 3,.i .i64],[.ext,.box (aJ_.p .v),.arr .s .iJson 2,.arr .d .int 2]⟩
def od65:OD:=⟨[(4,.own .s .iJson),(5,.own .d .int)],[.rt 1,.rt 2],[.ext,.arr .s .iJson 2,.arr .d .int 2]⟩
def rd26:RD:=⟨(List aa_) × (List Int),[.sl .s .iJson,.sl .d .int],fun (a0,a1,_)=>(a0,a1),fun (a0,a1)=>(a0,a1,())⟩
def bh_.e:FE:=mkE rd26 36 49 1 [.ag (aJ_.p .v)] [.tmp 2,.tmp 3] [] [(5,od64)] [(0,od65)] fun n (a0,_)=>bh_ n (aJ_.of a0)
def od66:OD:=⟨[(0,.view .int),(1,.k),(5,.k)],[.sl .v .int,.i .i64,.i .i64],[.ext]⟩
def cn_.e:FE:=mkE rd7 152 19 1 [.sl .v .int,.i .i64] [.tmp 4] [] [(3,od66)] [(0,od9)] (un2 cn_)
def od67:OD:=⟨[(0,.view .int),(1,.view .iJson),(5,.k)],[.sl .v .int,.sl .v .iJson,.i .i64],[.ext]⟩
def od68:OD:=⟨[(0,.view .int),(1,.view .iJson),(6,.k)],[.sl .v .int,.sl .v .iJson,.i .i64],[.ext]⟩
def od69:OD:=⟨[(0,.view .int),(1,.view .iJson)],[.sl .v .int,.sl .v .iJson],[.ext]⟩
def aK_.e:FE:=mkE rd0 91 39 1 [.sl .v .int,.sl .v .iJson] [.tmp 4] [] [(3,od67),(11,od68)] [(0,od69),(2,od69)] (un2 aK_)
def c4_.e:FE:=mkE rd21 153 15 1 [.sl .v .int,.i .i64] [.tmp 4] [] [] [] (un2 c4_)
def od70:OD:=⟨[(1,.box [.k,.k,.k,.view .iJson,.view .str]),(2,.box [.k,.k,.k,.k,.k]),(3,.box [.k,.k,.k,.own .d .iJson,.own .d .str]),(4,.k)],[.pb 1 0,.pb 2 0,.pb 3 0,.i .i64],[.ext,.box (aa_.p .v),.box [.i .i64,.i .i64,.s,.nils,.nils],.box [.i .i64,.i .i64,.s,.rt 4,.rt 5],.arr .d .iJson 2,.arr .d .str 2]⟩
def od71:OD:=⟨[(2,.box [.k,.k,.k,.k,.k]),(3,.box [.k,.k,.k,.own .d .iJson,.own .d .str])],[.pb 1 0,.pb 2 0],[.ext,.box [.i .i64,.i .i64,.s,.nils,.nils],.box [.i .i64,.i .i64,.s,.rt 3,.rt 4],.arr .d .iJson 2,.arr .d .str 2]⟩
def bj_.e:FE:=mkE tn_ 90 35 1 [.ag (aa_.p .v)] [.cell 2 46] [] [(4,od70)] [(0,od71)] fun n (a0,_)=>bj_ n (aa_.of a0)
def dp_.e:FE:=mkE rd21 154 22 1 [.sl .v .int,.i .i64,.i .i64] [.tmp 6] [] [] [] (un3 dp_)
def od72:OD:=⟨[(0,.view .iJson),(1,.view .int),(2,.view .iJson),(3,.view .int),(9,.own .d .iOp),(10,.own .d .int),(11,.k)],[.sl .v .iJson,.sl .v .int,.sl .v .iJson,.sl .v .int,.rt 1,.rt 2,.i .i64],[.ext,.arr .d .iOp 2,.arr .d .int 2]⟩
def od73:OD:=⟨[(0,.view .iJson),(1,.view .int),(2,.view .iJson),(3,.view .int),(9,.own .d .iOp),(10,.own .d .int),(12,.k)],[.sl .v .iJson,.sl .v .int,.sl .v .iJson,.sl .v .int,.rt 1,.rt 2,.i .i64],[.ext,.arr .d .iOp 2,.arr .d .int 2]⟩
def od74:OD:=⟨[(0,.view .iJson),(1,.view .int),(2,.view .iJson),(3,.view .int),(9,.own .d .iOp),(10,.own .d .int)],[.sl .v .iJson,.sl .v .int,.sl .v .iJson,.sl .v .int,.rt 1,.rt 2],[.ext,.arr .d .iOp 2,.arr .d .int 2]⟩
def od75:OD:=⟨[(9,.own .d .iOp)],[.rt 1],[.ext,.arr .d .iOp 2]⟩
def rd27:RD:=⟨(List TOp),[.sl .d .iOp],fun (a0,_)=>a0,fun r=>(r,())⟩
def aF_.e:FE:=mkE rd27 92 116 1 [.sl .v .iJson,.sl .v .int,.sl .v .iJson,.sl .v .int] [.tmp 8] [] [(5,od72),(13,od73)] [(0,od74),(2,od75)] (un4 aF_)
def fd_.e:FE:=mkE rd27 38 25 1 [.sl .v .iJson,.sl .v .int,.sl .v .iJson,.sl .v .int] [.tmp 8] [] [] [] (un4 fd_)
def od76:OD:=⟨[(0,.k),(1,.view .iOp),(5,.own .d .iOp),(6,.k)],[.s,.sl .v .iOp,.rt 1,.i .i64],[.ext,.arr .d .iOp 2]⟩
def od77:OD:=⟨[(5,.own .d .iOp)],[.rt 1],[.ext,.arr .d .iOp 2]⟩
def b1_.e:FE:=mkE rd27 37 38 1 [.s,.sl .v .iOp] [.tmp 4] [] [(4,od76)] [(0,od77)] (un2 b1_)
def c5_.e:FE:=mkE rd27 11 52 1 [.ag (aJ_.p .v),.ag (aJ_.p .v)] [.tmp 4] [] [] [] fun n (a0,a1,_)=>c5_ n (aJ_.of a0) (aJ_.of a1)
def od78:OD:=⟨[(1,.box [.k,.view .str,.k,.k,.k,.view .iJson,.view .str]),(3,.k)],[.pb 1 0,.i .i64],[.ext,.box (TOp.p .v)]⟩
def od79:OD:=⟨[(1,.box [.k,.view .str,.k,.k,.k,.view .iJson,.view .str])],[.pb 1 0],[.ext,.box (TOp.p .v)]⟩
def cl_.e:FE:=mkE rd0 93 43 1 [.ag (TOp.p .v)] [.tmp 2] [] [(6,od78)] [(0,od79)] fun n (a0,_)=>cl_ n (TOp.of a0)
def rd28:RD:=⟨(List Bs),[.sl .d .str],fun (a0,_)=>a0,fun r=>(r,())⟩
def d3_.e:FE:=mkE rd28 94 2 1 [] [.tmp 0] [] [] [] fun n _=>d3_ n ()
def od80:OD:=⟨[(0,.view .str),(3,.own .d .u8),(4,.k)],[.sl .v .str,.rt 1,.i .i64],[.ext,.arr .d .u8 2]⟩
def od81:OD:=⟨[(0,.view .str),(3,.own .d .u8),(4,.k),(5,.k)],[.sl .v .str,.rt 1,.i .i64,.i .i64],[.ext,.arr .d .u8 2]⟩
def od82:OD:=⟨[(3,.own .d .u8)],[.rt 1],[.ext,.arr .d .u8 2]⟩
def aD_.e:FE:=mkE sy_ 95 52 1 [.sl .v .str] [.tmp 2] [] [(10,od81),(4,od80)] [(0,od82),(2,od80)] (un1 aD_)
def er_.e:FE:=mkE rd24 39 34 1 [.ag (TOp.p .v)] [.cell 2 46] [] [] [] fun n (a0,_)=>er_ n (TOp.of a0)
def od83:OD:=⟨[(0,.k),(3,.own .d .u8),(4,.k)],[.s,.rt 1,.i .i64],[.ext,.arr .d .u8 2]⟩
def bl_.e:FE:=mkE sy_ 146 35 1 [.s] [.tmp 2] [] [(4,od83)] [(0,od82)] (un1 bl_)
def od84:OD:=⟨[(1,.box [.k,.k,.k,.view .iJson,.view .str]),(3,.k),(4,.k)],[.pb 1 0,.s,.i .i64],[.ext,.box (aa_.p .v)]⟩
def od85:OD:=⟨[(1,.box [.k,.k,.k,.view .iJson,.view .str]),(3,.k)],[.pb 1 0,.s],[.ext,.box (aa_.p .v)]⟩
def aP_.e:FE:=mkE sy_ 82 64 1 [.ag (aa_.p .v)] [.tmp 2] [] [(17,od84)] [(1,od85)] fun n (a0,_)=>aP_ n (aa_.of a0)
def dU_.e:FE:=mkE sy_ 32 13 1 [.ag (aa_.p .v)] [.tmp 2] [] [] [] fun n (a0,_)=>dU_ n (aa_.of a0)
def od86:OD:=⟨[(0,.view .iOp),(3,.box [.k,.k,.k,.own .s .iJson,.k]),(4,.k)],[.sl .v .iOp,.pb 1 0,.i .i64],[.ext,.box [.i .i64,.i .i64,.s,.rt 2,.nils],.arr .s .iJson 2]⟩
def od87:OD:=⟨[(3,.box [.k,.k,.k,.own .s .iJson,.k])],[.pb 1 0],[.ext,.box [.i .i64,.i .i64,.s,.rt 2,.nils],.arr .s .iJson 2]⟩
def a4_.e:FE:=mkE rd7 12 34 1 [.sl .v .iOp] [.tmp 2] [] [(4,od86)] [(0,od87)] (un1 a4_)
def d6_.e:FE:=mkE rd0 10 27 1 [.ag (aJ_.p .v),.ag (aJ_.p .v)] [.tmp 4] [] [] [] fun n (a0,a1,_)=>d6_ n (aJ_.of a0) (aJ_.of a1)
def rd29:RD:=⟨bS_ × c0_ × Bool,[.ag (bS_.p .d),.ag [.i .i64,.i .i64,.i .i64,.i .i64,.i .i64,.s,.sl .v .iJson,.sl .v .str,.sl .d .iOp],.b],fun (a0,a1,a2,_)=>((bS_.of a0),(c0_.of a1),a2),fun (a0,a1,a2)=>(bS_.to a0,c0_.to a1,a2,())⟩
def c9_.e:FE:=mkE rd29 19 49 1 [.ag (bS_.p .v)] [.cell 2 49,.cell 3 52,.tmp 4] [] [] [] fun n (a0,_)=>c9_ n (bS_.of a0)
def rd30:RD:=⟨TMut × al_,[.ag (TMut.p .d),.bx (al_.p .v)],fun (a0,a1,_)=>((TMut.of a0),(al_.of a1)),fun (a0,a1)=>(TMut.to a0,al_.to a1,())⟩
def do_.e:FE:=mkE rd30 132 102 2 [.bx (al_.p .v),.ag (ar_.p .v)] [.cell 4 164] [.pb 1 0] [] [] fun n (a0,a1,_)=>do_ n (al_.of a0) (ar_.of a1)
def eY_.e:FE:=mkE rd0 182 43 1 [.ag [.sl .v .int],.ag (TMut.p .v)] [.tmp 4] [] [] [] fun n (a0,a1,_)=>eY_ n (aI_.of a0) (TMut.of a1)
def od88:OD:=⟨[(1,.box [.view .int,.k,.view .s_iRow]),(2,.box [.k,.k,.k]),(3,.box [.own .d .int,.k,.own .d .s_iRow]),(4,.k)],[.pb 1 0,.pb 2 0,.pb 3 0,.i .i64],[.ext,.box (ar_.p .v),.box [.nils,.i .i64,.nils],.box [.rt 4,.i .i64,.rt 5],.arr .d .int 2,.arr .d .s_iRow 2]⟩
def od89:OD:=⟨[(2,.box [.k,.k,.k]),(3,.box [.own .d .int,.k,.own .d .s_iRow])],[.pb 1 0,.pb 2 0],[.ext,.box [.nils,.i .i64,.nils],.box [.rt 3,.i .i64,.rt 4],.arr .d .int 2,.arr .d .s_iRow 2]⟩
def rd31:RD:=⟨ar_,[.ag (ar_.p .d)],fun (a0,_)=>(ar_.of a0),fun r=>(ar_.to r,())⟩
def bo_.e:FE:=mkE rd31 130 30 1 [.ag (ar_.p .v)] [.cell 2 88] [] [(4,od88)] [(0,od89)] fun n (a0,_)=>bo_ n (ar_.of a0)
def rd32:RD:=⟨ar_ × aS_ × Bool,[.ag [.sl .d .int,.i .i64,.sl .s .s_iRow],.ag (aS_.p .d),.b],fun (a0,a1,a2,_)=>((ar_.of a0),(aS_.of a1),a2),fun (a0,a1,a2)=>(ar_.to a0,aS_.to a1,a2,())⟩
def fw_.e:FE:=mkE rd32 183 82 3 [.ag [.sl .d .int,.i .i64,.sl .s .s_iRow],.ag (TMut.p .v)] [.cell 4 88,.cell 5 160,.tmp 6] [] [] [] fun n (a0,a1,_)=>fw_ n (ar_.of a0) (TMut.of a1)
def eH_.e:FE:=mkE rd32 131 38 1 [.ag (ar_.p .v),.ag (TMut.p .v)] [.cell 4 88,.cell 5 160,.tmp 6] [] [] [] fun n (a0,a1,_)=>eH_ n (ar_.of a0) (TMut.of a1)
def od90:OD:=⟨[(0,.box [.view .u8,.k,.k]),(5,.box [.view .int,.k,.view .s_iRow]),(6,.own .s .iMut),(7,.k)],[.pb 1 0,.pb 2 0,.rt 3,.i .i64],[.ext,.box (al_.p .v),.box (ar_.p .v),.arr .s .iMut 2]⟩
def od91:OD:=⟨[(0,.box [.view .u8,.k,.k]),(5,.box [.view .int,.k,.view .s_iRow]),(6,.own .s .iMut),(7,.k),(8,.box [.k,.k,.k,.view .int])],[.pb 1 0,.pb 2 0,.rt 3,.i .i64,.pb 4 0],[.ext,.box (al_.p .v),.box (ar_.p .v),.arr .s .iMut 2,.box (TMut.p .v)]⟩
def od92:OD:=⟨[(6,.own .s .iMut)],[.rt 2],[.ext,.box (al_.p .v),.arr .s .iMut 2]⟩
def rd33:RD:=⟨(List TMut) × al_,[.sl .s .iMut,.bx (al_.p .v)],fun (a0,a1,_)=>(a0,(al_.of a1)),fun (a0,a1)=>(a0,al_.to a1,())⟩
def aC_.e:FE:=⟨_,⟨69,43,2,[.bx (al_.p .v),.ag (ar_.p .v)],rd33.rp,rd33.toR,rd33.ofR,[.ptr [.v,.v,.v],.ag [.v,.v,.v]],[.o,.ptr [.v,.v,.v]],[.own .s .iMut,.box [.view .u8,.k,.k]],[.tmp 4],[.pb 1 0],[(9,od91),(5,od90)],[(9,od90)],[(0,od92)]⟩,fun _=>true,fun n (a0,a1,_)=>aC_ n (al_.of a0) (ar_.of a1)⟩
def od93:OD:=⟨[(1,.view .iMut),(2,.box [.view .int,.k,.view .s_iRow]),(4,.box [.k,.k,.k]),(7,.own .d .iChange),(8,.box [.own .d .int,.k,.own .s .s_iRow]),(9,.own .d .iChange),(10,.k)],[.sl .v .iMut,.pb 1 0,.pb 2 0,.rt 3,.pb 4 0,.rt 5,.i .i64],[.ext,.box (ar_.p .v),.box [.nils,.i .i64,.nils],.arr .d .iChange 2,.box [.rt 6,.i .i64,.rt 7],.arr .d .iChange 2,.arr .d .int 2,.arr .s .s_iRow 2]⟩
def od94:OD:=⟨[(2,.box [.view .int,.k,.view .s_iRow]),(4,.box [.k,.k,.k]),(8,.box [.own .d .int,.k,.own .s .s_iRow]),(9,.own .d .iChange)],[.pb 1 0,.pb 2 0,.pb 3 0,.rt 4],[.ext,.box (ar_.p .v),.box [.nils,.i .i64,.nils],.box [.rt 5,.i .i64,.rt 6],.arr .d .iChange 2,.arr .d .int 2,.arr .s .s_iRow 2]⟩
def rd34:RD:=⟨ar_ × (List aS_) × Bool,[.ag [.sl .d .int,.i .i64,.sl .s .s_iRow],.sl .d .iChange,.b],fun (a0,a1,a2,_)=>((ar_.of a0),a1,a2),fun (a0,a1,a2)=>(ar_.to a0,a1,a2,())⟩
def bt_.e:FE:=mkE rd34 68 67 1 [.ag (ar_.p .v),.sl .v .iMut] [.cell 4 88,.tmp 5,.tmp 6] [] [(12,od93)] [(0,od94)] fun n (a0,a1,_)=>bt_ n (ar_.of a0) a1
def rd35:RD:=⟨aJ_,[.ag [.i .i64,.sl .d .iCond,.i .i64,.b,.i .i64,.sl .d .int,.b,.i .i64,.i .i64,.sl .s .iRow,.sl .d .iKid]],fun (a0,_)=>(aJ_.of a0),fun r=>(aJ_.to r,())⟩
def c8_.e:FE:=mkE rd35 133 76 1 [.ag (aJ_.p .v),.ag (aS_.p .v)] [.cell 4 31] [] [] [] fun n (a0,a1,_)=>c8_ n (aJ_.of a0) (aS_.of a1)
def od95:OD:=⟨[(1,.view .iChange),(4,.box [.k,.k,.k,.k,.k,.k,.k,.k,.k,.k,.k]),(5,.box [.k,.own .d .iCond,.k,.k,.k,.own .d .int,.k,.k,.k,.own .s .iRow,.own .d .iKid]),(6,.k)],[.sl .v .iChange,.pb 1 0,.pb 2 0,.i .i64],[.ext,.box [.i .i64,.nils,.i .i64,.b,.i .i64,.nils,.b,.i .i64,.i .i64,.nils,.nils],.box [.i .i64,.rt 3,.i .i64,.b,.i .i64,.rt 4,.b,.i .i64,.i .i64,.rt 5,.rt 6],.arr .d .iCond 2,.arr .d .int 2,.arr .s .iRow 2,.arr .d .iKid 2]⟩
def od96:OD:=⟨[(4,.box [.k,.k,.k,.k,.k,.k,.k,.k,.k,.k,.k]),(5,.box [.k,.own .d .iCond,.k,.k,.k,.own .d .int,.k,.k,.k,.own .s .iRow,.own .d .iKid])],[.pb 1 0,.pb 2 0],[.ext,.box [.i .i64,.nils,.i .i64,.b,.i .i64,.nils,.b,.i .i64,.i .i64,.nils,.nils],.box [.i .i64,.rt 3,.i .i64,.b,.i .i64,.rt 4,.b,.i .i64,.i .i64,.rt 5,.rt 6],.arr .d .iCond 2,.arr .d .int 2,.arr .s .iRow 2,.arr .d .iKid 2]⟩
def aT_.e:FE:=mkE rd35 70 22 1 [.ag (aJ_.p .v),.sl .v .iChange] [.cell 4 31] [] [(4,od95)] [(0,od96)] fun n (a0,a1,_)=>aT_ n (aJ_.of a0) a1
def rd36:RD:=⟨bS_,[.ag [.i .i64,.sl .d .iCond,.i .i64,.b,.i .i64,.sl .d .int,.b,.i .i64,.i .i64,.sl .s .iRow,.sl .d .iKid,.i .i64,.i .i64,.sl .d .iCond,.i .i64,.b,.i .i64,.sl .d .int,.b,.i .i64,.i .i64,.sl .d .iRow,.sl .d .iKid,.i .i64,.b]],fun (a0,_)=>(bS_.of a0),fun r=>(bS_.to r,())⟩
def dT_.e:FE:=mkE rd36 163 18 1 [.ag (bS_.p .v),.sl .v .iChange] [.cell 4 49] [] [] [] fun n (a0,a1,_)=>dT_ n (bS_.of a0) a1
def od97:OD:=⟨[(0,.box [.view .u8,.k,.k]),(2,.box [.k,.k,.k]),(3,.box [.k,.k,.k,.k,.k,.k,.k,.k,.k,.k,.k,.k,.k,.k,.k,.k,.k,.k,.k,.k,.k,.k,.k,.k,.k]),(4,.box [.view .int,.k,.view .s_iRow])],[.pb 1 0,.pb 2 0,.pb 3 0,.pb 4 0],[.ext,.box (al_.p .v),.box [.nils,.i .i64,.nils],.box [.i .i64,.nils,.i .i64,.b,.i .i64,.nils,.b,.i .i64,.i .i64,.nils,.nils,.i .i64,.i .i64,.nils,.i .i64,.b,.i .i64,.nils,.b,.i .i64,.i .i64,.nils,.nils,.i .i64,.b],.box (ar_.p .v)]⟩
def od98:OD:=⟨[(0,.box [.view .u8,.k,.k]),(2,.box [.k,.k,.k]),(3,.box [.k,.k,.k,.k,.k,.k,.k,.k,.k,.k,.k,.k,.k,.k,.k,.k,.k,.k,.k,.k,.k,.k,.k,.k,.k]),(4,.box [.view .int,.k,.view .s_iRow]),(5,.box [.k,.view .iCond,.k,.k,.k,.view .int,.k,.k,.k,.view .iRow,.view .iKid,.k,.k,.view .iCond,.k,.k,.k,.view .int,.k,.k,.k,.view .iRow,.view .iKid,.k,.k]),(7,.k)],[.pb 1 0,.pb 2 0,.pb 3 0,.pb 4 0,.pb 5 0,.i .i64],[.ext,.box (al_.p .v),.box [.nils,.i .i64,.nils],.box [.i .i64,.nils,.i .i64,.b,.i .i64,.nils,.b,.i .i64,.i .i64,.nils,.nils,.i .i64,.i .i64,.nils,.i .i64,.b,.i .i64,.nils,.b,.i .i64,.i .i64,.nils,.nils,.i .i64,.b],.box (ar_.p .v),.box (bS_.p .v)]⟩
def od99:OD:=⟨[(0,.box [.view .u8,.k,.k]),(2,.box [.k,.k,.k]),(3,.box [.k,.k,.k,.k,.k,.k,.k,.k,.k,.k,.k,.k,.k,.k,.k,.k,.k,.k,.k,.k,.k,.k,.k,.k,.k]),(4,.box [.view .int,.k,.view .s_iRow]),(5,.box [.k,.view .iCond,.k,.k,.k,.view .int,.k,.k,.k,.view .iRow,.view .iKid,.k,.k,.view .iCond,.k,.k,.k,.view .int,.k,.k,.k,.view .iRow,.view .iKid,.k,.k]),(7,.k),(29,.k)],[.pb 1 0,.pb 2 0,.pb 3 0,.pb 4 0,.pb 5 0,.i .i64,.b],[.ext,.box (al_.p .v),.box [.nils,.i .i64,.nils],.box [.i .i64,.nils,.i .i64,.b,.i .i64,.nils,.b,.i .i64,.i .i64,.nils,.nils,.i .i64,.i .i64,.nils,.i .i64,.b,.i .i64,.nils,.b,.i .i64,.i .i64,.nils,.nils,.i .i64,.b],.box (ar_.p .v),.box (bS_.p .v)]⟩
def od100:OD:=⟨[(2,.box [.k,.k,.k]),(3,.box [.k,.k,.k,.k,.k,.k,.k,.k,.k,.k,.k,.k,.k,.k,.k,.k,.k,.k,.k,.k,.k,.k,.k,.k,.k]),(4,.box [.view .int,.k,.view .s_iRow]),(5,.box [.k,.view .iCond,.k,.k,.k,.view .int,.k,.k,.k,.view .iRow,.view .iKid,.k,.k,.view .iCond,.k,.k,.k,.view .int,.k,.k,.k,.view .iRow,.view .iKid,.k,.k])],[.pb 2 0,.pb 3 0,.pb 4 0,.pb 5 0],[.ext,.box (al_.p .v),.box [.nils,.i .i64,.nils],.box [.i .i64,.nils,.i .i64,.b,.i .i64,.nils,.b,.i .i64,.i .i64,.nils,.nils,.i .i64,.i .i64,.nils,.i .i64,.b,.i .i64,.nils,.b,.i .i64,.i .i64,.nils,.nils,.i .i64,.b],.box (ar_.p .v),.box (bS_.p .v)]⟩
def rd37:RD:=⟨ar_ × bS_ × al_,[.ag (ar_.p .v),.ag (bS_.p .v),.bx (al_.p .v)],fun (a0,a1,a2,_)=>((ar_.of a0),(bS_.of a1),(al_.of a2)),fun (a0,a1,a2)=>(ar_.to a0,bS_.to a1,al_.to a2,())⟩
def au_.e:FE:=⟨_,⟨113,52,2,[.bx (al_.p .v)],rd37.rp,rd37.toR,rd37.ofR,[.ptr [.v,.v,.v]],[.ag [.v,.v,.v],.ag [.v,.v,.v,.v,.v,.v,.v,.v,.v,.v,.v,.v,.v,.v,.v,.v,.v,.v,.v,.v,.v,.v,.v,.v,.v],.ptr [.v,.v,.v]],[.ag [.view .int,.k,.view .s_iRow],.ag [.k,.view .iCond,.k,.k,.k,.view .int,.k,.k,.k,.view .iRow,.view .iKid,.k,.k,.view .iCond,.k,.k,.k,.view .int,.k,.k,.k,.view .iRow,.view .iKid,.k,.k],.box [.view .u8,.k,.k]],[.cell 2 88,.cell 3 49],[.pb 1 0],[(10,od99),(5,od98),(1,od97)],[(10,od98)],[(0,od100)]⟩,fun _=>true,fun n (a0,_)=>au_ n (al_.of a0)⟩
def od101:OD:=⟨[(0,.box [.view .u8,.k,.k]),(2,.box [.k,.k,.k]),(3,.box [.k,.k,.k,.k,.k,.k,.k,.k,.k,.k,.k]),(4,.box [.view .int,.k,.view .s_iRow])],[.pb 1 0,.pb 2 0,.pb 3 0,.pb 4 0],[.ext,.box (al_.p .v),.box [.nils,.i .i64,.nils],.box [.i .i64,.nils,.i .i64,.b,.i .i64,.nils,.b,.i .i64,.i .i64,.nils,.nils],.box (ar_.p .v)]⟩
def rd38:RD:=⟨ar_ × aJ_ × al_,[.ag (ar_.p .v),.ag [.i .i64,.sl .d .iCond,.i .i64,.b,.i .i64,.sl .d .int,.b,.i .i64,.i .i64,.sl .s .iRow,.sl .d .iKid],.bx (al_.p .v)],fun (a0,a1,a2,_)=>((ar_.of a0),(aJ_.of a1),(al_.of a2)),fun (a0,a1,a2)=>(ar_.to a0,aJ_.to a1,al_.to a2,())⟩
def bW_.e:FE:=mkE rd38 67 20 2 [.bx (al_.p .v)] [.cell 2 88,.cell 3 31] [.pb 1 0] [(1,od101)] [] fun n (a0,_)=>bW_ n (al_.of a0)
def d5_.e:FE:=mkE rd37 53 41 2 [.bx (al_.p .v)] [.cell 2 88,.cell 3 49] [.pb 1 0] [] [] fun n (a0,_)=>d5_ n (al_.of a0)
def rd39:RD:=⟨bS_,[.ag (bS_.p .v)],fun (a0,_)=>(bS_.of a0),fun r=>(bS_.to r,())⟩
def cO_.e:FE:=mkE rd39 17 12 1 [.sl .v .u8] [.cell 2 49] [] [] [] (un1 cO_)
def du_.e:FE:=mkE rd21 164 6 1 [.sl .v .int] [.tmp 2] [] [] [] (un1 du_)
def dt_.e:FE:=mkE rd15 115 13 1 [.ag (ap_.p .v)] [.cell 2 27] [] [] [] fun n (a0,_)=>dt_ n (ap_.of a0)
def eb_.e:FE:=mkE rd8 165 9 1 [.ag (TRow.p .v)] [.cell 2 75] [] [] [] fun n (a0,_)=>eb_ n (TRow.of a0)
def od102:OD:=⟨[(3,.own .d .iRow),(7,.view .iRow),(8,.k),(9,.k)],[.rt 1,.sl .v .iRow,.i .i64,.i .i64],[.ext,.arr .d .iRow 2]⟩
def be_.e:FE:=mkE rd9 116 20 1 [.sl .v .iRow] [.tmp 2] [] [(4,od102)] [(0,od39)] (un1 be_)
def cP_.e:FE:=mkE rd19 55 14 1 [.ag (aJ_.p .v)] [.cell 2 31] [] [] [] fun n (a0,_)=>cP_ n (aJ_.of a0)
def dF_.e:FE:=mkE rd20 54 12 1 [.ag (bS_.p .v)] [.cell 2 49] [] [] [] fun n (a0,_)=>dF_ n (bS_.of a0)
def od103:OD:=⟨[(1,.k),(8,.view .iKid),(9,.k),(10,.k)],[.i .i64,.sl .v .iKid,.i .i64,.i .i64],[.ext]⟩
def b3_.e:FE:=mkE rd7 112 21 1 [.ag (aJ_.p .v),.i .i64] [.tmp 4] [] [(3,od103)] [(0,od9)] fun n (a0,a1,_)=>b3_ n (aJ_.of a0) a1
def od104:OD:=⟨[(1,.box [.k,.view .iCond,.k,.k,.k,.view .int,.k,.k,.k,.view .iRow,.view .iKid]),(3,.own .d .int),(8,.view .iRow),(9,.k),(10,.k)],[.pb 1 0,.rt 2,.sl .v .iRow,.i .i64,.i .i64],[.ext,.box (aJ_.p .v),.arr .d .int 2]⟩
def aW_.e:FE:=mkE rd21 52 23 1 [.ag (aJ_.p .v)] [.tmp 2] [] [(4,od104)] [(0,od42)] fun n (a0,_)=>aW_ n (aJ_.of a0)
def ea_.e:FE:=mkE rd7 135 14 1 [.ag (ap_.p .v),.i .i64] [.tmp 4] [] [] [] fun n (a0,a1,_)=>ea_ n (ap_.of a0) a1
def od105:OD:=⟨[(0,.view .int),(1,.k),(7,.k),(8,.k)],[.sl .v .int,.i .i64,.i .i64,.i .i64],[.ext]⟩
def a2_.e:FE:=mkE rd7 191 19 1 [.sl .v .int,.i .i64] [.tmp 4] [] [(3,od105)] [(0,od9)] (un2 a2_)
def ch_.e:FE:=mkE rd0 137 9 1 [.sl .v .int,.i .i64] [.tmp 4] [] [] [] (un2 ch_)
def strconv_Itoa.e:FE:=mkE sy_ 108 5 1 [.i .i64] [.tmp 2] [] [] [] (un1 strconv_Itoa)
def es_.e:FE:=mkE sy_ 189 5 1 [.i .i64] [.tmp 2] [] [] [] (un1 es_)
def aL_.e:FE:=mkE rd0 48 15 1 (br_.p .v) [.tmp 6] [] [] [] (un3 aL_)
def eu_.e:FE:=mkE rd7 103 17 1 [.ag (TRow.p .v),.i .i64] [.tmp 4] [] [] [] fun n (a0,a1,_)=>eu_ n (TRow.of a0) a1
def cC_.e:FE:=mkE rd0 234 6 1 [.s] [.tmp 2] [] [] [] (un1 cC_)
def cX_.e:FE:=mkE rd0 219 17 1 [.s,.s] [.tmp 4] [] [] [] (un2 cX_)
def cg_.e:FE:=mkE rd0 220 6 1 [.s] [.tmp 2] [] [] [] (un1 cg_)
def od106:OD:=⟨[(0,.view .str),(1,.k),(6,.k),(7,.k),(8,.k)],[.sl .v .str,.s,.i .i64,.i .i64,.i .i64],[.ext]⟩
def od107:OD:=⟨[(0,.view .str),(1,.k),(6,.k),(7,.k)],[.sl .v .str,.s,.i .i64,.i .i64],[.ext]⟩
def rd40:RD:=⟨Int × Bool,[.i .i64,.b],fun (a0,a1,_)=>(a0,a1),fun (a0,a1)=>(a0,a1,())⟩
def am_.e:FE:=mkE rd40 199 54 1 [.sl .v .str,.s] [.tmp 4,.tmp 5] [] [(4,od106)] [(0,od107)] (un2 am_)
def b5_.e:FE:=mkE rd28 200 95 1 [.sl .d .str,.i .i64,.sl .d .str] [.tmp 6] [] [] [] (un3 b5_)
def rd41:RD:=⟨(List aa_),[.sl .d .iJson],fun (a0,_)=>a0,fun r=>(r,())⟩
def b0_.e:FE:=mkE rd41 201 95 1 [.sl .d .iJson,.i .i64,.sl .d .iJson] [.tmp 6] [] [] [] (un3 b0_)
def od108:OD:=⟨[(1,.view .int),(4,.box [.k,.k,.k,.k,.k]),(5,.box [.k,.k,.k,.own .d .iJson,.own .d .str]),(11,.view .str),(12,.k),(13,.k)],[.sl .v .int,.pb 1 0,.pb 2 0,.sl .v .str,.i .i64,.i .i64],[.ext,.box [.i .i64,.i .i64,.s,.nils,.nils],.box [.i .i64,.i .i64,.s,.rt 3,.rt 4],.arr .d .iJson 2,.arr .d .str 2]⟩
def od109:OD:=⟨[(4,.box [.k,.k,.k,.k,.k]),(5,.box [.k,.k,.k,.own .d .iJson,.own .d .str])],[.pb 1 0,.pb 2 0],[.ext,.box [.i .i64,.i .i64,.s,.nils,.nils],.box [.i .i64,.i .i64,.s,.rt 3,.rt 4],.arr .d .iJson 2,.arr .d .str 2]⟩
def bT_.e:FE:=mkE tn_ 190 45 1 [.sl .v .str,.sl .v .int] [.cell 4 46] [] [(4,od108)] [(0,od109)] (un2 bT_)
def bd_.e:FE:=mkE rd0 100 5 1 [.i .i64] [.tmp 2] [] [] [] (un1 bd_)
def od110:OD:=⟨[(0,.k),(5,.k),(6,.k)],[.s,.i .i64,.i .i64],[.ext]⟩
def aA_.e:FE:=mkE rd0 167 19 1 [.s] [.tmp 2] [] [(3,od110)] [(0,od50)] (un1 aA_)
def od111:OD:=⟨[(0,.view .str),(5,.view .str),(6,.k),(7,.k)],[.sl .v .str,.sl .v .str,.i .i64,.i .i64],[.ext]⟩
def aw_.e:FE:=mkE rd0 195 29 1 [.sl .v .str] [.tmp 2] [] [(3,od111)] [(0,od9)] (un1 aw_)
def e2_.e:FE:=mkE rd0 156 90 1 [.ag (aa_.p .v)] [.tmp 2] [] [] [] fun n (a0,_)=>e2_ n (aa_.of a0)
def od112:OD:=⟨[(1,.k),(5,.k),(16,.view .iJson),(17,.k),(18,.k)],[.i .i64,.i .i64,.sl .v .iJson,.i .i64,.i .i64],[.ext]⟩
def od113:OD:=⟨[(5,.k)],[.i .i64],[.ext]⟩
def bz_.e:FE:=mkE rd7 106 32 1 [.ag (aa_.p .v),.i .i64] [.tmp 4] [] [(7,od112)] [(0,od113)] fun n (a0,a1,_)=>bz_ n (aa_.of a0) a1
def cD_.e:FE:=mkE rd0 49 6 1 [.ag (aa_.p .v)] [.tmp 2] [] [] [] fun n (a0,_)=>cD_ n (aa_.of a0)
def cT_.e:FE:=mkE tn_ 72 8 3 [.ag (aa_.p .d)] [.cell 2 46] [] [] [] fun n (a0,_)=>cT_ n (aa_.of a0)
def od114:OD:=⟨[(2,.k),(3,.box [.k,.view .iCond,.k,.k,.k,.view .int,.k,.k,.k]),(4,.box [.k,.view .int]),(6,.box [.k,.k,.k,.k,.k]),(7,.own .d .str),(8,.own .d .int),(16,.view .int),(17,.k),(18,.k)],[.i .i64,.pb 1 0,.pb 2 0,.pb 3 0,.rt 4,.rt 5,.sl .v .int,.i .i64,.i .i64],[.ext,.box (ap_.p .v),.box (TRow.p .v),.box [.i .i64,.i .i64,.s,.nils,.nils],.arr .d .str 2,.arr .d .int 2]⟩
def od115:OD:=⟨[(2,.k),(3,.box [.k,.view .iCond,.k,.k,.k,.view .int,.k,.k,.k]),(6,.box [.k,.k,.k,.k,.k]),(7,.own .d .str),(8,.own .d .int)],[.i .i64,.pb 1 0,.pb 2 0,.rt 3,.rt 4],[.ext,.box (ap_.p .v),.box [.i .i64,.i .i64,.s,.nils,.nils],.arr .d .str 2,.arr .d .int 2]⟩
def bJ_.e:FE:=mkE tn_ 136 55 1 [.ag (ap_.p .v),.ag (TRow.p .v),.i .i64] [.cell 6 46] [] [(4,od114)] [(0,od115)] fun n (a0,a1,a2,_)=>bJ_ n (ap_.of a0) (TRow.of a1) a2
def od116:OD:=⟨[(2,.view .int),(3,.box [.k,.view .iCond,.k,.k,.k,.view .int,.k,.k,.k]),(7,.own .d .iJson),(17,.view .iRow),(18,.k),(19,.k)],[.sl .v .int,.pb 1 0,.rt 2,.sl .v .iRow,.i .i64,.i .i64],[.ext,.box (ap_.p .v),.arr .d .iJson 2]⟩
def od117:OD:=⟨[(7,.own .d .iJson)],[.rt 1],[.ext,.arr .d .iJson 2]⟩
def bm_.e:FE:=mkE rd41 73 41 1 [.ag (ap_.p .v),.sl .v .iRow,.sl .v .int] [.tmp 6] [] [(4,od116)] [(0,od117)] fun n (a0,a1,a2,_)=>bm_ n (ap_.of a0) a1 a2
def dH_.e:FE:=mkE rd0 111 6 1 [.ag (aa_.p .v)] [.tmp 2] [] [] [] fun n (a0,_)=>dH_ n (aa_.of a0)
def od118:OD:=⟨[(0,.view .iJson),(1,.k),(7,.k),(8,.k)],[.sl .v .iJson,.clo 111 [],.i .i64,.i .i64],[.ext]⟩
def ag_.e:FE:=mkE rd7 161 19 1 [.sl .v .iJson,.clo 111 []] [.tmp 4] [] [(3,od118)] [(0,od9)] fun n (a0,_,_)=>ag_ n a0
def a5_.e:FE:=mkE rd0 110 9 1 [.sl .v .iJson,.clo 111 []] [.tmp 4] [] [] [] fun n (a0,_,_)=>a5_ n a0
def e5_.e:FE:=mkE tn_ 51 26 1 [.ag (ap_.p .v),.sl .v .iRow,.sl .v .int] [.cell 6 46] [] [] [] fun n (a0,a1,a2,_)=>e5_ n (ap_.of a0) a1 a2
def cL_.e:FE:=mkE tn_ 16 10 1 [.ag (aJ_.p .v)] [.cell 2 46] [] [] [] fun n (a0,_)=>cL_ n (aJ_.of a0)
def od119:OD:=⟨[(0,.view .str),(1,.view .str),(12,.k),(13,.k)],[.sl .v .str,.sl .v .str,.i .i64,.i .i64],[.ext]⟩
def aH_.e:FE:=mkE rd0 120 26 1 [.sl .v .str,.sl .v .str] [.tmp 4] [] [(6,od119)] [(0,od9)] (un2 aH_)
def od120:OD:=⟨[(1,.view .iJson),(2,.k),(15,.view .iJson),(16,.k),(17,.k)],[.sl .v .iJson,.clo 62 [],.sl .v .iJson,.i .i64,.i .i64],[.ext]⟩
def aj_.e:FE:=mkE rd0 121 32 1 [.sl .v .iJson,.sl .v .iJson,.clo 62 []] [.tmp 6] [] [(6,od120)] [(0,od9)] fun n (a0,a1,_,_)=>aj_ n a0 a1
def dm_.e:FE:=mkE rd0 62 38 1 [.ag (aa_.p .v),.ag (aa_.p .v)] [.tmp 4] [] [] [] fun n (a0,a1,_)=>dm_ n (aa_.of a0) (aa_.of a1)
def da_.e:FE:=mkE rd0 23 16 1 [.ag (aa_.p .v),.ag (aa_.p .v)] [.tmp 4] [] [] [] fun n (a0,a1,_)=>da_ n (aa_.of a0) (aa_.of a1)
def df_.e:FE:=mkE rd0 20 16 1 [.ag (bS_.p .v)] [.tmp 2] [] [] [] fun n (a0,_)=>df_ n (bS_.of a0)
def od121:OD:=⟨[(0,.view .iCond),(1,.view .iCond),(12,.k),(13,.k)],[.sl .v .iCond,.sl .v .iCond,.i .i64,.i .i64],[.ext]⟩
def aV_.e:FE:=mkE rd0 65 26 1 [.sl .v .iCond,.sl .v .iCond] [.tmp 4] [] [(6,od121)] [(0,od9)] (un2 aV_)
def od122:OD:=⟨[(0,.view .int),(1,.view .int),(12,.k),(13,.k)],[.sl .v .int,.sl .v .int,.i .i64,.i .i64],[.ext]⟩
def aY_.e:FE:=mkE rd0 66 26 1 [.sl .v .int,.sl .v .int] [.tmp 4] [] [(6,od122)] [(0,od9)] (un2 aY_)
def cU_.e:FE:=mkE rd0 25 70 1 [.ag (ap_.p .v),.ag (ap_.p .v)] [.tmp 4] [] [] [] fun n (a0,a1,_)=>cU_ n (ap_.of a0) (ap_.of a1)
def e4_.e:FE:=mkE tn_ 27 6 1 [.i .i64] [.cell 2 46] [] [] [] (un1 e4_)
def od123:OD:=⟨[(4,.own .d .iJson),(5,.own .d .int),(20,.view .iRow),(21,.k),(22,.k)],[.rt 1,.rt 2,.sl .v .iRow,.i .i64,.i .i64],[.ext,.arr .d .iJson 2,.arr .d .int 2]⟩
def od124:OD:=⟨[(4,.own .d .iJson),(5,.own .d .int)],[.rt 1,.rt 2],[.ext,.arr .d .iJson 2,.arr .d .int 2]⟩
def rd42:RD:=⟨(List aa_) × (List Int),[.sl .d .iJson,.sl .d .int],fun (a0,a1,_)=>(a0,a1),fun (a0,a1)=>(a0,a1,())⟩
def bX_.e:FE:=mkE rd42 28 34 1 [.ag (aJ_.p .v)] [.tmp 2,.tmp 3] [] [(5,od123)] [(0,od124)] fun n (a0,_)=>bX_ n (aJ_.of a0)
def od125:OD:=⟨[(1,.view .int),(6,.own .s .ikeyed),(15,.view .iJson),(16,.k),(17,.k)],[.sl .v .int,.rt 1,.sl .v .iJson,.i .i64,.i .i64],[.ext,.arr .s .ikeyed 2]⟩
def od126:OD:=⟨[(6,.own .s .ikeyed)],[.rt 1],[.ext,.arr .s .ikeyed 2]⟩
def rd43:RD:=⟨(List ao_) × Bool,[.sl .s .ikeyed,.b],fun (a0,a1,_)=>(a0,a1),fun (a0,a1)=>(a0,a1,())⟩
def bu_.e:FE:=mkE rd43 75 46 1 [.sl .v .iJson,.sl .v .int] [.tmp 4,.tmp 5] [] [(7,od125)] [(0,od126)] (un2 bu_)
def dE_.e:FE:=mkE rd0 139 8 1 [.ag (ao_.p .v),.pc [.i .i64] 0] [.tmp 3] [] [] [] fun n (a0,(a1,_),_)=>dE_ n (ao_.of a0) a1
def od127:OD:=⟨[(0,.view .ikeyed),(1,.k),(7,.k),(8,.k)],[.sl .v .ikeyed,.clo 139 [.pc [.i .i64] 0],.i .i64,.i .i64],[.ext]⟩
def af_.e:FE:=mkE rd7 138 19 1 [.sl .v .ikeyed,.clo 139 [.pc [.i .i64] 0]] [.tmp 4] [] [(3,od127)] [(0,od9)] fun n (a0,((a1,_),_),_)=>af_ n a0 a1
def eJ_.e:FE:=mkE rd7 76 8 1 [.sl .v .ikeyed,.i .i64] [.tmp 4] [] [] [] (un2 eJ_)
def dS_.e:FE:=mkE rd28 77 6 1 [.i .i64] [.tmp 2] [] [] [] (un1 dS_)
def rd44:RD:=⟨(List ao_),[.sl .s .ikeyed],fun (a0,_)=>a0,fun r=>(r,())⟩
def b7_.e:FE:=mkE rd44 78 33 1 [.sl .s .ikeyed,.i .i64,.i .i64] [.tmp 6] [] [] [] (un3 b7_)
def cN_.e:FE:=mkE rd28 122 6 1 [.sl .v .str] [.tmp 2] [] [] [] (un1 cN_)
def od128:OD:=⟨[(2,.box [.k,.k,.k,.k,.k]),(3,.box [.k,.k,.k,.own .d .iJson,.own .d .str]),(17,.view .iJson),(18,.k),(19,.k)],[.pb 1 0,.pb 2 0,.sl .v .iJson,.i .i64,.i .i64],[.ext,.box [.i .i64,.i .i64,.s,.nils,.nils],.box [.i .i64,.i .i64,.s,.rt 3,.rt 4],.arr .d .iJson 2,.arr .d .str 2]⟩
def aM_.e:FE:=mkE tn_ 63 32 1 [.ag (aa_.p .v)] [.cell 2 46] [] [(4,od128)] [(0,od71)] fun n (a0,_)=>aM_ n (aa_.of a0)
def b6_.e:FE:=mkE rd44 79 95 1 [.sl .s .ikeyed,.i .i64,.sl .s .ikeyed] [.tmp 6] [] [] [] (un3 b6_)
def od129:OD:=⟨[(9,.own .s .ikeyed),(11,.own .s .ikeyed),(13,.own .d .iOp),(14,.k)],[.rt 1,.rt 2,.rt 3,.i .i64],[.ext,.arr .s .ikeyed 2,.arr .s .ikeyed 2,.arr .d .iOp 2]⟩
def od130:OD:=⟨[(9,.own .s .ikeyed),(13,.own .d .iOp),(64,.own .s .ikeyed),(65,.k),(66,.k)],[.rt 1,.rt 2,.rt 3,.i .i64,.i .i64],[.ext,.arr .s .ikeyed 2,.arr .d .iOp 2,.arr .s .ikeyed 2]⟩
def od131:OD:=⟨[(9,.own .s .ikeyed),(11,.own .s .ikeyed),(13,.own .d .iOp)],[.rt 1,.rt 2,.rt 3],[.ext,.arr .s .ikeyed 2,.arr .s .ikeyed 2,.arr .d .iOp 2]⟩
def od132:OD:=⟨[(13,.own .d .iOp)],[.rt 1],[.ext,.arr .d .iOp 2]⟩
def a7_.e:FE:=mkE rd27 30 126 1 [.sl .v .iJson,.sl .v .int,.sl .v .iJson,.sl .v .int] [.tmp 8] [] [(9,od129),(17,od130)] [(0,od131),(2,od132)] (un4 a7_)
def rd45:RD:=⟨TOp,[.ag (TOp.p .d)],fun (a0,_)=>(TOp.of a0),fun r=>(TOp.to r,())⟩
def et_.e:FE:=mkE rd45 74 12 1 [.ag (TOp.p .v)] [.cell 2 62] [] [] [] fun n (a0,_)=>et_ n (TOp.of a0)
def od133:OD:=⟨[(0,.k),(5,.own .d .iOp),(9,.view .iOp),(10,.k),(11,.k)],[.s,.rt 1,.sl .v .iOp,.i .i64,.i .i64],[.ext,.arr .d .iOp 2]⟩
def b2_.e:FE:=mkE rd27 29 29 1 [.s,.sl .v .iOp] [.tmp 4] [] [(4,od133)] [(0,od77)] (un2 b2_)
def c6_.e:FE:=mkE rd27 8 52 1 [.ag (aJ_.p .v),.ag (aJ_.p .v)] [.tmp 4] [] [] [] fun n (a0,a1,_)=>c6_ n (aJ_.of a0) (aJ_.of a1)
def eh_.e:FE:=mkE rd0 168 28 1 [.ag (aa_.p .v)] [.tmp 2] [] [] [] fun n (a0,_)=>eh_ n (aa_.of a0)
def od134:OD:=⟨[(1,.box [.k,.view .str,.k,.k,.k,.view .iJson,.view .str]),(6,.view .str),(7,.k),(8,.k)],[.pb 1 0,.sl .v .str,.i .i64,.i .i64],[.ext,.box (TOp.p .v)]⟩
def cm_.e:FE:=mkE rd0 123 40 1 [.ag (TOp.p .v)] [.tmp 2] [] [(3,od134)] [(0,od79)] fun n (a0,_)=>cm_ n (TOp.of a0)
def d9_.e:FE:=mkE rd28 142 2 1 [] [.tmp 0] [] [] [] fun n _=>d9_ n ()
def strings_ReplaceAll.e:FE:=mkE sy_ 193 11 1 [.s,.s,.s] [.tmp 6] [] [] [] (un3 strings_ReplaceAll)
def od135:OD:=⟨[(3,.k),(6,.view .str),(7,.k),(8,.k)],[.s,.sl .v .str,.i .i64,.i .i64],[.ext]⟩
def od136:OD:=⟨[(3,.k)],[.s],[.ext]⟩
def bP_.e:FE:=mkE sy_ 143 20 1 [.sl .v .str] [.tmp 2] [] [(4,od135)] [(0,od136)] (un1 bP_)
def ev_.e:FE:=mkE tn_ 80 41 1 [.ag (TOp.p .v)] [.cell 2 46] [] [] [] fun n (a0,_)=>ev_ n (TOp.of a0)
def od137:OD:=⟨[(2,.box [.k,.k,.k,.k,.k]),(4,.box [.k,.k,.k,.own .d .iJson,.k]),(9,.view .iOp),(10,.k),(11,.k)],[.pb 1 0,.pb 2 0,.sl .v .iOp,.i .i64,.i .i64],[.ext,.box [.i .i64,.i .i64,.s,.nils,.nils],.box [.i .i64,.i .i64,.s,.rt 3,.nils],.arr .d .iJson 2]⟩
def od138:OD:=⟨[(2,.box [.k,.k,.k,.k,.k]),(4,.box [.k,.k,.k,.own .d .iJson,.k])],[.pb 1 0,.pb 2 0],[.ext,.box [.i .i64,.i .i64,.s,.nils,.nils],.box [.i .i64,.i .i64,.s,.rt 3,.nils],.arr .d .iJson 2]⟩
def rd46:RD:=⟨aa_ × Bool,[.ag (aa_.p .d),.b],fun (a0,a1,_)=>((aa_.of a0),a1),fun (a0,a1)=>(aa_.to a0,a1,())⟩
def bn_.e:FE:=mkE rd46 31 29 1 [.sl .v .iOp] [.cell 2 46,.tmp 3] [] [(4,od137)] [(0,od138)] (un1 bn_)
def od139:OD:=⟨[(0,.k),(3,.own .d .u8),(7,.k),(8,.k)],[.s,.rt 1,.i .i64,.i .i64],[.ext,.arr .d .u8 2]⟩
def bN_.e:FE:=mkE sy_ 107 35 1 [.s] [.tmp 2] [] [(4,od139)] [(0,od82)] (un1 bN_)
def strings_Join.e:FE:=mkE sy_ 109 75 1 [.sl .v .str,.s] [.tmp 4] [] [] [] (un2 strings_Join)
def od140:OD:=⟨[(1,.box [.k,.k,.k,.view .iJson,.view .str]),(3,.own .d .str),(9,.view .iJson),(10,.k),(11,.k)],[.pb 1 0,.rt 2,.sl .v .iJson,.i .i64,.i .i64],[.ext,.box (aa_.p .v),.arr .d .str 2]⟩
def od141:OD:=⟨[(1,.box [.k,.k,.k,.view .iJson,.view .str]),(3,.own .d .str)],[.pb 1 0,.rt 2],[.ext,.box (aa_.p .v),.arr .d .str 2]⟩
def a6_.e:FE:=mkE sy_ 50 66 1 [.ag (aa_.p .v)] [.tmp 2] [] [(4,od140)] [(0,od141)] fun n (a0,_)=>a6_ n (aa_.of a0)
def ei_.e:FE:=mkE sy_ 15 13 1 [.ag (aa_.p .v)] [.tmp 2] [] [] [] fun n (a0,_)=>ei_ n (aa_.of a0)
def dw_.e:FE:=mkE rd7 9 21 1 [.sl .v .iOp] [.tmp 2] [] [] [] (un1 dw_)
def ed_.e:FE:=mkE rd0 7 27 1 [.ag (aJ_.p .v),.ag (aJ_.p .v)] [.tmp 4] [] [] [] fun n (a0,a1,_)=>ed_ n (aJ_.of a0) (aJ_.of a1)
def rd47:RD:=⟨bS_ × c0_ × Bool,[.ag (bS_.p .d),.ag (c0_.p .d),.b],fun (a0,a1,a2,_)=>((bS_.of a0),(c0_.of a1),a2),fun (a0,a1,a2)=>(bS_.to a0,c0_.to a1,a2,())⟩
def dG_.e:FE:=mkE rd47 18 49 1 [.ag (bS_.p .v)] [.cell 2 49,.cell 3 52,.tmp 4] [] [] [] fun n (a0,_)=>dG_ n (bS_.of a0)
def ee_.e:FE:=mkE rd0 60 17 1 [.ag (TRow.p .v),.ag (TRow.p .v)] [.tmp 4] [] [] [] fun n (a0,a1,_)=>ee_ n (TRow.of a0) (TRow.of a1)
def od142:OD:=⟨[(1,.view .iRow),(2,.k),(15,.view .iRow),(16,.k),(17,.k)],[.sl .v .iRow,.clo 60 [],.sl .v .iRow,.i .i64,.i .i64],[.ext]⟩
def ah_.e:FE:=mkE rd0 59 32 1 [.sl .v .iRow,.sl .v .iRow,.clo 60 []] [.tmp 6] [] [(6,od142)] [(0,od9)] fun n (a0,a1,_,_)=>ah_ n a0 a1
def od143:OD:=⟨[(0,.view .iKid),(1,.view .iKid),(12,.k),(13,.k)],[.sl .v .iKid,.sl .v .iKid,.i .i64,.i .i64],[.ext]⟩
def a3_.e:FE:=mkE rd0 61 26 1 [.sl .v .iKid,.sl .v .iKid] [.tmp 4] [] [(6,od143)] [(0,od9)] (un2 a3_)
def dv_.e:FE:=mkE rd0 22 24 1 [.ag (aJ_.p .v),.ag (aJ_.p .v)] [.tmp 4] [] [] [] fun n (a0,a1,_)=>dv_ n (aJ_.of a0) (aJ_.of a1)
def e1_.e:FE:=mkE rd46 169 22 3 [.ag (aa_.p .d),.ag (TOp.p .v)] [.cell 4 46,.tmp 5] [] [] [] fun n (a0,a1,_)=>e1_ n (aa_.of a0) (TOp.of a1)
def rd48:RD:=⟨Int × Bool,[.i .i64,.er],fun (a0,a1,_)=>(a0,a1),fun (a0,a1)=>(a0,a1,())⟩
def d2_.e:FE:=mkE rd48 225 18 1 [.s] [.tmp 2,.tmp 3] [] [] [] (un1 d2_)
def dP_.e:FE:=mkE rd7 202 24 1 [.s] [.tmp 2] [] [] [] (un1 dP_)
def ec_.e:FE:=mkE rd46 170 69 5 [.ag (aa_.p .d),.s,.ag (aa_.p .d)] [.cell 6 46,.tmp 7] [] [] [] fun n (a0,a1,a2,_)=>ec_ n (aa_.of a0) a1 (aa_.of a2)
def od144:OD:=⟨[(0,.view .str),(1,.k),(7,.k),(8,.k)],[.sl .v .str,.s,.i .i64,.i .i64],[.ext]⟩
def aG_.e:FE:=mkE rd7 203 19 1 [.sl .v .str,.s] [.tmp 4] [] [(3,od144)] [(0,od9)] (un2 aG_)
def dO_.e:FE:=mkE rd7 171 24 1 [.ag (aa_.p .v),.s] [.tmp 4] [] [] [] fun n (a0,a1,_)=>dO_ n (aa_.of a0) a1
def cE_.e:FE:=mkE rd41 204 33 1 [.sl .d .iJson,.i .i64,.i .i64] [.tmp 6] [] [] [] (un3 cE_)
def cw_.e:FE:=mkE rd28 205 33 1 [.sl .d .str,.i .i64,.i .i64] [.tmp 6] [] [] [] (un3 cw_)
def ds_.e:FE:=mkE tn_ 172 23 3 [.ag (aa_.p .d),.i .i64] [.cell 4 46] [] [] [] fun n (a0,a1,_)=>ds_ n (aa_.of a0) a1
def cK_.e:FE:=mkE rd46 124 77 3 [.ag (aa_.p .d),.sl .v .str,.ag (TOp.p .v)] [.cell 6 46,.tmp 7] [] [] [] fun n (a0,a1,a2,_)=>cK_ n (aa_.of a0) a1 (TOp.of a2)
def e3_.e:FE:=mkE rd46 64 35 1 [.ag (aa_.p .v),.ag (TOp.p .v)] [.cell 4 46,.tmp 5] [] [] [] fun n (a0,a1,_)=>e3_ n (aa_.of a0) (TOp.of a1)
def od145:OD:=⟨[(4,.box [.k,.k,.k,.k,.k]),(6,.box [.k,.k,.k,.own .d .iJson,.own .d .str]),(22,.view .iOp),(23,.k),(24,.k)],[.pb 1 0,.pb 2 0,.sl .v .iOp,.i .i64,.i .i64],[.ext,.box [.i .i64,.i .i64,.s,.nils,.nils],.box [.i .i64,.i .i64,.s,.rt 3,.rt 4],.arr .d .iJson 2,.arr .d .str 2]⟩
def od146:OD:=⟨[(4,.box [.k,.k,.k,.k,.k]),(6,.box [.k,.k,.k,.own .d .iJson,.own .d .str])],[.pb 1 0,.pb 2 0],[.ext,.box [.i .i64,.i .i64,.s,.nils,.nils],.box [.i .i64,.i .i64,.s,.rt 3,.rt 4],.arr .d .iJson 2,.arr .d .str 2]⟩
def bf_.e:FE:=mkE rd46 24 40 1 [.ag (aa_.p .v),.sl .v .iOp] [.cell 4 46,.tmp 5] [] [(7,od145)] [(0,od146)] fun n (a0,a1,_)=>bf_ n (aa_.of a0) a1
def laws_FnTaken.e:FE:=mkE rd0 4 160 1 [.sl .v .u8] [.tmp 2] [] [] [] (un1 laws_FnTaken)
def ents:List FE:=[laws_FnTaken.e,gs_.e,ed_.e,c6_.e,dw_.e,d6_.e,c5_.e,a4_.e,ei_.e,cL_.e,cO_.e,dG_.e,c9_.e,df_.e,dL_.e,dv_.e,da_.e,bf_.e,cU_.e,e4_.e,bX_.e,b2_.e,a7_.e,bn_.e,dU_.e,dc_.e,dr_.e,eX_.e,bh_.e,b1_.e,fd_.e,er_.e,b9_.e,cA_.e,av_.e,aL_.e,cD_.e,a6_.e,e5_.e,aW_.e,d5_.e,dF_.e,cP_.e,dK_.e,cI_.e,dD_.e,ah_.e,ee_.e,a3_.e,dm_.e,aM_.e,e3_.e,aV_.e,aY_.e,bW_.e,bt_.e,aC_.e,aT_.e,cT_.e,bm_.e,et_.e,bu_.e,eJ_.e,dS_.e,b7_.e,b6_.e,ev_.e,cJ_.e,aP_.e,cb_.e,a8_.e,bA_.e,bQ_.e,dq_.e,eq_.e,bY_.e,bj_.e,aK_.e,aF_.e,cl_.e,d3_.e,aD_.e,bG_.e,di_.e,bd_.e,eu_.e,bz_.e,bN_.e,strconv_Itoa.e,strings_Join.e,a5_.e,dH_.e,b3_.e,au_.e,bU_.e,dt_.e,be_.e,eg_.e,bL_.e,ax_.e,aH_.e,aj_.e,cN_.e,cm_.e,cK_.e,az_.e,bM_.e,ad_.e,bs_.e,b4_.e,bo_.e,eH_.e,do_.e,c8_.e,ea_.e,bJ_.e,ch_.e,af_.e,dE_.e,d9_.e,bP_.e,aR_.e,a0_.e,bl_.e,bE_.e,c7_.e,cY_.e,cz_.e,eW_.e,cn_.e,c4_.e,dp_.e,bV_.e,e2_.e,ag_.e,d7_.e,dT_.e,du_.e,eb_.e,cq_.e,aA_.e,eh_.e,e1_.e,ec_.e,dO_.e,ds_.e,dC_.e,ay_.e,aE_.e,aB_.e,bB_.e,aQ_.e,a1_.e,bR_.e,dn_.e,eY_.e,fw_.e,aN_.e,bc_.e,bF_.e,bI_.e,bH_.e,es_.e,bT_.e,a2_.e,strings_ReplaceAll.e,ae_.e,aw_.e,am_.e,b5_.e,b0_.e,dP_.e,aG_.e,cE_.e,cw_.e,bx_.e,ce_.e,ca_.e,dJ_.e,eI_.e,cX_.e,cg_.e,d2_.e,cC_.e]
def fzL:List Nat:=[17,19,33,36,39,40,41,42,53,67,68,69,70,75,78,79,83,88,96,97,113,114,125,126,127,131,132,133,147,148,162,163,174,175,177,183,184,187,206]
def cx (n nt:Nat):Cx:=⟨nt,tt,sigE ents,KE n ents,fun f=>fzL.any (Nat.beq f)⟩
theorem okk {n:Nat} {e:FE} {fn:Func} (s:Stps e.R e.d.cut) (hfn:E.P.funcs[e.d.fid]?=some fn) (h:e.L (cx n e.d.nt) fn n s=e.Q (cx n e.d.nt) fn (e.F (n+1)) s):e.Oks E (cx n) n:=FE.ok s mixedOk hfn h
end Go.Pi
end
section
namespace Go.Pi
open Go.Proofs
theorem gs_.ok (n:Nat):gs_.e.Oks E (cx n) n:=okk () Tryz.func5 (by kernel_rfl)
theorem b9_.ok (n:Nat):b9_.e.Oks E (cx n) n:=okk (.lp fun κe=>b9_.step4 n (od1.k (κe 0)),()) Tryz.func40 (by kernel_rfl)
theorem di_.ok (n:Nat):di_.e.Oks E (cx n) n:=okk () Tryz.func97 (by kernel_rfl)
theorem av_.ok (n:Nat):av_.e.Oks E (cx n) n:=okk () Tryz.func42 (by kernel_rfl)
theorem ay_.ok (n:Nat):ay_.e.Oks E (cx n) n:=okk (.lp fun κe=>ay_.step4 n (od3.k (κe 0)),()) Tryz.func174 (by kernel_rfl)
theorem b4_.ok (n:Nat):b4_.e.Oks E (cx n) n:=okk () Tryz.func129 (by kernel_rfl)
theorem a1_.ok (n:Nat):a1_.e.Oks E (cx n) n:=okk (.lp fun κe=>a1_.step3 n (od5.k (κe 0)),()) Tryz.func179 (by kernel_rfl)
theorem dn_.ok (n:Nat):dn_.e.Oks E (cx n) n:=okk () Tryz.func181 (by kernel_rfl)
theorem dC_.ok (n:Nat):dC_.e.Oks E (cx n) n:=okk () Tryz.func173 (by kernel_rfl)
theorem aN_.ok (n:Nat):aN_.e.Oks E (cx n) n:=okk (.lp fun κe=>aN_.step4 n (od7.k (κe 0)),()) Tryz.func184 (by kernel_rfl)
theorem ca_.ok (n:Nat):ca_.e.Oks E (cx n) n:=okk (.lp fun κe=>ca_.step3 n (od9.k (κe 0)),()) Tryz.func208 (by kernel_rfl)
theorem cq_.ok (n:Nat):cq_.e.Oks E (cx n) n:=okk () Tryz.func166 (by kernel_rfl)
theorem bc_.ok (n:Nat):bc_.e.Oks E (cx n) n:=okk (.lp fun κe=>bc_.step5 n (od11.k (κe 0)),()) Tryz.func185 (by kernel_rfl)
theorem bx_.ok (n:Nat):bx_.e.Oks E (cx n) n:=okk (.lp fun κe=>bx_.step6 n (od13.k (κe 0)),()) Tryz.func206 (by kernel_rfl)
theorem aE_.ok (n:Nat):aE_.e.Oks E (cx n) n:=okk (.lp fun κe=>aE_.step4 n (od15.k (κe 0)),()) Tryz.func175 (by kernel_rfl)
theorem az_.ok (n:Nat):az_.e.Oks E (cx n) n:=okk (.lp fun κe=>az_.step4 n (od17.k (κe 0)),()) Tryz.func125 (by kernel_rfl)
theorem cz_.ok (n:Nat):cz_.e.Oks E (cx n) n:=okk () Tryz.func150 (by kernel_rfl)
theorem cA_.ok (n:Nat):cA_.e.Oks E (cx n) n:=okk () Tryz.func41 (by kernel_rfl)
theorem bU_.ok (n:Nat):bU_.e.Oks E (cx n) n:=okk () Tryz.func114 (by kernel_rfl)
theorem ad_.ok (n:Nat):ad_.e.Oks E (cx n) n:=okk (.lp fun κe=>ad_.step7 n (od20.k (κe 0)),.lp fun κe=>ad_.step16 n (od21.k (κe 2)),()) Tryz.func127 (by kernel_rfl)
theorem ce_.ok (n:Nat):ce_.e.Oks E (cx n) n:=okk (.lp fun κe=>ce_.step6 n (od9.k (κe 0)),()) Tryz.func207 (by kernel_rfl)
theorem bR_.ok (n:Nat):bR_.e.Oks E (cx n) n:=okk (.lp fun κe=>bR_.step3 n (od24.k (κe 0)),()) Tryz.func180 (by kernel_rfl)
theorem bs_.ok (n:Nat):bs_.e.Oks E (cx n) n:=okk (.lp fun κe=>bs_.step6 n (od9.k (κe 0)),()) Tryz.func128 (by kernel_rfl)
theorem aB_.ok (n:Nat):aB_.e.Oks E (cx n) n:=okk (.lp fun κe=>aB_.step7 n (od28.k (κe 0)),.lp fun κe=>aB_.step16 n (od28.k (κe 2)),()) Tryz.func176 (by kernel_rfl)
theorem eg_.ok (n:Nat):eg_.e.Oks E (cx n) n:=okk () Tryz.func117 (by kernel_rfl)
theorem dJ_.ok (n:Nat):dJ_.e.Oks E (cx n) n:=okk () Tryz.func209 (by kernel_rfl)
theorem bF_.ok (n:Nat):bF_.e.Oks E (cx n) n:=okk (.lp fun κe=>bF_.step3 n (od9.k (κe 0)),()) Tryz.func186 (by kernel_rfl)
theorem bH_.ok (n:Nat):bH_.e.Oks E (cx n) n:=okk () Tryz.func188 (by kernel_rfl)
theorem eI_.ok (n:Nat):eI_.e.Oks E (cx n) n:=okk () Tryz.func210 (by kernel_rfl)
theorem bI_.ok (n:Nat):bI_.e.Oks E (cx n) n:=okk (.lp fun κe=>bI_.step5 n (od31.k (κe 0)),()) Tryz.func187 (by kernel_rfl)
theorem bB_.ok (n:Nat):bB_.e.Oks E (cx n) n:=okk (.lp fun κe=>bB_.step8 n (od33.k (κe 0)),()) Tryz.func177 (by kernel_rfl)
theorem aQ_.ok (n:Nat):aQ_.e.Oks E (cx n) n:=okk (.lp fun κe=>aQ_.step5 n (od35.k (κe 0)),()) Tryz.func178 (by kernel_rfl)
theorem bM_.ok (n:Nat):bM_.e.Oks E (cx n) n:=okk (.lp fun κe=>bM_.step8 n (od37.k (κe 0)),()) Tryz.func126 (by kernel_rfl)
theorem d7_.ok (n:Nat):d7_.e.Oks E (cx n) n:=okk () Tryz.func162 (by kernel_rfl)
theorem bL_.ok (n:Nat):bL_.e.Oks E (cx n) n:=okk (.lp fun κe=>bL_.step4 n (od39.k (κe 0)),()) Tryz.func118 (by kernel_rfl)
theorem cI_.ok (n:Nat):cI_.e.Oks E (cx n) n:=okk () Tryz.func57 (by kernel_rfl)
theorem dK_.ok (n:Nat):dK_.e.Oks E (cx n) n:=okk () Tryz.func56 (by kernel_rfl)
theorem bY_.ok (n:Nat):bY_.e.Oks E (cx n) n:=okk (.lp fun κe=>bY_.step3 n (od9.k (κe 0)),()) Tryz.func89 (by kernel_rfl)
theorem a8_.ok (n:Nat):a8_.e.Oks E (cx n) n:=okk (.lp fun κe=>a8_.step4 n (od42.k (κe 0)),()) Tryz.func84 (by kernel_rfl)
theorem eW_.ok (n:Nat):eW_.e.Oks E (cx n) n:=okk () Tryz.func151 (by kernel_rfl)
theorem dq_.ok (n:Nat):dq_.e.Oks E (cx n) n:=okk () Tryz.func87 (by kernel_rfl)
theorem a0_.ok (n:Nat):a0_.e.Oks E (cx n) n:=okk (.lp fun κe=>a0_.step7 n (od44.k (κe 0)),()) Tryz.func145 (by kernel_rfl)
theorem cY_.ok (n:Nat):cY_.e.Oks E (cx n) n:=okk () Tryz.func149 (by kernel_rfl)
theorem bG_.ok (n:Nat):bG_.e.Oks E (cx n) n:=okk (.lp fun κe=>bG_.step5 n (od46.k (κe 0)),()) Tryz.func96 (by kernel_rfl)
theorem bE_.ok (n:Nat):bE_.e.Oks E (cx n) n:=okk (.lp fun κe=>bE_.step4 n (od48.k (κe 0)),()) Tryz.func147 (by kernel_rfl)
theorem bV_.ok (n:Nat):bV_.e.Oks E (cx n) n:=okk (.lp fun κe=>bV_.step3 n (od50.k (κe 0)),()) Tryz.func155 (by kernel_rfl)
theorem ae_.ok (n:Nat):ae_.e.Oks E (cx n) n:=okk (.lp fun κe=>ae_.step6 n (od52.k (κe 0)),()) Tryz.func194 (by kernel_rfl)
theorem aR_.ok (n:Nat):aR_.e.Oks E (cx n) n:=okk (.lp fun κe=>aR_.step23 n (aR_ n) (od54.k (κe 1)),()) Tryz.func144 (by kernel_rfl)
theorem cJ_.ok (n:Nat):cJ_.e.Oks E (cx n) n:=okk () Tryz.func81 (by kernel_rfl)
theorem c7_.ok (n:Nat):c7_.e.Oks E (cx n) n:=okk () Tryz.func148 (by kernel_rfl)
theorem cb_.ok (n:Nat):cb_.e.Oks E (cx n) n:=okk (.lp fun κe=>cb_.step4 n (od56.k (κe 0)),()) Tryz.func83 (by kernel_rfl)
theorem dc_.ok (n:Nat):dc_.e.Oks E (cx n) n:=okk () Tryz.func33 (by kernel_rfl)
theorem ax_.ok (n:Nat):ax_.e.Oks E (cx n) n:=okk (.lp fun κe=>ax_.step6 n (ax_ n) (od59.k (κe 0)),.lp fun κe=>ax_.step14 n (ax_ n) (od9.k (κe 2)),()) Tryz.func119 (by kernel_rfl)
theorem dD_.ok (n:Nat):dD_.e.Oks E (cx n) n:=okk () Tryz.func58 (by kernel_rfl)
theorem dL_.ok (n:Nat):dL_.e.Oks E (cx n) n:=okk () Tryz.func21 (by kernel_rfl)
theorem bA_.ok (n:Nat):bA_.e.Oks E (cx n) n:=okk (.lp fun κe=>bA_.step3 n (od61.k (κe 0)),()) Tryz.func85 (by kernel_rfl)
theorem bQ_.ok (n:Nat):bQ_.e.Oks E (cx n) n:=okk (.lp fun κe=>bQ_.step3 n (od63.k (κe 0)),()) Tryz.func86 (by kernel_rfl)
theorem dr_.ok (n:Nat):dr_.e.Oks E (cx n) n:=okk () Tryz.func34 (by kernel_rfl)
theorem eX_.ok (n:Nat):eX_.e.Oks E (cx n) n:=okk () Tryz.func35 (by kernel_rfl)
theorem eq_.ok (n:Nat):eq_.e.Oks E (cx n) n:=okk () Tryz.func88 (by kernel_rfl)
theorem bh_.ok (n:Nat):bh_.e.Oks E (cx n) n:=okk (.lp fun κe=>bh_.step5 n (od65.k (κe 0)),()) Tryz.func36 (by kernel_rfl)
theorem cn_.ok (n:Nat):cn_.e.Oks E (cx n) n:=okk (.lp fun κe=>cn_.step3 n (od9.k (κe 0)),()) Tryz.func152 (by kernel_rfl)
theorem aK_.ok (n:Nat):aK_.e.Oks E (cx n) n:=okk (.lp fun κe=>aK_.step3 n (od69.k (κe 0)),.lp fun κe=>aK_.step11 n (od69.k (κe 2)),()) Tryz.func91 (by kernel_rfl)
theorem c4_.ok (n:Nat):c4_.e.Oks E (cx n) n:=okk () Tryz.func153 (by kernel_rfl)
theorem bj_.ok (n:Nat):bj_.e.Oks E (cx n) n:=okk (.lp fun κe=>bj_.step4 n (bj_ n) (od71.k (κe 0)),()) Tryz.func90 (by kernel_rfl)
theorem dp_.ok (n:Nat):dp_.e.Oks E (cx n) n:=okk () Tryz.func154 (by kernel_rfl)
theorem aF_.ok (n:Nat):aF_.e.Oks E (cx n) n:=okk (.lp fun κe=>aF_.step5 n (od74.k (κe 0)),.lp fun κe=>aF_.step13 n (od75.k (κe 2)),()) Tryz.func92 (by kernel_rfl)
theorem fd_.ok (n:Nat):fd_.e.Oks E (cx n) n:=okk () Tryz.func38 (by kernel_rfl)
theorem b1_.ok (n:Nat):b1_.e.Oks E (cx n) n:=okk (.lp fun κe=>b1_.step4 n (od77.k (κe 0)),()) Tryz.func37 (by kernel_rfl)
theorem c5_.ok (n:Nat):c5_.e.Oks E (cx n) n:=okk () Tryz.func11 (by kernel_rfl)
theorem cl_.ok (n:Nat):cl_.e.Oks E (cx n) n:=okk (.lp fun κe=>cl_.step6 n (od79.k (κe 0)),()) Tryz.func93 (by kernel_rfl)
theorem d3_.ok (n:Nat):d3_.e.Oks E (cx n) n:=okk () Tryz.func94 (by kernel_rfl)
theorem aD_.ok (n:Nat):aD_.e.Oks E (cx n) n:=okk (.lp fun κe=>aD_.step10 n (od80.k (κe 2)),.lp fun κe=>aD_.step4 n (od82.k (κe 0)),()) Tryz.func95 (by kernel_rfl)
theorem er_.ok (n:Nat):er_.e.Oks E (cx n) n:=okk () Tryz.func39 (by kernel_rfl)
theorem bl_.ok (n:Nat):bl_.e.Oks E (cx n) n:=okk (.lp fun κe=>bl_.step4 n (od82.k (κe 0)),()) Tryz.func146 (by kernel_rfl)
theorem aP_.ok (n:Nat):aP_.e.Oks E (cx n) n:=okk (.lp fun κe=>aP_.step17 n (aP_ n) (od85.k (κe 1)),()) Tryz.func82 (by kernel_rfl)
theorem dU_.ok (n:Nat):dU_.e.Oks E (cx n) n:=okk () Tryz.func32 (by kernel_rfl)
theorem a4_.ok (n:Nat):a4_.e.Oks E (cx n) n:=okk (.lp fun κe=>a4_.step4 n (od87.k (κe 0)),()) Tryz.func12 (by kernel_rfl)
theorem d6_.ok (n:Nat):d6_.e.Oks E (cx n) n:=okk () Tryz.func10 (by kernel_rfl)
theorem c9_.ok (n:Nat):c9_.e.Oks E (cx n) n:=okk () Tryz.func19 (by kernel_rfl)
theorem do_.ok (n:Nat):do_.e.Oks E (cx n) n:=okk () Tryz.func132 (by kernel_rfl)
theorem eY_.ok (n:Nat):eY_.e.Oks E (cx n) n:=okk () Tryz.func182 (by kernel_rfl)
theorem bo_.ok (n:Nat):bo_.e.Oks E (cx n) n:=okk (.lp fun κe=>bo_.step4 n (od89.k (κe 0)),()) Tryz.func130 (by kernel_rfl)
theorem fw_.ok (n:Nat):fw_.e.Oks E (cx n) n:=okk () Tryz.func183 (by kernel_rfl)
theorem eH_.ok (n:Nat):eH_.e.Oks E (cx n) n:=okk () Tryz.func131 (by kernel_rfl)
theorem aC_.ok (n:Nat):aC_.e.Oks E (cx n) n:=okk (.tl fun κd _=>aC_.tail9 n (od90.k κd),.lp fun κe=>aC_.step5 n (od92.k (κe 0)),()) Tryz.func69 (by kernel_rfl)
theorem bt_.ok (n:Nat):bt_.e.Oks E (cx n) n:=okk (.lp fun κe=>bt_.step12 n (od94.k (κe 0)),()) Tryz.func68 (by kernel_rfl)
theorem c8_.ok (n:Nat):c8_.e.Oks E (cx n) n:=okk () Tryz.func133 (by kernel_rfl)
theorem aT_.ok (n:Nat):aT_.e.Oks E (cx n) n:=okk (.lp fun κe=>aT_.step4 n (od96.k (κe 0)),()) Tryz.func70 (by kernel_rfl)
theorem dT_.ok (n:Nat):dT_.e.Oks E (cx n) n:=okk () Tryz.func163 (by kernel_rfl)
theorem au_.ok (n:Nat):au_.e.Oks E (cx n) n:=okk (.tl fun κd _=>au_.tail10 n (od98.k κd),.lp fun κe=>au_.step5 n (od100.k (κe 0)),.tl fun _ _=>au_.tail1 n,()) Tryz.func113 (by kernel_rfl)
theorem bW_.ok (n:Nat):bW_.e.Oks E (cx n) n:=okk (.tl fun _ _=>bW_.tail1 n,()) Tryz.func67 (by kernel_rfl)
theorem d5_.ok (n:Nat):d5_.e.Oks E (cx n) n:=okk () Tryz.func53 (by kernel_rfl)
theorem cO_.ok (n:Nat):cO_.e.Oks E (cx n) n:=okk () Tryz.func17 (by kernel_rfl)
theorem du_.ok (n:Nat):du_.e.Oks E (cx n) n:=okk () Tryz.func164 (by kernel_rfl)
theorem dt_.ok (n:Nat):dt_.e.Oks E (cx n) n:=okk () Tryz.func115 (by kernel_rfl)
theorem eb_.ok (n:Nat):eb_.e.Oks E (cx n) n:=okk () Tryz.func165 (by kernel_rfl)
theorem be_.ok (n:Nat):be_.e.Oks E (cx n) n:=okk (.lp fun κe=>be_.step4 n (od39.k (κe 0)),()) Tryz.func116 (by kernel_rfl)
theorem cP_.ok (n:Nat):cP_.e.Oks E (cx n) n:=okk () Tryz.func55 (by kernel_rfl)
theorem dF_.ok (n:Nat):dF_.e.Oks E (cx n) n:=okk () Tryz.func54 (by kernel_rfl)
theorem b3_.ok (n:Nat):b3_.e.Oks E (cx n) n:=okk (.lp fun κe=>b3_.step3 n (od9.k (κe 0)),()) Tryz.func112 (by kernel_rfl)
theorem aW_.ok (n:Nat):aW_.e.Oks E (cx n) n:=okk (.lp fun κe=>aW_.step4 n (od42.k (κe 0)),()) Tryz.func52 (by kernel_rfl)
theorem ea_.ok (n:Nat):ea_.e.Oks E (cx n) n:=okk () Tryz.func135 (by kernel_rfl)
theorem a2_.ok (n:Nat):a2_.e.Oks E (cx n) n:=okk (.lp fun κe=>a2_.step3 n (od9.k (κe 0)),()) Tryz.func191 (by kernel_rfl)
theorem ch_.ok (n:Nat):ch_.e.Oks E (cx n) n:=okk () Tryz.func137 (by kernel_rfl)
theorem es_.ok (n:Nat):es_.e.Oks E (cx n) n:=okk () Tryz.func189 (by kernel_rfl)
theorem aL_.ok (n:Nat):aL_.e.Oks E (cx n) n:=okk () Tryz.func48 (by kernel_rfl)
theorem eu_.ok (n:Nat):eu_.e.Oks E (cx n) n:=okk () Tryz.func103 (by kernel_rfl)
theorem cC_.ok (n:Nat):cC_.e.Oks E (cx n) n:=okk () Tryz.func234 (by kernel_rfl)
theorem cX_.ok (n:Nat):cX_.e.Oks E (cx n) n:=okk () Tryz.func219 (by kernel_rfl)
theorem cg_.ok (n:Nat):cg_.e.Oks E (cx n) n:=okk () Tryz.func220 (by kernel_rfl)
theorem am_.ok (n:Nat):am_.e.Oks E (cx n) n:=okk (.lp fun κe=>am_.step4 n (od107.k (κe 0)),()) Tryz.func199 (by kernel_rfl)
theorem bT_.ok (n:Nat):bT_.e.Oks E (cx n) n:=okk (.lp fun κe=>bT_.step4 n (od109.k (κe 0)),()) Tryz.func190 (by kernel_rfl)
theorem bd_.ok (n:Nat):bd_.e.Oks E (cx n) n:=okk () Tryz.func100 (by kernel_rfl)
theorem aA_.ok (n:Nat):aA_.e.Oks E (cx n) n:=okk (.lp fun κe=>aA_.step3 n (od50.k (κe 0)),()) Tryz.func167 (by kernel_rfl)
theorem aw_.ok (n:Nat):aw_.e.Oks E (cx n) n:=okk (.lp fun κe=>aw_.step3 n (od9.k (κe 0)),()) Tryz.func195 (by kernel_rfl)
theorem e2_.ok (n:Nat):e2_.e.Oks E (cx n) n:=okk () Tryz.func156 (by kernel_rfl)
theorem bz_.ok (n:Nat):bz_.e.Oks E (cx n) n:=okk (.lp fun κe=>bz_.step7 n (bz_ n) (od113.k (κe 0)),()) Tryz.func106 (by kernel_rfl)
theorem cD_.ok (n:Nat):cD_.e.Oks E (cx n) n:=okk () Tryz.func49 (by kernel_rfl)
theorem cT_.ok (n:Nat):cT_.e.Oks E (cx n) n:=okk () Tryz.func72 (by kernel_rfl)
theorem bJ_.ok (n:Nat):bJ_.e.Oks E (cx n) n:=okk (.lp fun κe=>bJ_.step4 n (od115.k (κe 0)),()) Tryz.func136 (by kernel_rfl)
theorem bm_.ok (n:Nat):bm_.e.Oks E (cx n) n:=okk (.lp fun κe=>bm_.step4 n (od117.k (κe 0)),()) Tryz.func73 (by kernel_rfl)
theorem dH_.ok (n:Nat):dH_.e.Oks E (cx n) n:=okk () Tryz.func111 (by kernel_rfl)
theorem ag_.ok (n:Nat):ag_.e.Oks E (cx n) n:=okk (.lp fun κe=>ag_.step3 n (od9.k (κe 0)),()) Tryz.func161 (by kernel_rfl)
theorem a5_.ok (n:Nat):a5_.e.Oks E (cx n) n:=okk () Tryz.func110 (by kernel_rfl)
theorem e5_.ok (n:Nat):e5_.e.Oks E (cx n) n:=okk () Tryz.func51 (by kernel_rfl)
theorem cL_.ok (n:Nat):cL_.e.Oks E (cx n) n:=okk () Tryz.func16 (by kernel_rfl)
theorem aH_.ok (n:Nat):aH_.e.Oks E (cx n) n:=okk (.lp fun κe=>aH_.step6 n (od9.k (κe 0)),()) Tryz.func120 (by kernel_rfl)
theorem aj_.ok (n:Nat):aj_.e.Oks E (cx n) n:=okk (.lp fun κe=>aj_.step6 n (dm_ n) (od9.k (κe 0)),()) Tryz.func121 (by kernel_rfl)
theorem dm_.ok (n:Nat):dm_.e.Oks E (cx n) n:=okk () Tryz.func62 (by kernel_rfl)
theorem da_.ok (n:Nat):da_.e.Oks E (cx n) n:=okk () Tryz.func23 (by kernel_rfl)
theorem df_.ok (n:Nat):df_.e.Oks E (cx n) n:=okk () Tryz.func20 (by kernel_rfl)
theorem aV_.ok (n:Nat):aV_.e.Oks E (cx n) n:=okk (.lp fun κe=>aV_.step6 n (od9.k (κe 0)),()) Tryz.func65 (by kernel_rfl)
theorem aY_.ok (n:Nat):aY_.e.Oks E (cx n) n:=okk (.lp fun κe=>aY_.step6 n (od9.k (κe 0)),()) Tryz.func66 (by kernel_rfl)
theorem cU_.ok (n:Nat):cU_.e.Oks E (cx n) n:=okk () Tryz.func25 (by kernel_rfl)
theorem e4_.ok (n:Nat):e4_.e.Oks E (cx n) n:=okk () Tryz.func27 (by kernel_rfl)
theorem bX_.ok (n:Nat):bX_.e.Oks E (cx n) n:=okk (.lp fun κe=>bX_.step5 n (od124.k (κe 0)),()) Tryz.func28 (by kernel_rfl)
theorem bu_.ok (n:Nat):bu_.e.Oks E (cx n) n:=okk (.lp fun κe=>bu_.step7 n (od126.k (κe 0)),()) Tryz.func75 (by kernel_rfl)
theorem dE_.ok (n:Nat):dE_.e.Oks E (cx n) n:=okk () Tryz.func139 (by kernel_rfl)
theorem af_.ok (n:Nat):af_.e.Oks E (cx n) n:=okk (.lp fun κe=>af_.step3 n (od9.k (κe 0)),()) Tryz.func138 (by kernel_rfl)
theorem eJ_.ok (n:Nat):eJ_.e.Oks E (cx n) n:=okk () Tryz.func76 (by kernel_rfl)
theorem dS_.ok (n:Nat):dS_.e.Oks E (cx n) n:=okk () Tryz.func77 (by kernel_rfl)
theorem cN_.ok (n:Nat):cN_.e.Oks E (cx n) n:=okk () Tryz.func122 (by kernel_rfl)
theorem aM_.ok (n:Nat):aM_.e.Oks E (cx n) n:=okk (.lp fun κe=>aM_.step4 n (aM_ n) (od71.k (κe 0)),()) Tryz.func63 (by kernel_rfl)
theorem a7_.ok (n:Nat):a7_.e.Oks E (cx n) n:=okk (.lp fun κe=>a7_.step9 n (od131.k (κe 0)),.lp fun κe=>a7_.step17 n (od132.k (κe 2)),()) Tryz.func30 (by kernel_rfl)
theorem et_.ok (n:Nat):et_.e.Oks E (cx n) n:=okk () Tryz.func74 (by kernel_rfl)
theorem b2_.ok (n:Nat):b2_.e.Oks E (cx n) n:=okk (.lp fun κe=>b2_.step4 n (od77.k (κe 0)),()) Tryz.func29 (by kernel_rfl)
theorem c6_.ok (n:Nat):c6_.e.Oks E (cx n) n:=okk () Tryz.func8 (by kernel_rfl)
theorem eh_.ok (n:Nat):eh_.e.Oks E (cx n) n:=okk () Tryz.func168 (by kernel_rfl)
theorem cm_.ok (n:Nat):cm_.e.Oks E (cx n) n:=okk (.lp fun κe=>cm_.step3 n (od79.k (κe 0)),()) Tryz.func123 (by kernel_rfl)
theorem d9_.ok (n:Nat):d9_.e.Oks E (cx n) n:=okk () Tryz.func142 (by kernel_rfl)
theorem bP_.ok (n:Nat):bP_.e.Oks E (cx n) n:=okk (.lp fun κe=>bP_.step4 n (od136.k (κe 0)),()) Tryz.func143 (by kernel_rfl)
theorem ev_.ok (n:Nat):ev_.e.Oks E (cx n) n:=okk () Tryz.func80 (by kernel_rfl)
theorem bn_.ok (n:Nat):bn_.e.Oks E (cx n) n:=okk (.lp fun κe=>bn_.step4 n (od138.k (κe 0)),()) Tryz.func31 (by kernel_rfl)
theorem bN_.ok (n:Nat):bN_.e.Oks E (cx n) n:=okk (.lp fun κe=>bN_.step4 n (od82.k (κe 0)),()) Tryz.func107 (by kernel_rfl)
theorem a6_.ok (n:Nat):a6_.e.Oks E (cx n) n:=okk (.lp fun κe=>a6_.step4 n (a6_ n) (od141.k (κe 0)),()) Tryz.func50 (by kernel_rfl)
theorem ei_.ok (n:Nat):ei_.e.Oks E (cx n) n:=okk () Tryz.func15 (by kernel_rfl)
theorem dw_.ok (n:Nat):dw_.e.Oks E (cx n) n:=okk () Tryz.func9 (by kernel_rfl)
theorem ed_.ok (n:Nat):ed_.e.Oks E (cx n) n:=okk () Tryz.func7 (by kernel_rfl)
theorem dG_.ok (n:Nat):dG_.e.Oks E (cx n) n:=okk () Tryz.func18 (by kernel_rfl)
theorem ee_.ok (n:Nat):ee_.e.Oks E (cx n) n:=okk () Tryz.func60 (by kernel_rfl)
theorem ah_.ok (n:Nat):ah_.e.Oks E (cx n) n:=okk (.lp fun κe=>ah_.step6 n (od9.k (κe 0)),()) Tryz.func59 (by kernel_rfl)
theorem a3_.ok (n:Nat):a3_.e.Oks E (cx n) n:=okk (.lp fun κe=>a3_.step6 n (od9.k (κe 0)),()) Tryz.func61 (by kernel_rfl)
theorem dv_.ok (n:Nat):dv_.e.Oks E (cx n) n:=okk () Tryz.func22 (by kernel_rfl)
theorem e1_.ok (n:Nat):e1_.e.Oks E (cx n) n:=okk () Tryz.func169 (by kernel_rfl)
theorem dP_.ok (n:Nat):dP_.e.Oks E (cx n) n:=okk () Tryz.func202 (by kernel_rfl)
theorem ec_.ok (n:Nat):ec_.e.Oks E (cx n) n:=okk () Tryz.func170 (by kernel_rfl)
theorem aG_.ok (n:Nat):aG_.e.Oks E (cx n) n:=okk (.lp fun κe=>aG_.step3 n (od9.k (κe 0)),()) Tryz.func203 (by kernel_rfl)
theorem dO_.ok (n:Nat):dO_.e.Oks E (cx n) n:=okk () Tryz.func171 (by kernel_rfl)
theorem ds_.ok (n:Nat):ds_.e.Oks E (cx n) n:=okk () Tryz.func172 (by kernel_rfl)
theorem cK_.ok (n:Nat):cK_.e.Oks E (cx n) n:=okk () Tryz.func124 (by kernel_rfl)
theorem e3_.ok (n:Nat):e3_.e.Oks E (cx n) n:=okk () Tryz.func64 (by kernel_rfl)
theorem bf_.ok (n:Nat):bf_.e.Oks E (cx n) n:=okk (.lp fun κe=>bf_.step7 n (od146.k (κe 0)),()) Tryz.func24 (by kernel_rfl)
theorem laws_FnTaken.ok (n:Nat):laws_FnTaken.e.Oks E (cx n) n:=okk () Tryz.func4 (by kernel_rfl)
end Go.Pi
end
section
namespace Go.Pi
def InsM (P:Program) (f:FuncId) (e:TypeId) (K B:Nat):Prop :=
 ∀ (w:World) (S:Value) (n:Nat) (vals:List Value) (U:Value) (m:Nat) (us:List Value) (i:Nat),w.ownsRow 0 e K S n vals→w.ownsRow 0 e K U m us→(∀ b,ck_ S b≠0→ck_ U b=0)→i≤n →
   (∀ v ∈ vals,v.oneCell'=true)→(∀ v ∈ us,v.oneCell'=true)→(n+m)*B≤140737488355328 →
   Calls P f (List.toArray [S,.int .i64 i,U]) w fun e' w'=>∃ R,e' = .returned R∧w'.ownsRow 0 e K R (n+m) (vals.take (i*K)++us++vals.drop (i*K))∧jp_ w w' (fun b=>ck_ S b≠0) ∧
    ∀ b,ck_ R b≠0→(w.heap.size≤b∨ck_ S b≠0)∧b<w'.heap.size
def DelM (P:Program) (f:FuncId) (e:TypeId) (K:Nat):Prop :=
 ∀ (w:World) (S:Value) (n:Nat) (vals:List Value) (i j:Nat),w.ownsRow 0 e K S n vals→i≤j→j≤n→(∀ v ∈ vals,v.oneCell'=true) →
   Calls P f (List.toArray [S,.int .i64 i,.int .i64 j]) w fun e' w'=>∃ R,e' = .returned R∧w'.ownsRow 0 e K R (n - (j - i)) (vals.take (i*K)++vals.drop (j*K))∧jp_ w w' (fun b=>ck_ S b≠0) ∧
    ∀ b,ck_ R b≠0→(w.heap.size≤b∨ck_ S b≠0)∧b<w'.heap.size
def M.both:M→M→M
 |.d,.d=>.d
 |_,_=>.s
variable [ai_]
open ai_
variable {E:Env} {w w':World} {F F':Nat→Prop}
theorem RL.own_inv {m t xs v l vs φ} (hm:m ≠ .v) (h:RL E w F (.sl m t xs::l) (v::vs) φ):∃ vals φ₁ φ₂,w.ownsRow 0 (E.eid t) t.width v xs.length vals∧RL E w F (aU_ m.sub t xs) vals φ₁∧(∀ b,ck_ v b≠0→F b)∧RL E w F l vs φ₂∧∀ b,φ b=ck_ v b+φ₁ b+φ₂ b:=by
 cases h with
 |scal _ _ _ _ _ h=>exact h.elim
 |view=>exact absurd rfl hm
 |own m t xs v vals φ₁ l vs φ₂ φ h1 h2 h3 h4 h5 h6=>exact ⟨vals,φ₁,φ₂,h2,h3,h4,h5,h6⟩
theorem RL.len_inv {a l Vs φ} (h:RL E w F (a::l) Vs φ):∃ v vs,Vs=v::vs:=by
 obtain ⟨v,vs,_,_,h,_⟩:=RL.uncons h
 exact ⟨v,vs,h⟩
theorem rt_ [ak_] {φ:Nat→Nat} (h1:∀ b,φ b≤1) (low:∀ b,φ b≠0→F b∧b<w.heap.size) {S:Value} (hSF:∀ b,ck_ S b≠0→F b) {t:TC} {zs:List (El t)} {vals:List Value} {ψ:Nat→Nat}
  (hz:RL E w F (aU_ .d t zs) vals ψ) (eφ:∀ b,ck_ S b+ψ b≤φ b) {R:Value} (hR:w'.ownsRow 0 (E.eid t) t.width R zs.length vals) (hg:jp_ w w' (fun b=>ck_ S b≠0))
  (hRb:∀ b,ck_ R b≠0→(w.heap.size≤b∨ck_ S b≠0)∧b<w'.heap.size) :
  ∃ φ',RL E w' (fun b=>(F b∧φ b=0)∨φ' b≠0) [.sl .d t zs] [R] φ'∧(∀ b,φ' b≤1)∧(∀ b,φ' b≠0→φ b≠0∨w.heap.size≤b) ∧
    w'.os=w.os∧w'.tape=w.tape∧w'.output=w.output∧w.heap.size≤w'.heap.size∧∀ b,b<w.heap.size→φ b=0→w'.heap[b]?=w.heap[b]?:=by
 have key:∀ b,ck_ R b≠0→ck_ S b≠0∨w.heap.size≤b:=fun b hb=>(hRb b hb).1.symm
 have elt:∀ b,ψ b≠0→ck_ R b=0∧ck_ S b=0:=fun b hb=>by
  have q1:=eφ b;have q2:=h1 b
  have s0:ck_ S b=0:=by omega
  refine ⟨Classical.byContradiction fun hr => ?_,s0⟩
  rcases key b hr with hs|hs
  · exact hs s0
  · have:=(low b (by omega)).2;omega
 refine ⟨fun b=>ck_ R b+ψ b,?_,fun b => ?_,fun b hb => ?_,hg.os,hg.tape,hg.output,hg.size,fun b hb h0=>hg.heap b hb fun hc=>hc (by have:=eφ b;omega)⟩
 · refine .own .d t zs R vals ψ [] _ (fun _=>0) _ (by decide) hR ?_ (fun b hb=>.inr (by show ck_ R b+_≠0;omega)) (.nil _ fun _=>rfl) (fun b=>rfl)
   refine hz.frame hg.size (fun b hb=>⟨hg.heap b (hz.low b hb).2 fun hc=>hc (elt b hb).2,.inr (by show ck_ R b+ψ b≠0;omega)⟩) fun b hb hn=>⟨hg.heap b hb fun hc=>hn (hSF b hc),fun hc => ?_⟩
   rcases hc with ⟨hf,-⟩|hc
   · exact hn hf
   · have hc:ck_ R b+ψ b≠0:=hc
     by_cases hr0:ck_ R b=0
     · exact hn (hz.low b (by omega)).1
     · rcases key b hr0 with hs|hs
       · exact hn (hSF b hs)
       · omega
 · show ck_ R b+ψ b≤1
   have q1:=eφ b;have q2:=h1 b;have:=n2_ R b
   by_cases h0:ψ b=0
   · omega
   · have:=elt b h0;omega
 · have hb:ck_ R b+ψ b≠0:=hb
   by_cases h0:ψ b=0
   · rcases key b (by omega) with hs|hs
     · exact .inl (by have:=eφ b;omega)
     · exact .inr hs
   · exact .inl (by have:=eφ b;omega)
theorem m3_ [ak_] {φ:Nat→Nat} (h1:∀ b,φ b≤1) (low:∀ b,φ b≠0→F b∧b<w.heap.size) {S:Value} (hSF:∀ b,ck_ S b≠0→F b) {t:TC} {zs:List (El t)} {L:List AV} {vals:List Value} {ψ:Nat→Nat}
  (hz:RL E w F L vals ψ) (hL:L.map AV.asView=aU_ .v t zs) (eφ:∀ b,ck_ S b+ψ b≤φ b) {R:Value} (hR:w'.ownsRow 0 (E.eid t) t.width R zs.length vals) (hg:jp_ w w' (fun b=>ck_ S b≠0))
  (hRb:∀ b,ck_ R b≠0→(w.heap.size≤b∨ck_ S b≠0)∧b<w'.heap.size) :
  ∃ φ',RL E w' (fun b=>(F b∧φ b=0)∨φ' b≠0) [.sl .s t zs] [R] φ'∧(∀ b,φ' b≤1)∧(∀ b,φ' b≠0→φ b≠0∨w.heap.size≤b) ∧
    w'.os=w.os∧w'.tape=w.tape∧w'.output=w.output∧w.heap.size≤w'.heap.size∧∀ b,b<w.heap.size→φ b=0→w'.heap[b]?=w.heap[b]?:=by
 have key:∀ b,ck_ R b≠0→ck_ S b≠0∨w.heap.size≤b:=fun b hb=>(hRb b hb).1.symm
 have hv:=hz.seen (F':=fun b=>F b∧ψ b=0) (fun b hb hc=>hb hc.2) (fun b _ hn hc=>hn hc.1)
 rw [hL] at hv
 refine ⟨ck_ R,?_,n2_ R,fun b hb => ?_,hg.os,hg.tape,hg.output,hg.size,fun b hb h0=>hg.heap b hb fun hc=>hc (by have:=eφ b;omega)⟩
 · refine .own .s t zs R vals (fun _=>0) [] _ (fun _=>0) _ (by decide) hR ?_ (fun b hb=>.inr hb) (.nil _ fun _=>rfl) (fun b=>rfl)
   refine hv.frame hg.size (fun b hb=>absurd rfl hb) fun b hb hn=>⟨hg.heap b hb fun hc=>hn ⟨hSF b hc,by have:=eφ b;have:=h1 b;omega⟩,fun hc => ?_⟩
   rcases hc with ⟨hf,h0⟩|hc
   · exact hn ⟨hf,by have:=eφ b;omega⟩
   · rcases key b hc with hs|hs
     · exact hn ⟨hSF b hs,by have:=eφ b;have:=h1 b;omega⟩
     · omega
 · rcases key b hb with hs|hs
   · exact .inl (by have:=eφ b;omega)
   · exact .inr hs
theorem RL.int_inv {k n l v vs φ} (h:RL E w F (.i k n::l) (v::vs) φ):v = .int k n∧RL E w F l vs φ:=by
 cases h with
 |scal _ _ _ _ _ h1 h2=>exact ⟨h1,h2⟩
theorem codedD [ak_] {m:M} {t:TC} (zs:List (El t)):∀ a ∈ aU_ m t zs,∃ m,a.coded m:=fun a ha=>⟨m,d1_ a ha⟩
theorem sJ_ [ak_] {f:FuncId} {t:TC} {m1 m2:M} (hm1:m1 ≠ .v) (hm2:m2 ≠ .v) (h:InsM E.P f (E.eid t) t.width t.bytes) {xs ys:List (El t)} {i:Nat} (hi:i≤xs.length) (hb:(xs.length+ys.length)*t.bytes≤140737488355328) :
  eF_ E f [.sl m1 t xs,.i .i64 i,.sl m2 t ys] (.sl (M.both m1 m2) t (xs.take i++ys++xs.drop i)) [] [.o,.v,.o]:=by
 intro w F Vs φ hrl h1 hlow _
 have low:∀ b,φ b≠0→F b∧b<w.heap.size:=hrl.low
 obtain ⟨S,_,rfl⟩:=hrl.len_inv
 replace hrl:=hrl.own_inv hm1
 obtain ⟨vals,φx,φ2,hS,hx,hSF,hrl,e1⟩:=hrl
 obtain ⟨I,_,rfl⟩:=hrl.len_inv
 replace hrl:=hrl.int_inv
 obtain ⟨rfl,hrl⟩:=hrl
 obtain ⟨U,_,rfl⟩:=hrl.len_inv
 replace hrl:=hrl.own_inv hm2
 obtain ⟨us,φy,φ4,hU,hy,hUF,hrl,e3⟩:=hrl
 obtain ⟨rfl,e4⟩:=RL.nil_inv hrl
 have eφ:∀ b,φ b=ck_ S b+φx b+(ck_ U b+φy b):=fun b=>by rw [e1,e3,e4];omega
 refine (h w S xs.length vals U ys.length us i hS hU (fun b hb=>by have:=h1 b;have:=eφ b;omega) hi (hx.one (codedD _)) (hy.one (codedD _)) hb).mono ?_
 rintro e' w' ⟨R,rfl,hR,hg,hRb⟩
 have hx':RL E w F (aU_ m1.sub t (xs.take i)++aU_ m1.sub t (xs.drop i)) vals φx:=by rw [←ct_,List.take_append_drop];exact hx
 obtain ⟨va,vb,φa,φb,rfl,ha,hb',e6⟩:=hx'.split
 have hla:va.length=i*t.width:=by rw [←ha.length,dy_,List.length_take,Nat.min_eq_left hi]
 rw [←hla,List.take_left,List.drop_left] at hR
 have hz:RL E w F (aU_ m1.sub t (xs.take i)++aU_ m2.sub t ys++aU_ m1.sub t (xs.drop i)) (va++us++vb) (fun b=>φa b+φy b+φb b) :=
  (ha.append hy (ψ:=fun b=>φa b+φy b) (fun b=>rfl)).append hb' (fun b=>rfl)
 have hl:(xs.take i++ys++xs.drop i).length=xs.length+ys.length:=by simp;omega
 have he:∀ b,ck_ S b+(φa b+φy b+φb b)≤φ b:=fun b=>by have:=eφ b;have:=e6 b;omega
 by_cases hd:m1 = .d∧m2 = .d
 · obtain ⟨rfl,rfl⟩:=hd
   have hz':RL E w F (aU_ .d t (xs.take i++ys++xs.drop i)) (va++us++vb) (fun b=>φa b+φy b+φb b):=by
    rw [ct_,ct_];exact hz
   obtain ⟨φ',k1,k2⟩:=rt_ (S:=S) (R:=R) h1 low hSF hz' he (by rw [hl];exact hR) hg hRb
   exact ⟨R,φ',rfl,k1,k2⟩
 · have hb2:M.both m1 m2 = .s:=by cases m1<;>cases m2<;>first|rfl|exact absurd rfl hm1|exact absurd rfl hm2|exact absurd ⟨rfl,rfl⟩ hd
   rw [hb2]
   obtain ⟨φ',k1,k2⟩:=m3_ (S:=S) (R:=R) (t:=t) (zs:=xs.take i++ys++xs.drop i) h1 low hSF hz (by rw [List.map_append,List.map_append,fV_,fV_,fV_,ct_,ct_]) he (by rw [hl];exact hR) hg hRb
   exact ⟨R,φ',rfl,k1,k2⟩
theorem s0_ [ak_] {f:FuncId} {t:TC} {m:M} (hm0:m ≠ .v) (h:DelM E.P f (E.eid t) t.width) {xs:List (El t)} {i j:Nat} (hij:i≤j) (hj:j≤xs.length) :
  eF_ E f [.sl m t xs,.i .i64 i,.i .i64 j] (.sl (M.both m m) t (xs.take i++xs.drop j)) [] [.o,.v,.v]:=by
 intro w F Vs φ hrl h1 hlow _
 have low:∀ b,φ b≠0→F b∧b<w.heap.size:=hrl.low
 obtain ⟨S,_,rfl⟩:=hrl.len_inv
 replace hrl:=hrl.own_inv hm0
 obtain ⟨vals,φx,φ2,hS,hx,hSF,hrl,e1⟩:=hrl
 obtain ⟨I,_,rfl⟩:=hrl.len_inv
 replace hrl:=hrl.int_inv
 obtain ⟨rfl,hrl⟩:=hrl
 obtain ⟨J,_,rfl⟩:=hrl.len_inv
 replace hrl:=hrl.int_inv
 obtain ⟨rfl,hrl⟩:=hrl
 obtain ⟨rfl,e4⟩:=RL.nil_inv hrl
 have eφ:∀ b,φ b=ck_ S b+φx b:=fun b=>by rw [e1,e4];omega
 refine (h w S xs.length vals i j hS hij hj (hx.one (codedD _))).mono ?_
 rintro e' w' ⟨R,rfl,hR,hg,hRb⟩
 have hx':RL E w F (aU_ m.sub t (xs.take i)++(aU_ m.sub t ((xs.drop i).take (j - i))++aU_ m.sub t (xs.drop j))) vals φx:=by
  rw [←ct_,←ct_]
  have:xs.drop j=(xs.drop i).drop (j - i):=by rw [List.drop_drop];congr 1;omega
  rw [this,List.take_append_drop,List.take_append_drop];exact hx
 obtain ⟨va,vc,φa,φc,rfl,ha,hc,e6⟩:=hx'.split
 obtain ⟨vm,vb,φm,φb,rfl,hm,hb',e7⟩:=hc.split
 have hla:va.length=i*t.width:=by rw [←ha.length,dy_,List.length_take,Nat.min_eq_left (by omega)]
 have hlm:vm.length=(j - i)*t.width:=by rw [←hm.length,dy_,List.length_take,List.length_drop,Nat.min_eq_left (by omega)]
 have hlj:(va++vm).length=j*t.width:=by rw [List.length_append,hla,hlm,←Nat.add_mul];congr 1;omega
 rw [←hla,List.take_left,←hlj,←List.append_assoc,List.drop_left] at hR
 have hz:RL E w F (aU_ m.sub t (xs.take i)++aU_ m.sub t (xs.drop j)) (va++vb) (fun b=>φa b+φb b):=ha.append hb' (fun b=>rfl)
 have hl:(xs.take i++xs.drop j).length=xs.length - (j - i):=by simp;omega
 have he:∀ b,ck_ S b+(φa b+φb b)≤φ b:=fun b=>by have:=eφ b;have:=e6 b;have:=e7 b;omega
 cases m with
 |v=>exact absurd rfl hm0
 |d=>
  have hz':RL E w F (aU_ .d t (xs.take i++xs.drop j)) (va++vb) (fun b=>φa b+φb b):=by
   rw [ct_];exact hz
  obtain ⟨φ',k1,k2⟩:=rt_ (S:=S) (R:=R) h1 low hSF hz' he (by rw [hl];exact hR) hg hRb
  exact ⟨R,φ',rfl,k1,k2⟩
 |s=>
  obtain ⟨φ',k1,k2⟩:=m3_ (S:=S) (R:=R) (t:=t) (zs:=xs.take i++xs.drop j) h1 low hSF hz (by rw [List.map_append,fV_,fV_,ct_]) he (by rw [hl];exact hR) hg hRb
  exact ⟨R,φ',rfl,k1,k2⟩
theorem qv_ [ak_] {f:FuncId} {t:TC} {m:M} (hm0:m ≠ .v) (h:DelM E.P f (E.eid t) t.width) {xs r:List (El t)} {i j:Int} (hr:ij_ xs i j=some r) :
  eF_ E f [.sl m t xs,.i .i64 i,.i .i64 j] (.sl (M.both m m) t r) [] [.o,.v,.v]:=by
 unfold ij_ at hr
 by_cases hc:0≤i∧i≤j∧j≤(xs.length:Int)
 · obtain ⟨h1,h2,h3⟩:=hc
   obtain ⟨i,rfl⟩:=Int.eq_ofNat_of_zero_le h1
   obtain ⟨j,rfl⟩:=Int.eq_ofNat_of_zero_le (Int.le_trans h1 h2)
   simp only [h1,h2,h3,decide_true,Bool.and_true,cond_true,Option.some.injEq] at hr
   subst hr
   exact s0_ hm0 h (by omega) (by omega)
 · have:(decide (0≤i)&&(decide (i≤j)&&decide (j≤(xs.length:Int))))=false:=by
    rw [Bool.eq_false_iff];intro h;simp only [Bool.and_eq_true,decide_eq_true_eq] at h;exact hc h
   rw [this] at hr;cases hr
theorem qu_ [ak_] {f:FuncId} {t:TC} {m1 m2:M} (hm1:m1 ≠ .v) (hm2:m2 ≠ .v) (h:InsM E.P f (E.eid t) t.width t.bytes) {xs ys r:List (El t)} {i:Int} (hr:g6_ t.bytes xs i ys=some r) :
  eF_ E f [.sl m1 t xs,.i .i64 i,.sl m2 t ys] (.sl (M.both m1 m2) t r) [] [.o,.v,.o]:=by
 unfold g6_ at hr
 by_cases hc:0≤i∧i≤(xs.length:Int)
 · obtain ⟨h1,h2⟩:=hc
   obtain ⟨i,rfl⟩:=Int.eq_ofNat_of_zero_le h1
   by_cases hb:(xs.length+ys.length)*t.bytes≤140737488355328
   · simp only [h1,h2,hb,decide_true,Bool.and_true,cond_true,Option.some.injEq] at hr
     subst hr
     exact sJ_ hm1 hm2 h (by omega) hb
   · simp [h1,h2,hb] at hr
 · have:(decide (0≤i)&&decide (i≤(xs.length:Int)))=false:=by
    rw [Bool.eq_false_iff];intro h;simp only [Bool.and_eq_true,decide_eq_true_eq] at h;exact hc h
   rw [this] at hr;cases hr
end Go.Pi
end
section
namespace Go.Proofs
open Go.Shelf Go.RowKit Go.Lib Go.Pi
section
variable {P:Program}
theorem gb_ {ops:Array Oper} {o:Oper} {a:Act} {w:World} {K:Act→World→Prop} {Q:Exit→Act→World→Prop} {E:Prop}
  (hg:o.guard=none) (d x:Operand) (dT sT:TypeId) (hop:o.op=Op.call { callee:=Callee.builtin Builtin.append,args:=#[d,x],argTypes:=#[dT,sT] })
  (v u:Value) (hd:a.eval d=v) (hx:a.eval x=u) {v':Value} {w':World} (hr:(Builtin.append_ #[dT,sT] o.type #[v,u]).run P w = .ok v' w') (hK:K (a.put o.dst v') w') :
  if Region.wanted o (yielded ops a.tmps)=true then Oper.wp P o a w K Q else E:=by
 have hw:Region.wanted o (yielded ops a.tmps)=true:=by simp [Region.wanted,hg]
 rw [if_pos hw]
 unfold Oper.wp
 simp [execOp,hop,resolve,invoke,builtin,hd,hx,hr,Result.andThen]
 exact hK
theorem sn_ (w:World) {ops:Array Oper} {iX_:List Oper} {o:Oper} {a:Act} {Q:Exit→Act→World→Prop} (hgd:o.guard=none) (d:Operand) (t:TypeId)
  (ho:o.op = .call { callee:=.builtin .clear,args:=#[d],argTypes:=#[t] }) (v:Value) (hd:a.eval d=v) {v':Value} {w':World}
  (hr:(Builtin.clear_ #[t] o.type #[v]).run P w = .ok v' w') (h:wpList P ops Q iX_ (a.put o.dst v') w'):wpList P ops Q (o::iX_) a w :=
 wpList_plain hgd fun _ hK=>by
  unfold Oper.wp execOp
  simp only [ho,resolve,invoke,builtin,Sem.run_bind,Sem.run_pure,Result.andThen_ok,List.map_toArray,List.map_cons,List.map_nil,hd,hr]
  exact hK _ _ h
theorem jh_ (w:World) (t e ty:TypeId) (z:Value) (ht:P.underlying t=some (.slice e)) (hv:∀ w,(zeroValue e).run P w = .ok z w) (g o n c:Nat) (hn:0<n) (cur:Array Value) (T:TypeId) (hg:w.heap[g]?=some (.cells cur T (0,0)))
  (hfit:o+(Builtin.zeroCells z.cells n).toList.length≤cur.size) (h1:∀ v ∈ (Builtin.zeroCells z.cells n).toList,v.oneCell'=true) :
  (Builtin.clear_ #[t] ty #[.slice (some ⟨g,o,none⟩) n c]).run P w = .ok (.tuple #[]) (w.setRow g (cur.toList.take o++(Builtin.zeroCells z.cells n).toList++cur.toList.drop (o+(Builtin.zeroCells z.cells n).toList.length)).toArray):=by
 have hst:=run_storeCells_at P g o T (Builtin.zeroCells z.cells n).toList 0 cur w hg (by simpa using hfit) h1
 obtain ⟨m,rfl⟩:∃ m,n=m+1:=⟨n - 1,by omega⟩
 simp only [Builtin.clear_,run_underlying ht,Sem.run_bind,Result.andThen_ok,hv]
 simp only [List.getElem?_toArray,List.getElem?_cons_zero,Sem.run_bind,run_underlying ht,Result.andThen_ok,hv,hst,Nat.add_zero,Sem.run_pure]
end
theorem f9_ (w:World) {P:Program} {ops:Array Oper} {iX_:List Oper} {o:Oper} {a:Act} {Q:Exit→Act→World→Prop} (hgd:o.guard=none) (d s:Operand) (t t':TypeId)
  (ho:o.op = .call { callee:=.builtin .copy,args:=#[d,s],argTypes:=#[t,t'] }) (v u:Value) (hd:a.eval d=v) (hs:a.eval s=u) {v':Value} {w':World}
  (hr:(Builtin.copy_ #[t,t'] o.type #[v,u]).run P w = .ok v' w') (h:wpList P ops Q iX_ (a.put o.dst v') w'):wpList P ops Q (o::iX_) a w :=
 wpList_plain hgd fun _ hK=>by
  unfold Oper.wp execOp
  simp only [ho,resolve,invoke,builtin,Sem.run_bind,Sem.run_pure,Result.andThen_ok,List.map_toArray,List.map_cons,List.map_nil,hd,hs,hr]
  exact hK _ _ h
theorem eG_ {P:Program} {ops:Array Oper} {o:Oper} {a:Act} {w:World} {K:Act→World→Prop} {Q:Exit→Act→World→Prop} {E:Prop}
  (hg:o.guard=none) (d x:Operand) (dT sT:TypeId) (hop:o.op=Op.call { callee:=Callee.builtin Builtin.copy,args:=#[d,x],argTypes:=#[dT,sT] })
  (v u:Value) (hd:a.eval d=v) (hx:a.eval x=u) {v':Value} {w':World} (hr:(Builtin.copy_ #[dT,sT] o.type #[v,u]).run P w = .ok v' w') (hK:K (a.put o.dst v') w') :
  if Region.wanted o (yielded ops a.tmps)=true then Oper.wp P o a w K Q else E:=by
 have hw:Region.wanted o (yielded ops a.tmps)=true:=by simp [Region.wanted,hg]
 rw [if_pos hw]
 unfold Oper.wp
 simp [execOp,hop,resolve,invoke,builtin,hd,hx,hr,Result.andThen]
 exact hK
theorem cW_ {P:Program} (w:World) (dT sT ty elem:TypeId) (k:Nat) (g o dLen dCap:Nat) (a:Addr) (sLen sCap:Nat) (cur:Array Value) (t:TypeId) (cs:List Value)
  (hu:P.underlying dT=some (.slice elem)) (hs:(P.info? elem).map (·.size)=some k)
  (hg:w.heap[g]?=some (.cells cur t (0,0))) (hn:cs.length=Nat.min sLen dLen*k)
  (hsrc:∀ j v,cs[j]?=some v→w.cell? (a.add j)=some v) (hfit:o+cs.length≤cur.size) (h1:∀ v ∈ cs,v.oneCell'=true) :
  (Builtin.copy_ #[dT,sT] ty #[.slice (some ⟨g,o,none⟩) dLen dCap,.slice (some a) sLen sCap]).run P w =
   .ok (goInt (Nat.min sLen dLen)) (w.setRow g (cur.toList.take o++cs++cur.toList.drop (o+cs.length)).toArray):=by
 have hl:=run_loadCells_list (P:=P) w a cs hsrc
 have hst:=run_storeCells_at P g o t cs 0 cur w hg (by simpa using hfit) h1
 cases hq:P.info? elem with
 |none=>simp [hq] at hs
 |some i=>
  have hi:i.size=k:=by simpa [hq] using hs
  simp [Builtin.copy_,run_underlying hu,Builtin.lenOf,Builtin.firstCells,sizeOf,typeInfo,hq,hi,←hn,hl,hst]
theorem zc_one (cs:Array Value) (h:cs.toList.all Value.oneCell'=true) (n:Nat):∀ v ∈ (Builtin.zeroCells cs n).toList,v.oneCell'=true:=by
 intro v hv
 simp only [Builtin.zeroCells,Array.toList_map,List.mem_map,Array.toList_range,List.mem_range] at hv
 obtain ⟨x,hx,rfl⟩:=hv
 have h0:0<cs.size:=Nat.pos_of_mul_pos_left (by omega:0<n*cs.size)
 have:x % cs.size<cs.size:=Nat.mod_lt _ h0
 rw [getElem!_pos cs _ this]
 exact List.all_eq_true.1 h _ (by simp)
theorem kb_ {w:World} {e:TypeId} {K:Nat} {S:Value} {n:Nat} {vals:List Value} (h:w.ownsRow 0 e K S n vals):∀ b,ck_ S b≠0→b<w.heap.size:=by
 intro b hb
 rcases h.2 with ⟨rfl,_⟩|⟨g,cap,cur,rfl,_,hg,_⟩
 · simp [ck_] at hb
 · have:g=b:=by simp only [ck_] at hb;exact Classical.byContradiction fun h=>hb (if_neg h)
   subst this
   exact (Array.getElem?_eq_some_iff.1 hg).1
theorem hk_ (w:World) (g:Nat) (A:Array Value):w.heap.size≤(w.drew.setRow g A).heap.size:=by
 have:(w.drew.setRow g A).heap.size=w.drew.heap.size:=by simp [World.setRow]
 rw [this];exact Nat.le_refl _
theorem d8_ {w:World} {e:TypeId} {v:Value} {n:Nat} {xs:List Value}:w.ownsRow 0 e 1 v n xs ↔
  (xs.length=n∧(v = .slice none 0 0∧n=0∨∃ g cap cur,v = .slice (some ⟨g,0,none⟩) n cap∧0≤g∧w.heap[g]?=some (.cells cur e (0,0))∧n≤cap∧cap≤maxLen∧cur.size=cap∧cur.toList.take n=xs)):=by
 unfold World.ownsRow
 simp only [Nat.mul_one]
end Go.Proofs
end
section
namespace Go.Proofs
open Go.Shelf Go.RowKit Go.Lib Go.Pi
set_option maxRecDepth 1000000 in
theorem Delete78 (w:World) (g n c i j:Nat) (cur:Array Value) (hg:w.heap[g]?=some (.cells cur 119 (0,0))) (hs:cur.size=c*6) (hn:n≤c) (hc:c≤9223372036854775807) (hij:i<j) (hj:j≤n)
  (h1:∀ v ∈ cur.toList.take (n*6),v.oneCell'=true) :
  Calls Tryz.prog 78 #[.slice (some ⟨g,0,none⟩) n c,.int .i64 i,.int .i64 j] w fun e w'=>e = .returned (.slice (some ⟨g,0,none⟩) (n - (j - i)) c) ∧
   ∃ A,w'=w.drew.setRow g A∧A.size=cur.size∧A.toList.take ((n - (j - i))*6)=(cur.toList.take (n*6)).take (i*6)++(cur.toList.take (n*6)).drop (j*6):=by
 have hic:i≤c:=by omega
 have hjc:j≤c:=by omega
 obtain ⟨news,hnews⟩:∃ news,news=(cur.toList.take (n*6)).drop (j*6):=⟨_,rfl⟩
 have hlen:news.length=(n - j)*6:=by rw [hnews,List.length_drop,List.length_take,Array.length_toList,hs];omega
 have hgd:w.drew.heap[g]?=some (.cells cur 119 (0,0)):=hg
 obtain ⟨A,hA,hsrc⟩:∃ A:Addr,(if c=j then some (⟨g,0,none⟩:Addr) else some ⟨g,j*6,none⟩)=some A∧Hid (∀ t u,news[t]?=some u→w.drew.cell? (A.add t)=some u):=by
  by_cases h:c=j
  · refine ⟨⟨g,0,none⟩,by simp [h],fun t u hu => ?_⟩
    have h0:news.length=0:=by rw [hlen];omega
    rw [List.length_eq_zero_iff.1 h0] at hu
    simp at hu
  · refine ⟨⟨g,j*6,none⟩,by simp [h],fun t u hu => ?_⟩
    have ht:=(List.getElem?_eq_some_iff.1 hu).1
    rw [hlen] at ht
    rw [hnews,List.getElem?_drop,List.getElem?_take_of_lt (by omega),Array.getElem?_toList] at hu
    rw [Addr.add_lit]
    simp only [World.cell?,hgd]
    exact hu
 obtain ⟨i0,hi0⟩:=Option.isSome_iff_exists.1 (show (Tryz.prog.info? 119).isSome=true by kernel_rfl)
 have hz0:i0.size=6:=by
  have:(Tryz.prog.info? 119).map (·.size)=some 6:=by kernel_rfl
  rw [hi0] at this
  simpa using this
 have hr1:∀ ty,(Builtin.append_ #[114,114] ty #[.slice (some ⟨g,0,none⟩) i c,.slice (some A) (n - j) (c - j)]).run Tryz.prog w.drew = .ok (.slice (some ⟨g,0,none⟩) (i+(n - j)) c) (w.drew.setRow g (cur.toList.take (i*6)++news++cur.toList.drop (i*6+news.length)).toArray):=fun ty=>by
  have:=run_append_room (P:=Tryz.prog) w.drew 114 ty 119 i0 Tryz.underlying114 hi0 g i c cur hgd A (n - j) (c - j) news (by rw [hlen,hz0];try rw [Nat.mul_one]) hsrc.out (fun u hu=>h1 u (by rw [hnews] at hu;exact List.mem_of_mem_drop hu)) (by omega) (by rw [hz0,hlen,hs];omega)
  rw [hz0] at this
  first|exact this|(rw [Nat.mul_one] at this;exact this)
 obtain ⟨B,hB⟩:∃ B,B=(cur.toList.take (i*6)++news++cur.toList.drop (i*6+news.length)).toArray:=⟨_,rfl⟩
 have hBs:B.size=cur.size:=by rw [hB];simp [hlen,hs];omega
 have hBt:B.toList.take ((i+(n - j))*6)=(cur.toList.take (n*6)).take (i*6)++news:=by
  rw [hB]
  simp only [List.toList_toArray]
  rw [List.take_append_of_le_length (by simp [hlen,hs];omega),List.take_of_length_le (by simp [hlen,hs];omega),List.take_take,Nat.min_eq_left (by omega)]
 have hgB:(w.drew.setRow g B).heap[g]?=some (.cells B 119 (0,0)):=setRow_heap _ _ _ _ _ _ hgd
 obtain ⟨Z,hZ⟩:∃ Z,Z=(Builtin.zeroCells (Value.agg #[.int .i64 0,.int .i64 0,.int .i64 0,.string ByteArray.empty,.slice none 0 0,.slice none 0 0]).cells (n - (i+(n - j)))).toList:=⟨_,rfl⟩
 have hZl:Z.length=(n - (i+(n - j)))*6:=by rw [hZ];simp [Builtin.zeroCells,Value.cells]
 have hcl:∀ ty,(Builtin.clear_ #[114] ty #[.slice (some ⟨g,(i+(n - j))*6,none⟩) (n - (i+(n - j))) (c - (i+(n - j)))]).run Tryz.prog (w.drew.setRow g B) = .ok (.tuple #[]) ((w.drew.setRow g B).setRow g (B.toList.take ((i+(n - j))*6)++Z++B.toList.drop ((i+(n - j))*6+Z.length)).toArray):=fun ty=>by
  rw [hZ]
  refine jh_ _ 114 119 ty _ Tryz.underlying114 Tryz.zeroValue119 g _ _ _ (by omega) B 119 hgB (by
   have e:=hZl
   rw [hZ] at e
   exact Nat.le_trans (Nat.le_of_eq (congrArg (fun q=>(i+(n - j))*6+q) e)) (by first|(rw [hBs,hs,←Nat.add_mul];exact Nat.mul_le_mul_right _ (by omega))|(rw [hBs,hs];omega))) (fun v hv => ?_)
  exact zc_one _ (by kernel_rfl) _ v hv
 rw [←hB] at hr1
 obtain ⟨Z',hZ'⟩:∃ Z',Z'=(B.toList.take ((i+(n - j))*6)++Z++B.toList.drop ((i+(n - j))*6+Z.length)).toArray:=⟨_,rfl⟩
 have kZ:Hid (Z'.size=cur.size∧Z'.toList.take ((i+(n - j))*6)=(cur.toList.take (n*6)).take (i*6)++(cur.toList.take (n*6)).drop (j*6)):=by
  refine ⟨by rw [hZ'];simp [hZl,hBs,hs];omega,?_⟩
  rw [hZ',←hnews,←hBt]
  simp only [List.toList_toArray,List.append_assoc]
  rw [List.take_append_of_le_length (by simp [hBs,hs];omega),List.take_take,Nat.min_self]
 rw [←hZ'] at hcl
 clear hsrc h1 hB hBs hBt hgB hZ hZl hZ' hnews hlen hgd hg
 have hw1:¬ ((i:Int)=(j:Int)):=by omega
 have mixed:Tryz.prog.follows .mixedOrders=true:=by kernel_rfl
 go_enter Tryz.func78,Tryz.ntmps78
 go_wp2_with fail
 go_region_law_o (refine gb_ rfl (.tmp 22) (.tmp 25) 114 114 rfl _ _ (by simp [Act.eval,Act.put]) (by simp [Act.eval,Act.put,hA]) (hr1 _) ?_)
 go_wp2_with fail
 go_ret
 exact ⟨by rw [show n - (j - i)=i+(n - j) by omega];rfl,Z',by rw [setRow_setRow],kZ.out.1,by rw [show n - (j - i)=i+(n - j) by omega];exact kZ.out.2⟩
set_option maxRecDepth 1000000 in
theorem DelNone78 (w:World) (S:Value) (n i:Nat) (vals:List Value) (hS:w.ownsRow 0 119 6 S n vals) (hi:i≤n) :
  Calls Tryz.prog 78 #[S,.int .i64 i,.int .i64 i] w fun e w'=>e = .returned S∧w'=w:=by
 rcases hS.2 with ⟨rfl,rfl⟩|⟨g,c,cur,rfl,-,hg,hnc,hcm,hcs,htake⟩
 · have hi0:i=0:=by omega
   subst hi0
   clear hS
   go_enter Tryz.func78,Tryz.ntmps78
   go_wp2_with fail
   all_goals (go_ret;exact ⟨rfl,rfl⟩)
 · unfold maxLen at hcm
   have hic:i≤c:=by omega
   clear hS hg hcs htake
   go_enter Tryz.func78,Tryz.ntmps78
   go_wp2_with fail
   all_goals (go_ret;exact ⟨rfl,rfl⟩)
theorem delM78:DelM Tryz.prog 78 119 6:=by
 intro w S n vals i j hS hij hj h1
 by_cases e:i=j
 · subst e
   refine (DelNone78 w S n i vals hS hj).mono ?_
   rintro e w' ⟨rfl,rfl⟩
   refine ⟨S,rfl,by rw [Nat.sub_self,Nat.sub_zero,List.take_append_drop];exact hS,⟨rfl,rfl,rfl,Nat.le_refl _,fun _ _ _=>rfl⟩,fun b hb=>⟨.inr hb,kb_ hS b hb⟩⟩
 · rcases hS.2 with ⟨rfl,rfl⟩|⟨g,c,cur,rfl,-,hg,hnc,hcm,hcs,htake⟩
   · omega
   · refine (Delete78 w g n c i j cur hg hcs hnc (by unfold maxLen at hcm;omega) (by omega) hj (by rw [htake];exact h1)).mono ?_
     rintro e w' ⟨rfl,A,rfl,hA,ht⟩
     rw [htake] at ht
     have hgd:w.drew.heap[g]?=some (.cells cur 119 (0,0)):=hg
     have hA2:=setRow_heap w.drew g cur A _ _ hgd
     refine ⟨_,rfl,⟨by rw [←ht];simp [hA,hcs];omega,.inr ⟨g,c,A,rfl,Nat.zero_le _,hA2,by omega,hcm,by rw [hA,hcs],ht⟩⟩,⟨rfl,rfl,rfl,hk_ w g A,fun b _ hn => ?_⟩,fun b hb=>⟨.inr hb,?_⟩⟩
     · rw [setRow_other _ _ _ _ (fun e=>hn (by subst e;simp [ck_]))];rfl
     · have:g=b:=by simp only [ck_] at hb;exact Classical.byContradiction fun h=>hb (if_neg h)
       subst this
       exact (Array.getElem?_eq_some_iff.1 hA2).1
end Go.Proofs
namespace Go.Pi
open Go.Proofs
theorem b7_.ok (n:Nat):b7_.e.Oks E (cx n) n:=fun _ _ _ _ h=>qv_ (t:=.ikeyed) (m:=.s) (by decide) delM78 h
end Go.Pi
end
section
namespace Go.Proofs
open Go.Shelf Go.RowKit Go.Lib Go.Pi
section
variable {P:Program}
theorem insGrow79 (TS TE:TypeId) (TI:TypeId) (Z:Value) (i0:TypeInfo) (uS:P.underlying TS=some (.slice TE)) (uI:P.underlying TI=some (.int .i64)) (hi0:P.info? TE=some i0) (hz2:i0.zero=some Z) (hz0:i0.size=6) (hz1:i0.bytes=88) (hZK:Z.cells.size=6)
  (w:World) (g n c i:Nat) (cur:Array Value) (hg:w.heap[g]?=some (.cells cur TE (0,0))) (hs:cur.size=c*6) (hnc:n≤c) (hi:i<n)
  (gv m vc:Nat) (curv:Array Value) (Tv:TypeId) (hgv:w.heap[gv]?=some (.cells curv Tv (0,0))) (hmv:m*6≤curv.size) (us:List Value) (hul:us=curv.toList.take (m*6)) (h1u:∀ v ∈ us,v.oneCell'=true) (hm:0<m) (hroom:c<n+m)
  (hbig:(n+m)*88≤140737488355328) (h1:∀ v ∈ cur.toList.take (n*6),v.oneCell'=true) :
  ∃ G N W1 R1 W2 A,Hid (N=w.heap.size)∧n+m≤G∧G≤maxLen ∧
    (∀ ty,(Builtin.append_ #[TS,TI] ty #[.slice (some ⟨g,0,none⟩) i c,.int .i64 ((n:Int)+(m:Int) - (i:Int))]).run P w = .ok (.slice (some ⟨N,0,none⟩) (n+m) G) W1) ∧
    (∀ ty dc,(Builtin.copy_ #[TS,TS] ty #[.slice (some ⟨N,i*6,none⟩) (n+m - i) dc,.slice (some ⟨gv,0,none⟩) m vc]).run P W1 = .ok (goInt m) (W1.setRow N R1)) ∧
    (W1.setRow N R1).drew=W2 ∧
    (∀ ty dc sc,(Builtin.copy_ #[TS,TS] ty #[.slice (some ⟨N,(i+m)*6,none⟩) (n+m - (i+m)) dc,.slice (some ⟨g,i*6,none⟩) (n - i) sc]).run P W2 = .ok (goInt (n - i)) (W2.setRow N A)) ∧
    Hid (n+m≤G∧G≤maxLen∧(W2.setRow N A).heap[w.heap.size]?=some (.cells A TE (0,0))∧A.size=G*6∧A.toList.take ((n+m)*6)=(cur.toList.take (n*6)).take (i*6)++us++(cur.toList.take (n*6)).drop (i*6)∧w.grownBy (W2.setRow N A) none):=by
 have hul2:us.length=m*6:=by rw [hul,List.length_take,Array.length_toList];omega
 have hsz:(P.info? TE).map (·.size)=some 6:=by rw [hi0];simp [hz0]
 have hgd:w.drew.heap[g]?=some (.cells cur TE (0,0)):=hg
 have hgl:g<w.heap.size:=(Array.getElem?_eq_some_iff.1 hg).1
 have hgvl:gv<w.heap.size:=(Array.getElem?_eq_some_iff.1 hgv).1
 obtain ⟨olds,holds⟩:∃ olds,olds=(cur.toList.take (n*6)).take (i*6):=⟨_,rfl⟩
 have hol:olds.length=i*6:=by rw [holds];simp [hs];omega
 obtain ⟨G,hG⟩:∃ G,G=grownCap w (n+m) c TE:=⟨_,rfl⟩
 have hGn:n+m≤G:=by rw [hG];exact grownCap_ge w _ _ _
 have hGm:G≤maxLen:=by rw [hG];exact grownCap_le_maxLen w (n+m) c TE (by unfold maxLen;omega)
 obtain ⟨ROW,hROW⟩:∃ ROW:Array Value,ROW=olds.toArray++Builtin.zeroCells Z.cells (n+m - i)++Builtin.zeroCells Z.cells (G - (n+m)):=⟨_,rfl⟩
 have hRl:ROW.size=G*6:=by rw [hROW];simp [Builtin.zeroCells,hol,hZK];omega
 have hRt:ROW.toList.take (i*6)=olds:=by
  rw [hROW];simp only [Array.toList_append,List.append_assoc]
  rw [List.take_append_of_le_length (by simp [hol]),List.take_of_length_le (by simp [hol])]
 have hkk:(n:Int)+(m:Int) - (i:Int)=((n+m - i:Nat):Int):=by omega
 have hrz:∀ ty,(Builtin.append_ #[TS,TI] ty #[.slice (some ⟨g,0,none⟩) i c,.int .i64 ((n:Int)+(m:Int) - (i:Int))]).run P w =
   .ok (.slice (some ⟨w.heap.size,0,none⟩) (n+m) G) (w.drew.alloc (.cells ROW TE)):=fun ty=>by
  have h:=Lib.run_append_grow_zeros (P:=P) w TS TI ty TE i0 _ .i64 .i64 uS uI hi0 hz2 (some ⟨g,0,none⟩) i c olds (by
   rw [hz0]
   exact run_firstCells_some w.drew 6 i ⟨g,0,none⟩ i c olds hol (fun j v hj=>by
    have hj2:=(List.getElem?_eq_some_iff.1 hj).1
    rw [holds,List.getElem?_take_of_lt (by omega),List.getElem?_take_of_lt (by omega),Array.getElem?_toList] at hj
    rw [Addr.add_lit,Nat.zero_add]
    simp only [World.cell?,hgd]
    exact hj)) (n+m - i) (by omega) (by omega) (by omega) (by omega) (by rw [hz1];omega) (by rw [hz1,show i+(n+m - i)=n+m by omega];exact growslice_fits hroom hbig)
  rw [show i+(n+m - i)=n+m by omega,←hG,←hROW] at h
  rw [hkk]
  exact h
 obtain ⟨N,hN⟩:∃ N,N=w.heap.size:=⟨_,rfl⟩
 rw [←hN] at hrz
 obtain ⟨W1,hW1⟩:∃ W1,W1=w.drew.alloc (.cells ROW TE):=⟨_,rfl⟩
 rw [←hW1] at hrz
 have hN1:W1.heap[N]?=some (.cells ROW TE (0,0)):=by rw [hW1,hN];exact heap_alloc_new w.drew _
 have hold:∀ b,b<w.heap.size→W1.heap[b]?=w.heap[b]?:=fun b hb=>by rw [hW1];exact heap_alloc_old w.drew _ hb
 have hgr1:w.grownBy W1 none:=by rw [hW1];exact ⟨rfl,rfl,rfl,by simp,fun k hk _=>heap_alloc_old w.drew _ hk⟩
 obtain ⟨R1,hR1⟩:∃ R1,R1=(ROW.toList.take (i*6)++us++ROW.toList.drop (i*6+us.length)).toArray:=⟨_,rfl⟩
 have hR1s:R1.size=G*6:=by rw [hR1];simp [hul2,hRl];omega
 have hcp1:∀ ty dc,(Builtin.copy_ #[TS,TS] ty #[.slice (some ⟨N,i*6,none⟩) (n+m - i) dc,.slice (some ⟨gv,0,none⟩) m vc]).run P W1 = .ok (goInt m) (W1.setRow N R1):=fun ty dc=>by
  have:=cW_ (P:=P) W1 TS TS ty TE 6 N (i*6) (n+m - i) dc ⟨gv,0,none⟩ m vc ROW TE us uS hsz hN1 (by rw [hul2];simp only [Nat.min_def];split<;>omega)
   (fun j v hj=>by
     have hj2:=(List.getElem?_eq_some_iff.1 hj).1
     rw [hul,List.getElem?_take_of_lt (by omega),Array.getElem?_toList] at hj
     rw [Addr.add_lit,Nat.zero_add]
     simp only [World.cell?,hold gv hgvl,hgv]
     exact hj) (by rw [hul2,hRl];omega) h1u
  rw [this,hR1]
  congr 2
  simp only [Nat.min_def];split<;>omega
 obtain ⟨W2,hW2⟩:∃ W2,W2=(W1.setRow N R1).drew:=⟨_,rfl⟩
 have hN2:W2.heap[N]?=some (.cells R1 TE (0,0)):=by rw [hW2];exact setRow_heap _ _ _ _ _ _ hN1
 have hg2:W2.heap[g]?=some (.cells cur TE (0,0)):=by
  rw [hW2];show (W1.setRow N R1).heap[g]?=_
  rw [setRow_other _ _ _ _ (by omega),hold g hgl];exact hg
 obtain ⟨mv,hmv2⟩:∃ mv,mv=(cur.toList.take (n*6)).drop (i*6):=⟨_,rfl⟩
 have hml:mv.length=(n - i)*6:=by rw [hmv2];simp [hs];omega
 obtain ⟨A,hA⟩:∃ A,A=(R1.toList.take ((i+m)*6)++mv++R1.toList.drop ((i+m)*6+mv.length)).toArray:=⟨_,rfl⟩
 have hcp2:∀ ty dc sc,(Builtin.copy_ #[TS,TS] ty #[.slice (some ⟨N,(i+m)*6,none⟩) (n+m - (i+m)) dc,.slice (some ⟨g,i*6,none⟩) (n - i) sc]).run P W2 = .ok (goInt (n - i)) (W2.setRow N A):=fun ty dc sc=>by
  have:=cW_ (P:=P) W2 TS TS ty TE 6 N ((i+m)*6) (n+m - (i+m)) dc ⟨g,i*6,none⟩ (n - i) sc R1 TE mv uS hsz hN2 (by rw [hml];simp only [Nat.min_def];split<;>omega)
   (fun j v hj=>by
     have hj2:=(List.getElem?_eq_some_iff.1 hj).1
     rw [hmv2,List.getElem?_drop,List.getElem?_take_of_lt (by omega),Array.getElem?_toList] at hj
     rw [Addr.add_lit]
     simp only [World.cell?,hg2]
     exact hj) (by rw [hml,hR1s];omega) (fun v hv=>h1 v (by rw [hmv2] at hv;exact List.mem_of_mem_drop hv))
  rw [this,hA]
  congr 2
  simp only [Nat.min_def];split<;>omega
 have kA:Hid (n+m≤G∧G≤maxLen∧(W2.setRow N A).heap[w.heap.size]?=some (.cells A TE (0,0))∧A.size=G*6∧A.toList.take ((n+m)*6)=(cur.toList.take (n*6)).take (i*6)++us++(cur.toList.take (n*6)).drop (i*6)∧w.grownBy (W2.setRow N A) none):=by
  refine ⟨hGn,hGm,by rw [←hN];exact setRow_heap _ _ _ _ _ _ hN2,by rw [hA];simp [hml,hR1s];omega,?_,?_⟩
  · have e1:R1.toList.take ((i+m)*6)=olds++us:=by
     rw [hR1];simp only [List.toList_toArray]
     rw [List.take_append_of_le_length (by simp [hul2,hRl];omega),List.take_of_length_le (by simp [hul2,hRl];omega),hRt]
    rw [hA];simp only [List.toList_toArray]
    rw [e1,List.take_append_of_le_length (by simp [hol,hul2,hml];omega),List.take_of_length_le (by simp [hol,hul2,hml];omega),holds,hmv2]
  · refine ⟨by rw [hW2];exact hgr1.os,by rw [hW2];exact hgr1.tape,by rw [hW2];exact hgr1.output,?_,fun k hk hne => ?_⟩
    · have:(W2.setRow N A).heap.size=W1.heap.size:=by rw [hW2];simp [World.setRow,World.drew]
      rw [this];exact hgr1.size
    · rw [setRow_other _ _ _ _ (by omega),hW2]
      show (W1.setRow N R1).heap[k]?=_
      rw [setRow_other _ _ _ _ (by omega)];exact hold k hk
 exact ⟨G,N,W1,R1,W2,A,hN,hGn,hGm,hrz,hcp1,hW2.symm,hcp2,kA⟩
end
set_option maxRecDepth 1000000 in
theorem InsEnd79 (w:World) (S:Value) (n:Nat) (vals:List Value) (hS:w.ownsRow 0 119 6 S n vals) (gv m vc:Nat) (us:List Value) (hul:us.length=m*6) (hus:∀ j u,us[j]?=some u→w.cell? ⟨gv,j,none⟩=some u) (h1u:∀ v ∈ us,v.oneCell'=true) (hm:0<m) (hb:(n+m)*88≤140737488355328) :
  Calls Tryz.prog 79 #[S,.int .i64 n,.slice (some ⟨gv,0,none⟩) m vc] w fun e w'=>∃ R,e = .returned R∧w'.ownsRow 0 119 6 R (n+m) (vals++us)∧jp_ w w' (fun b=>ck_ S b≠0) ∧
   ∀ b,ck_ R b≠0→(w.heap.size≤b∨ck_ S b≠0)∧b<w'.heap.size:=by
 obtain ⟨i0,hi0⟩:=Option.isSome_iff_exists.1 (show (Tryz.prog.info? 119).isSome=true by kernel_rfl)
 have hz0:i0.size=6:=by
  have:(Tryz.prog.info? 119).map (·.size)=some 6:=by kernel_rfl
  rw [hi0] at this;simpa using this
 have hz1:i0.bytes=88:=by
  have:(Tryz.prog.info? 119).map (·.bytes)=some 88:=by kernel_rfl
  rw [hi0] at this;simpa using this
 have hz2:i0.zero=some (.agg #[.int .i64 0,.int .i64 0,.int .i64 0,.string ByteArray.empty,.slice none 0 0,.slice none 0 0]):=by
  have:(Tryz.prog.info? 119).bind (·.zero)=some (.agg #[.int .i64 0,.int .i64 0,.int .i64 0,.string ByteArray.empty,.slice none 0 0,.slice none 0 0]):=by kernel_rfl
  rw [hi0] at this;simpa using this
 have hz3:¬ ((m:Int)=0):=by omega
 have mixed:Tryz.prog.follows .mixedOrders=true:=by kernel_rfl
 have key:∀ ty,∃ v' w',(Builtin.append_ #[114,114] ty #[S,.slice (some ⟨gv,0,none⟩) m vc]).run Tryz.prog w = .ok v' w'∧w'.ownsRow 0 119 6 v' (n+m) (vals++us)∧jp_ w w' (fun b=>ck_ S b≠0) ∧
   ∀ b,ck_ v' b≠0→(w.heap.size≤b∨ck_ S b≠0)∧b<w'.heap.size:=fun ty=>by
  have:=fz_ (P:=Tryz.prog) w 114 ty 119 i0 _ Tryz.underlying114 hi0 hz2 (by rw [hz0];rfl) (by rw [hz0];decide) S n vals (by rw [hz0];exact hS) (.slice (some ⟨gv,0,none⟩) m vc) m us (by rw [hz0];exact hul) (.inl ⟨_,_,rfl,fun j u h=>by rw [Addr.add_lit,Nat.zero_add];exact hus j u h⟩) h1u (by unfold maxLen;omega) (by rw [hz1];exact hb)
  rw [hz0] at this
  exact this
 obtain ⟨v',w',k1,k2,k3⟩:=key 114
 rcases hS.2 with ⟨rfl,rfl⟩|⟨g,c,cur,rfl,-,hg,hnc,hcm,hcs,htake⟩
 · clear key hS hus hz2 hi0 hz0 hz1
   go_enter Tryz.func79,Tryz.ntmps79
   go_wp2_with (at_builtin;refine Lib.wpList_append_run _ rfl _ _ 114 114 rfl _ _ rfl rfl _ _ k1 ?_)
   go_ret
   exact ⟨_,rfl,k2,k3⟩
 · clear key hS hus hz2 hg htake hcs hi0 hz0 hz1
   unfold maxLen at hcm
   go_enter Tryz.func79,Tryz.ntmps79
   go_wp2_with (at_builtin;refine Lib.wpList_append_run _ rfl _ _ 114 114 rfl _ _ rfl rfl _ _ k1 ?_)
   all_goals (go_ret;exact ⟨_,rfl,k2,k3⟩)
set_option maxRecDepth 1000000 in
theorem InsNone79 (w:World) (S:Value) (n i:Nat) (vals:List Value) (hS:w.ownsRow 0 119 6 S n vals) (U:Value) (us:List Value) (hU:w.ownsRow 0 119 6 U 0 us) (hi:i≤n) :
  Calls Tryz.prog 79 #[S,.int .i64 i,U] w fun e w'=>e = .returned S∧w'=w:=by
 rcases hS.2 with ⟨rfl,rfl⟩|⟨g,c,cur,rfl,-,hg,hnc,hcm,hcs,htake⟩
 · have hi0:i=0:=by omega
   subst hi0
   rcases hU.2 with ⟨rfl,-⟩|⟨gv,vc,curv,rfl,-,hgv,hmc,hcm,hcs,htake⟩
   · clear hS hU
     go_enter Tryz.func79,Tryz.ntmps79
     go_wp2_with fail
     go_ret
     exact ⟨rfl,rfl⟩
   · clear hS hU hgv hcs htake
     go_enter Tryz.func79,Tryz.ntmps79
     go_wp2_with fail
     go_ret
     exact ⟨rfl,rfl⟩
 · unfold maxLen at hcm
   have hic:i≤c:=by omega
   rcases hU.2 with ⟨rfl,-⟩|⟨gv,vc,curv,rfl,-,hgv,hmc,hcm2,hcs2,htake2⟩
   · clear hS hU hg hcs htake
     go_enter Tryz.func79,Tryz.ntmps79
     go_wp2_with fail
     all_goals (go_ret;exact ⟨rfl,rfl⟩)
   · clear hS hU hg hcs htake hgv hcs2 htake2
     go_enter Tryz.func79,Tryz.ntmps79
     go_wp2_with fail
     all_goals (go_ret;exact ⟨rfl,rfl⟩)
set_option maxRecDepth 1000000 in
theorem tc_ (w:World) (g n c i:Nat) (cur:Array Value) (hg:w.heap[g]?=some (.cells cur 119 (0,0))) (hs:cur.size=c*6) (hc:c≤9223372036854775807) (hi:i<n)
  (gv m vc:Nat) (curv:Array Value) (Tv:TypeId) (hgv:w.heap[gv]?=some (.cells curv Tv (0,0))) (hmv:m*6≤curv.size) (hne:gv≠g) (us:List Value) (hul:us=curv.toList.take (m*6)) (h1u:∀ v ∈ us,v.oneCell'=true) (hm:0<m) (hroom:n+m≤c)
  (h1:∀ v ∈ cur.toList.take (n*6),v.oneCell'=true) :
  Calls Tryz.prog 79 #[.slice (some ⟨g,0,none⟩) n c,.int .i64 i,.slice (some ⟨gv,0,none⟩) m vc] w fun e w'=>e = .returned (.slice (some ⟨g,0,none⟩) (n+m) c) ∧
   ∃ A,w'=w.drew.setRow g A∧A.size=cur.size∧A.toList.take ((n+m)*6)=(cur.toList.take (n*6)).take (i*6)++us++(cur.toList.take (n*6)).drop (i*6):=by
 have hsz:(Tryz.prog.info? 119).map (·.size)=some 6:=by kernel_rfl
 have hul2:us.length=m*6:=by rw [hul,List.length_take,Array.length_toList];omega
 have hov:∀ lb cb,(callFunc 140 #[.slice (some ⟨gv,0,none⟩) m vc,.slice (some ⟨g,(i+m)*6,none⟩) lb cb]).run Tryz.prog w = .ok (.value (.bool false)) w:=fun lb cb=>by
  rw [run_callFunc_extern Tryz.func140 (by kernel_rfl) (by kernel_rfl) (by kernel_rfl) (e:=Extern.SlicesOverlaps.overlaps #[114,114] #[4]) (by kernel_rfl),
   Lib.run_overlaps_apart w 114 4 119 Tryz.underlying114 6 Tryz.sizeOf119 ⟨gv,0,none⟩ ⟨g,(i+m)*6,none⟩ m vc lb cb hne Tv 119 curv.size cur.size (by simp [World.shape?,hgv]) (by simp [World.shape?,hg]) (by omega) (by simp [World.frozen?,hgv]) (by simp [World.frozen?,hgv])]
  rfl
 obtain ⟨mv,hmv2⟩:∃ mv,mv=(cur.toList.take (n*6)).drop (i*6):=⟨_,rfl⟩
 have hml:mv.length=(n - i)*6:=by rw [hmv2];simp [hs];omega
 have hgd:w.drew.heap[g]?=some (.cells cur 119 (0,0)):=hg
 obtain ⟨B,hB⟩:∃ B,B=(cur.toList.take ((i+m)*6)++mv++cur.toList.drop ((i+m)*6+mv.length)).toArray:=⟨_,rfl⟩
 have hcp1:∀ ty dc sc,(Builtin.copy_ #[114,114] ty #[.slice (some ⟨g,(i+m)*6,none⟩) (n+m - (i+m)) dc,.slice (some ⟨g,i*6,none⟩) (n+m - i) sc]).run Tryz.prog w.drew = .ok (goInt (n - i)) (w.drew.setRow g B):=fun ty dc sc=>by
  have:=cW_ (P:=Tryz.prog) w.drew 114 114 ty 119 6 g ((i+m)*6) (n+m - (i+m)) dc ⟨g,i*6,none⟩ (n+m - i) sc cur 119 mv Tryz.underlying114 hsz hgd (by rw [hml];simp only [Nat.min_def];split<;>omega)
   (fun j v hj=>by
     have hj2:=(List.getElem?_eq_some_iff.1 hj).1
     rw [hmv2,List.getElem?_drop,List.getElem?_take_of_lt (by omega),Array.getElem?_toList] at hj
     rw [Addr.add_lit]
     simp only [World.cell?,hgd]
     exact hj) (by rw [hml,hs];omega) (fun v hv=>h1 v (by rw [hmv2] at hv;exact List.mem_of_mem_drop hv))
  rw [this,hB]
  congr 2
  simp only [Nat.min_def];split<;>omega
 have hBs:B.size=cur.size:=by rw [hB];simp [hml,hs];omega
 have hgB:(w.drew.setRow g B).heap[g]?=some (.cells B 119 (0,0)):=setRow_heap _ _ _ _ _ _ hgd
 obtain ⟨A,hA⟩:∃ A,A=(B.toList.take (i*6)++us++B.toList.drop (i*6+us.length)).toArray:=⟨_,rfl⟩
 have hcp2:∀ ty dc,(Builtin.copy_ #[114,114] ty #[.slice (some ⟨g,i*6,none⟩) (n+m - i) dc,.slice (some ⟨gv,0,none⟩) m vc]).run Tryz.prog (w.drew.setRow g B) = .ok (goInt m) (w.drew.setRow g A):=fun ty dc=>by
  have:=cW_ (P:=Tryz.prog) (w.drew.setRow g B) 114 114 ty 119 6 g (i*6) (n+m - i) dc ⟨gv,0,none⟩ m vc B 119 us Tryz.underlying114 hsz hgB (by rw [hul2];simp only [Nat.min_def];split<;>omega)
   (fun j v hj=>by
     have hj2:=(List.getElem?_eq_some_iff.1 hj).1
     rw [hul,List.getElem?_take_of_lt (by omega),Array.getElem?_toList] at hj
     rw [Addr.add_lit,Nat.zero_add]
     have e:(w.drew.setRow g B).heap[gv]?=some (.cells curv Tv (0,0)):=by rw [setRow_other _ _ _ _ hne];exact hgv
     simp only [World.cell?,e]
     exact hj) (by rw [hul2,hBs,hs];omega) h1u
  rw [this,hA,setRow_setRow]
  congr 2
  simp only [Nat.min_def];split<;>omega
 have kA:Hid (A.size=cur.size∧A.toList.take ((n+m)*6)=(cur.toList.take (n*6)).take (i*6)++us++mv):=by
  have e1:B.toList.take (i*6)=(cur.toList.take (n*6)).take (i*6):=by
   rw [hB];simp only [List.toList_toArray,List.append_assoc]
   rw [List.take_append_of_le_length (by simp [hs];omega),List.take_take,List.take_take]
   congr 1;omega
  have e2:(B.toList.drop (i*6+us.length)).take mv.length=mv:=by
   rw [hB];simp only [List.toList_toArray,List.append_assoc]
   rw [List.drop_append,List.drop_eq_nil_of_le (by simp [hul2,hs];omega),List.nil_append,List.length_take,show i*6+us.length - min ((i+m)*6) cur.toList.length=0 by simp [hul2,hs];omega,List.drop_zero,List.take_append_of_le_length (Nat.le_refl _),List.take_of_length_le (Nat.le_refl _)]
  refine ⟨by rw [hA];simp [hul2,hBs,hs];omega,?_⟩
  rw [hA];simp only [List.toList_toArray]
  rw [List.take_append,List.take_of_length_le (by simp [hul2,hBs,hs];omega),e1]
  congr 1
  rw [show (n+m)*6 - (List.take (i*6) (List.take (n*6) cur.toList)++us).length=mv.length by simp [hul2,hml,hs];omega]
  exact e2
 rw [hmv2] at kA
 have hnc:n≤c:=by omega
 have hic:i≤c:=by omega
 have hz1:¬ ((m:Int)=0):=by omega
 have hz2:¬ ((i:Int)=(n:Int)):=by omega
 have mixed:Tryz.prog.follows .mixedOrders=true:=by kernel_rfl
 have hw1:IntKind.i64.wrap ((i:Int)+(m:Int))=(i:Int)+(m:Int):=by rw [IntKind.wrap_i64];omega
 have hb1:(0:Int)≤(i:Int)+(m:Int):=by omega
 have hin:i≤n:=by omega
 have htn:((i:Int)+(m:Int)).toNat=i+m:=by omega
 have hb2:¬ (c=i+m):=by omega
 have hb3:(i:Int)≤(n:Int)+(m:Int):=by omega
 have hb4:¬ (c=i):=by omega
 clear hB hBs hgB hA hmv2 hml hgd hg hgv hul hul2 h1 h1u hsz hs hmv
 go_enter Tryz.func79,Tryz.ntmps79
 go_wp2_with (simp only [hov])
 go_region_law_o (refine eG_ rfl _ _ 114 114 rfl _ _ (by simp [Act.eval,Act.put]) (by simp [Act.eval,Act.put]) (hcp1 _ _ _) ?_)
 go_wp2_with (at_builtin;refine f9_ _ rfl _ _ 114 114 rfl _ _ rfl rfl (hcp2 _ _) ?_)
 go_ret
 exact ⟨rfl,A,rfl,kA.out.1,kA.out.2⟩
set_option maxRecDepth 1000000 in
theorem InsGrow79 (w:World) (g n c i:Nat) (cur:Array Value) (hg:w.heap[g]?=some (.cells cur 119 (0,0))) (hs:cur.size=c*6) (hnc:n≤c) (hi:i<n)
  (gv m vc:Nat) (curv:Array Value) (Tv:TypeId) (hgv:w.heap[gv]?=some (.cells curv Tv (0,0))) (hmv:m*6≤curv.size) (us:List Value) (hul:us=curv.toList.take (m*6)) (h1u:∀ v ∈ us,v.oneCell'=true) (hm:0<m) (hroom:c<n+m)
  (hbig:(n+m)*88≤140737488355328) (h1:∀ v ∈ cur.toList.take (n*6),v.oneCell'=true) :
  Calls Tryz.prog 79 #[.slice (some ⟨g,0,none⟩) n c,.int .i64 i,.slice (some ⟨gv,0,none⟩) m vc] w fun e w'=>∃ C A,e = .returned (.slice (some ⟨w.heap.size,0,none⟩) (n+m) C)∧n+m≤C∧C≤maxLen ∧
   w'.heap[w.heap.size]?=some (.cells A 119 (0,0))∧A.size=C*6∧A.toList.take ((n+m)*6)=(cur.toList.take (n*6)).take (i*6)++us++(cur.toList.take (n*6)).drop (i*6)∧w.grownBy w' none:=by
 obtain ⟨i0,hi0⟩:=Option.isSome_iff_exists.1 (show (Tryz.prog.info? 119).isSome=true by kernel_rfl)
 have hz0:i0.size=6:=by
  have:(Tryz.prog.info? 119).map (·.size)=some 6:=by kernel_rfl
  rw [hi0] at this;simpa using this
 have hz1:i0.bytes=88:=by
  have:(Tryz.prog.info? 119).map (·.bytes)=some 88:=by kernel_rfl
  rw [hi0] at this;simpa using this
 have hz2:i0.zero=some (.agg #[.int .i64 0,.int .i64 0,.int .i64 0,.string ByteArray.empty,.slice none 0 0,.slice none 0 0]):=by
  have:(Tryz.prog.info? 119).bind (·.zero)=some (.agg #[.int .i64 0,.int .i64 0,.int .i64 0,.string ByteArray.empty,.slice none 0 0,.slice none 0 0]):=by kernel_rfl
  rw [hi0] at this;simpa using this
 obtain ⟨G,N,W1,R1,W2,A,hNN,hGn,hGm,hrz,hcp1,hW2',hcp2,kA⟩:=insGrow79 114 119 3 _ i0 Tryz.underlying114 Tryz.underlying3 hi0 hz2 hz0 hz1 rfl w g n c i cur hg hs hnc hi gv m vc curv Tv hgv hmv us hul h1u hm hroom hbig h1
 have hic:i≤c:=by omega
 have hz3:¬ ((m:Int)=0):=by omega
 have hz4:¬ ((i:Int)=(n:Int)):=by omega
 have hz5:(c:Int)<(n:Int)+(m:Int):=by omega
 have mixed:Tryz.prog.follows .mixedOrders=true:=by kernel_rfl
 have hG63:G≤9223372036854775807:=by unfold maxLen at hGm;omega
 have hw1:IntKind.i64.wrap ((n:Int)+(m:Int))=(n:Int)+(m:Int):=by rw [IntKind.wrap_i64];omega
 have hw2:IntKind.i64.wrap ((n:Int)+(m:Int) - (i:Int))=(n:Int)+(m:Int) - (i:Int):=by rw [IntKind.wrap_i64];omega
 have hw3:IntKind.i64.wrap ((i:Int)+(m:Int))=(i:Int)+(m:Int):=by rw [IntKind.wrap_i64];omega
 have hb1:(0:Int)≤(i:Int)+(m:Int):=by omega
 have htn:((i:Int)+(m:Int)).toNat=i+m:=by omega
 have hGi:¬ (G=i):=by omega
 have hGim:¬ (G=i+m):=by omega
 have hb3:(i:Int)≤(n:Int)+(m:Int):=by omega
 have hb4:¬ (c=i):=by omega
 have hinm:i≤n+m:=by omega
 have himn:i+m≤n+m:=by omega
 have hin:i≤n:=by omega
 clear hul h1 h1u hg hgv hs hmv hz0 hz1 hz2 hi0 hbig
 go_enter Tryz.func79,Tryz.ntmps79
 go_wp2_with (at_builtin;refine Lib.wpList_append_run _ rfl _ _ 114 3 rfl _ _ rfl rfl _ _ (hrz _) ?_)
 go_region_law_o (simp only [hW2'];refine eG_ rfl _ _ 114 114 rfl _ _ (by simp [Act.eval,Act.put]) (by simp [Act.eval,Act.put]) (hcp2 _ _ _) ?_)
 go_wp2_with fail
 go_ret
 exact ⟨G,A,by rw [hNN.out];rfl,kA.out⟩
theorem insM79:InsM Tryz.prog 79 119 6 88:=by
 intro w S n vals U m us i hS hU hdis hi h1 h1u hb
 have hvl:=hS.1
 by_cases hm:m=0
 · subst hm
   have hus:us=[]:=by have:=hU.1;rw [Nat.zero_mul] at this;exact List.eq_nil_of_length_eq_zero this
   subst hus
   refine (InsNone79 w S n i vals hS U [] hU hi).mono ?_
   rintro e w' ⟨rfl,rfl⟩
   refine ⟨S,rfl,by rw [List.append_nil,List.take_append_drop];exact hS,⟨rfl,rfl,rfl,Nat.le_refl _,fun _ _ _=>rfl⟩,fun b hb=>⟨.inr hb,kb_ hS b hb⟩⟩
 · rcases hU.2 with ⟨rfl,h0⟩|⟨gv,vc,curv,rfl,-,hgv,hmc,hcm,hcs,htake⟩
   · exact absurd h0 hm
   · by_cases hin:i=n
     · subst hin
       rw [List.take_of_length_le (by omega),List.drop_eq_nil_of_le (by omega),List.append_nil]
       exact InsEnd79 w S i vals hS gv m vc us hU.1 (fun j u h=>by have:=hU.cells (g:=gv) rfl j u h;rwa [Addr.add_lit,Nat.zero_add] at this) h1u (by omega) hb
     · rcases hS.2 with ⟨rfl,h0⟩|⟨g,c,cur,rfl,-,hg,hnc,hcm',hcs',htake'⟩
       · omega
       · have hne:gv≠g:=fun e=>by subst e;have:=hdis gv (by simp [ck_]);simp [ck_] at this
         have hmv:m*6≤curv.size:=by rw [hcs];exact Nat.mul_le_mul_right _ hmc
         by_cases hroom:n+m≤c
         · refine (tc_ w g n c i cur hg hcs' (by unfold maxLen at hcm';omega) (by omega) gv m vc curv 119 hgv hmv hne us htake.symm h1u (by omega) hroom (by rw [htake'];exact h1)).mono ?_
           rintro e w' ⟨rfl,A,rfl,hA,ht⟩
           rw [htake'] at ht
           have hgd:w.drew.heap[g]?=some (.cells cur 119 (0,0)):=hg
           have hA2:=setRow_heap w.drew g cur A _ _ hgd
           refine ⟨_,rfl,⟨by rw [←ht];simp [hA,hcs'];omega,.inr ⟨g,c,A,rfl,Nat.zero_le _,hA2,hroom,hcm',by rw [hA,hcs'],ht⟩⟩,⟨rfl,rfl,rfl,hk_ w g A,fun b _ hn => ?_⟩,fun b hb=>⟨.inr hb,?_⟩⟩
           · rw [setRow_other _ _ _ _ (fun e=>hn (by subst e;simp [ck_]))];rfl
           · have:g=b:=by simp only [ck_] at hb;exact Classical.byContradiction fun h=>hb (if_neg h)
             subst this
             exact (Array.getElem?_eq_some_iff.1 hA2).1
         · refine (InsGrow79 w g n c i cur hg hcs' hnc (by omega) gv m vc curv 119 hgv hmv us htake.symm h1u (by omega) (by omega) hb (by rw [htake'];exact h1)).mono ?_
           rintro e w' ⟨C,A,rfl,hC,hCm,hN,hA,ht,hgr⟩
           rw [htake'] at ht
           refine ⟨_,rfl,⟨by rw [←ht];simp [hA];omega,.inr ⟨_,C,A,rfl,Nat.zero_le _,hN,hC,hCm,hA,ht⟩⟩,⟨hgr.os,hgr.tape,hgr.output,hgr.size,fun b hb _=>hgr.block b hb (by simp)⟩,fun b hb => ?_⟩
           have:w.heap.size=b:=by simp only [ck_] at hb;exact Classical.byContradiction fun h=>hb (if_neg h)
           subst this
           exact ⟨.inl (Nat.le_refl _),(Array.getElem?_eq_some_iff.1 hN).1⟩
end Go.Proofs
namespace Go.Pi
open Go.Proofs
theorem b6_.ok (n:Nat):b6_.e.Oks E (cx n) n:=fun _ _ _ _ h=>qu_ (t:=.ikeyed) (m1:=.s) (m2:=.s) (by decide) (by decide) insM79 h
end Go.Pi
end
section
namespace Go.Proofs
open Go.Shelf
def Tryz.laysM171_ren:Go.Shelf.Ren:=⟨fun|171=>108|243=>157|246=>196|283=>213|284=>214|285=>215|286=>216|129=>230|317=>229|318=>231|319=>232|320=>233|337=>243|338=>244|n=>n,fun|3=>3|9=>9|2=>2|4=>4|171=>224|0=>0|53=>225|37=>22|5=>5|173=>228|212=>242|51=>243|20=>20|213=>244|46=>177|232=>261|233=>262|n=>n,fun|17=>0|18=>4|19=>5|n=>n⟩
theorem Tryz.laysM171:Go.Proofs.LaysM.n171 Tryz.prog Tryz.laysM171_ren:={
 mixed:=by kernel_rfl
 f129:=Tryz.func230.trans (congrArg some (by kernel_rfl))
 f171:=Tryz.func108.trans (congrArg some (by kernel_rfl))
 f243:=Tryz.func157.trans (congrArg some (by kernel_rfl))
 f246:=Tryz.func196.trans (congrArg some (by kernel_rfl))
 f283:=Tryz.func213.trans (congrArg some (by kernel_rfl))
 f284:=Tryz.func214.trans (congrArg some (by kernel_rfl))
 f285:=Tryz.func215.trans (congrArg some (by kernel_rfl))
 f286:=Tryz.func216.trans (congrArg some (by kernel_rfl))
 f317:=Tryz.func229.trans (congrArg some (by kernel_rfl))
 f318:=Tryz.func231.trans (congrArg some (by kernel_rfl))
 f319:=Tryz.func232.trans (congrArg some (by kernel_rfl))
 f320:=Tryz.func233.trans (congrArg some (by kernel_rfl))
 f337:=Tryz.func243.trans (congrArg some (by kernel_rfl))
 f338:=Tryz.func244.trans (congrArg some (by kernel_rfl))
 t0:=Tryz.underlying0
 a0:=Tryz.isAgg0
 z0:=Tryz.sizeOf0
 v0:=Tryz.zeroValue0
 t2:=Tryz.underlying2
 a2:=Tryz.isAgg2
 z2:=Tryz.sizeOf2
 v2:=Tryz.zeroValue2
 t3:=Tryz.underlying3
 a3:=Tryz.isAgg3
 z3:=Tryz.sizeOf3
 v3:=Tryz.zeroValue3
 t4:=Tryz.underlying4
 a4:=Tryz.isAgg4
 z4:=Tryz.sizeOf4
 v4:=Tryz.zeroValue4
 t5:=Tryz.underlying5
 a5:=Tryz.isAgg5
 z5:=Tryz.sizeOf5
 v5:=Tryz.zeroValue5
 t9:=Tryz.underlying9
 a9:=Tryz.isAgg9
 z9:=Tryz.sizeOf9
 v9:=Tryz.zeroValue9
 t20:=Tryz.underlying20
 a20:=Tryz.isAgg20
 z20:=Tryz.sizeOf20
 v20:=Tryz.zeroValue20
 t37:=Tryz.underlying22
 a37:=Tryz.isAgg22
 z37:=Tryz.sizeOf22
 v37:=Tryz.zeroValue22
 t46:=Tryz.underlying177
 a46:=Tryz.isAgg177
 z46:=Tryz.sizeOf177
 v46:=Tryz.zeroValue177
 t51:=Tryz.underlying243
 a51:=Tryz.isAgg243
 z51:=Tryz.sizeOf243
 v51:=Tryz.zeroValue243
 t53:=Tryz.underlying225
 a53:=Tryz.isAgg225
 z53:=Tryz.sizeOf225
 v53:=Tryz.zeroValue225
 t171:=Tryz.underlying224
 a171:=Tryz.isAgg224
 z171:=Tryz.sizeOf224
 v171:=Tryz.zeroValue224
 t173:=Tryz.underlying228
 a173:=Tryz.isAgg228
 z173:=Tryz.sizeOf228
 v173:=Tryz.zeroValue228
 t212:=Tryz.underlying242
 a212:=Tryz.isAgg242
 z212:=Tryz.sizeOf242
 v212:=Tryz.zeroValue242
 t213:=Tryz.underlying244
 a213:=Tryz.isAgg244
 z213:=Tryz.sizeOf244
 t232:=Tryz.underlying261
 a232:=Tryz.isAgg261
 z232:=Tryz.sizeOf261
 v232:=Tryz.zeroValue261
 t233:=Tryz.underlying262
 a233:=Tryz.isAgg262
 z233:=Tryz.sizeOf262
 v233:=Tryz.zeroValue262
 g17:=by kernel_rfl
 g18:=by kernel_rfl
 g19:=by kernel_rfl
 i0:=by kernel_rfl
 i2:=by kernel_rfl
 i3:=by kernel_rfl
 i4:=by kernel_rfl
 i5:=by kernel_rfl
 i9:=by kernel_rfl
 i20:=by kernel_rfl
 i37:=by kernel_rfl
 i46:=by kernel_rfl
 i51:=by kernel_rfl
 i53:=by kernel_rfl
 i171:=by kernel_rfl
 i173:=by kernel_rfl
 i212:=by kernel_rfl
 i232:=by kernel_rfl
 i233:=by kernel_rfl
 m17:=by kernel_rfl
 m18:=by kernel_rfl
 m19:=by kernel_rfl }
open Go.RowKit Go.Sort Go.Lib in
theorem Tryz.strconv_Itoa (n:Int) (h0 : -9223372036854775808≤n) (h1:n≤9223372036854775807) (w:World) (htab:Lib.TabIs Tryz.prog w "internal/strconv.uint64pow10" .u64 Lib.pow10Tab) :
  Calls Tryz.prog 108 #[.int .i64 n] w fun e w'=>e = .returned (.string ⟨(Lib.itoa n).toArray⟩)∧∃ k os,w'=grow (w.drewN k) os:=Any.strconv_Itoa Tryz.laysM171 n h0 h1 w htab
end Go.Proofs
namespace Go.Pi
open Go.Proofs
theorem l9_:E.P.globalNamed "internal/strconv.uint64pow10" = some 0:=by kernel_rfl
theorem strconv_Itoa.ok (n:Nat):strconv_Itoa.e.Oks E (cx n) n:=fun _ _ _ _ h=>nItoa_ok (fun n h0 h1 w ht=>Tryz.strconv_Itoa n h0 h1 w ht) (.head _) l9_ h
end Go.Pi
end
section
namespace Go.Proofs
open Go.Shelf
def Tryz.lays156_ren:Go.Shelf.Ren:=⟨fun|156=>109|165=>158|166=>159|169=>160|240=>197|241=>198|276=>217|277=>218|n=>n,fun|31=>44|9=>9|3=>3|4=>4|0=>0|20=>20|72=>180|76=>184|70=>178|37=>22|75=>183|127=>212|164=>230|5=>5|80=>186|n=>n,fun|n=>n⟩
theorem Tryz.lays156:Go.Proofs.Lays.n156 Tryz.prog Tryz.lays156_ren:={
 mixed:=by kernel_rfl
 f156:=Tryz.func109.trans (congrArg some (by kernel_rfl))
 f165:=Tryz.func158.trans (congrArg some (by kernel_rfl))
 f166:=Tryz.func159.trans (congrArg some (by kernel_rfl))
 f169:=Tryz.func160.trans (congrArg some (by kernel_rfl))
 f240:=Tryz.func197.trans (congrArg some (by kernel_rfl))
 f241:=Tryz.func198.trans (congrArg some (by kernel_rfl))
 f276:=Tryz.func217.trans (congrArg some (by kernel_rfl))
 f277:=Tryz.func218.trans (congrArg some (by kernel_rfl))
 t0:=Tryz.underlying0
 a0:=Tryz.isAgg0
 z0:=Tryz.sizeOf0
 v0:=Tryz.zeroValue0
 t3:=Tryz.underlying3
 a3:=Tryz.isAgg3
 z3:=Tryz.sizeOf3
 v3:=Tryz.zeroValue3
 t4:=Tryz.underlying4
 a4:=Tryz.isAgg4
 z4:=Tryz.sizeOf4
 v4:=Tryz.zeroValue4
 t9:=Tryz.underlying9
 a9:=Tryz.isAgg9
 z9:=Tryz.sizeOf9
 v9:=Tryz.zeroValue9
 t20:=Tryz.underlying20
 a20:=Tryz.isAgg20
 z20:=Tryz.sizeOf20
 v20:=Tryz.zeroValue20
 t31:=Tryz.underlying44
 a31:=Tryz.isAgg44
 z31:=Tryz.sizeOf44
 v31:=Tryz.zeroValue44
 t37:=Tryz.underlying22
 a37:=Tryz.isAgg22
 z37:=Tryz.sizeOf22
 v37:=Tryz.zeroValue22
 t70:=Tryz.underlying178
 a70:=Tryz.isAgg178
 z70:=Tryz.sizeOf178
 v70:=Tryz.zeroValue178
 t72:=Tryz.underlying180
 a72:=Tryz.isAgg180
 z72:=Tryz.sizeOf180
 v72:=Tryz.zeroValue180
 t75:=Tryz.underlying183
 a75:=Tryz.isAgg183
 z75:=Tryz.sizeOf183
 v75:=Tryz.zeroValue183
 t76:=Tryz.underlying184
 a76:=Tryz.isAgg184
 z76:=Tryz.sizeOf184
 v76:=Tryz.zeroValue184
 t127:=Tryz.underlying212
 a127:=Tryz.isAgg212
 z127:=Tryz.sizeOf212
 v127:=Tryz.zeroValue212
 t164:=Tryz.underlying230
 a164:=Tryz.isAgg230
 z164:=Tryz.sizeOf230
 v164:=Tryz.zeroValue230 }
theorem Tryz.Builder_Extra_156:Builder.Extra Tryz.prog Tryz.lays156_ren:={
 sizeBuilder:=by kernel_rfl
 liesBuilder:=by kernel_rfl
 t5:=Tryz.underlying5
 a5:=Tryz.isAgg5
 z5:=Tryz.sizeOf5
 v5:=Tryz.zeroValue5
 infoByte:=by kernel_rfl
 cellsByte:=by kernel_rfl
 sizeByte:=by kernel_rfl
 neB5:=by decide }
open Go.RowKit Go.Sort Go.Lib in
theorem Tryz.strings_Join_none (a:Option Addr) (c:Nat) (sep:ByteArray) (w:World) :
  Calls Tryz.prog 109 #[.slice a 0 c,.string sep] w fun e w'=>e = .returned (.string ⟨#[]⟩)∧w'=w:=Any.strings_Join_none Tryz.lays156 Tryz.Builder_Extra_156 a c sep w
open Go.RowKit Go.Sort Go.Lib in
theorem Tryz.strings_Join (bk o c:Nat) (xs:List ByteArray) (sep:ByteArray) (w:World) (hcells:∀ (j:Nat) x,xs[j]?=some x→w.cell? ⟨bk,o+j,none⟩=some (.string x)) (hbk:bk<w.heap.size) (hN:xs.length≤140737488355328) (hcap:xs.length≤c) (hlen:(Lib.join (xs.map (·.data.toList)) sep.data.toList).length≤140737488355328) :
  Calls Tryz.prog 109 #[.slice (some ⟨bk,o,none⟩) xs.length c,.string sep] w fun e w'=>e = .returned (.string ⟨(Lib.join (xs.map (·.data.toList)) sep.data.toList).toArray⟩)∧Below w.heap.size w w':=Any.strings_Join Tryz.lays156 Tryz.Builder_Extra_156 bk o c xs sep w hcells hbk hN hcap hlen
end Go.Proofs
namespace Go.Pi
open Go.Proofs
theorem strings_Join.ok (n:Nat):strings_Join.e.Oks E (cx n) n:=fun _ _ _ _ h=>nJoin_ok ⟨fun a c sep w=>Tryz.strings_Join_none a c sep w,fun bk o c xs sep w h1 h2 h3 h4 h5=>Tryz.strings_Join bk o c xs sep w h1 h2 h3 h4 h5⟩ (fun _=>rfl) h
end Go.Pi
end
section
namespace Go.Proofs
open Go.Shelf
def Tryz.lays155_ren:Go.Shelf.Ren:=⟨fun|155=>193|154=>212|138=>226|165=>158|143=>227|166=>159|197=>228|169=>160|195=>239|218=>240|240=>197|241=>198|219=>241|260=>242|276=>217|277=>218|217=>252|225=>253|224=>254|267=>255|266=>259|314=>260|n=>n,fun|9=>9|3=>3|4=>4|72=>180|0=>0|76=>184|105=>238|21=>21|5=>5|70=>178|20=>20|37=>22|75=>183|127=>212|164=>230|46=>177|119=>257|139=>260|138=>259|146=>268|51=>243|80=>186|n=>n,fun|1=>1|3=>2|4=>3|n=>n⟩
theorem Tryz.lays155:Go.Proofs.Lays.n155 Tryz.prog Tryz.lays155_ren:={
 mixed:=by kernel_rfl
 f138:=Tryz.func226.trans (congrArg some (by kernel_rfl))
 f143:=Tryz.func227.trans (congrArg some (by kernel_rfl))
 f154:=Tryz.func212.trans (congrArg some (by kernel_rfl))
 f155:=Tryz.func193.trans (congrArg some (by kernel_rfl))
 f165:=Tryz.func158.trans (congrArg some (by kernel_rfl))
 f166:=Tryz.func159.trans (congrArg some (by kernel_rfl))
 f169:=Tryz.func160.trans (congrArg some (by kernel_rfl))
 f195:=Tryz.func239.trans (congrArg some (by kernel_rfl))
 f197:=Tryz.func228.trans (congrArg some (by kernel_rfl))
 f217:=Tryz.func252.trans (congrArg some (by kernel_rfl))
 f218:=Tryz.func240.trans (congrArg some (by kernel_rfl))
 f219:=Tryz.func241.trans (congrArg some (by kernel_rfl))
 f224:=Tryz.func254.trans (congrArg some (by kernel_rfl))
 f225:=Tryz.func253.trans (congrArg some (by kernel_rfl))
 f240:=Tryz.func197.trans (congrArg some (by kernel_rfl))
 f241:=Tryz.func198.trans (congrArg some (by kernel_rfl))
 f260:=Tryz.func242.trans (congrArg some (by kernel_rfl))
 f266:=Tryz.func259.trans (congrArg some (by kernel_rfl))
 f267:=Tryz.func255.trans (congrArg some (by kernel_rfl))
 f276:=Tryz.func217.trans (congrArg some (by kernel_rfl))
 f277:=Tryz.func218.trans (congrArg some (by kernel_rfl))
 f314:=Tryz.func260.trans (congrArg some (by kernel_rfl))
 t0:=Tryz.underlying0
 a0:=Tryz.isAgg0
 z0:=Tryz.sizeOf0
 v0:=Tryz.zeroValue0
 t3:=Tryz.underlying3
 a3:=Tryz.isAgg3
 z3:=Tryz.sizeOf3
 v3:=Tryz.zeroValue3
 t4:=Tryz.underlying4
 a4:=Tryz.isAgg4
 z4:=Tryz.sizeOf4
 v4:=Tryz.zeroValue4
 t5:=Tryz.underlying5
 a5:=Tryz.isAgg5
 z5:=Tryz.sizeOf5
 v5:=Tryz.zeroValue5
 t9:=Tryz.underlying9
 a9:=Tryz.isAgg9
 z9:=Tryz.sizeOf9
 v9:=Tryz.zeroValue9
 t20:=Tryz.underlying20
 a20:=Tryz.isAgg20
 z20:=Tryz.sizeOf20
 v20:=Tryz.zeroValue20
 t21:=Tryz.underlying21
 a21:=Tryz.isAgg21
 z21:=Tryz.sizeOf21
 v21:=Tryz.zeroValue21
 t37:=Tryz.underlying22
 a37:=Tryz.isAgg22
 z37:=Tryz.sizeOf22
 v37:=Tryz.zeroValue22
 t46:=Tryz.underlying177
 a46:=Tryz.isAgg177
 z46:=Tryz.sizeOf177
 v46:=Tryz.zeroValue177
 t51:=Tryz.underlying243
 a51:=Tryz.isAgg243
 z51:=Tryz.sizeOf243
 v51:=Tryz.zeroValue243
 t70:=Tryz.underlying178
 a70:=Tryz.isAgg178
 z70:=Tryz.sizeOf178
 v70:=Tryz.zeroValue178
 t72:=Tryz.underlying180
 a72:=Tryz.isAgg180
 z72:=Tryz.sizeOf180
 v72:=Tryz.zeroValue180
 t75:=Tryz.underlying183
 a75:=Tryz.isAgg183
 z75:=Tryz.sizeOf183
 v75:=Tryz.zeroValue183
 t76:=Tryz.underlying184
 a76:=Tryz.isAgg184
 z76:=Tryz.sizeOf184
 v76:=Tryz.zeroValue184
 t105:=Tryz.underlying238
 a105:=Tryz.isAgg238
 z105:=Tryz.sizeOf238
 v105:=Tryz.zeroValue238
 t119:=Tryz.underlying257
 a119:=Tryz.isAgg257
 z119:=Tryz.sizeOf257
 t127:=Tryz.underlying212
 a127:=Tryz.isAgg212
 z127:=Tryz.sizeOf212
 v127:=Tryz.zeroValue212
 t138:=Tryz.underlying259
 a138:=Tryz.isAgg259
 z138:=Tryz.sizeOf259
 v138:=Tryz.zeroValue259
 t139:=Tryz.underlying260
 a139:=Tryz.isAgg260
 z139:=Tryz.sizeOf260
 v139:=Tryz.zeroValue260
 t146:=Tryz.underlying268
 a146:=Tryz.isAgg268
 z146:=Tryz.sizeOf268
 v146:=Tryz.zeroValue268
 t164:=Tryz.underlying230
 a164:=Tryz.isAgg230
 z164:=Tryz.sizeOf230
 v164:=Tryz.zeroValue230
 g1:=by kernel_rfl
 g3:=by kernel_rfl
 g4:=by kernel_rfl }
theorem Tryz.Builder_Extra_155:Builder.Extra Tryz.prog Tryz.lays155_ren:={
 sizeBuilder:=by kernel_rfl
 liesBuilder:=by kernel_rfl
 t5:=Tryz.underlying5
 a5:=Tryz.isAgg5
 z5:=Tryz.sizeOf5
 v5:=Tryz.zeroValue5
 infoByte:=by kernel_rfl
 cellsByte:=by kernel_rfl
 sizeByte:=by kernel_rfl
 neB5:=by decide }
open Go.RowKit Go.Sort Go.Lib in
theorem Tryz.strings_ReplaceAll (s old new:ByteArray) (m:Int) (w:World) (hs:s.size<4294967281) (hm:w.cell? ⟨1,0,none⟩=some (.int .i64 m)) (h1:1≤old.size) (hlen:s.size+Lib.countB s old*new.size≤140737488355328) :
  Calls Tryz.prog 193 #[.string s,.string old,.string new] w fun e w'=>
   e = .returned (.string ⟨(Lib.replaceAll s.data.toList old.data.toList new.data.toList).toArray⟩)∧Below w.heap.size w w':=Any.strings_ReplaceAll Tryz.lays155 Tryz.Builder_Extra_155 s old new m w hs hm h1 hlen
end Go.Proofs
namespace Go.Pi
open Go.Proofs
theorem strings_ReplaceAll.ok (n:Nat):strings_ReplaceAll.e.Oks E (cx n) n:=fun _ _ _ _ h=>nRepl_ok (g:=1) (fun s old new m w h1 h2 h3 h4=>Tryz.strings_ReplaceAll s old new m w h1 h2 h3 h4) (.tail _ (.head _)) h
end Go.Pi
end
section
namespace Go.Proofs
open Go.Shelf Go.RowKit Go.Lib Go.Pi
section
variable {P:Program}
theorem sL_ (TS TE:TypeId) (TI:TypeId) (Z:Value) (i0:TypeInfo) (uS:P.underlying TS=some (.slice TE)) (uI:P.underlying TI=some (.int .i64)) (hi0:P.info? TE=some i0) (hz2:i0.zero=some Z) (hz0:i0.size=1) (hz1:i0.bytes=16) (hZK:Z.cells.size=1)
  (w:World) (g n c i:Nat) (cur:Array Value) (hg:w.heap[g]?=some (.cells cur TE (0,0))) (hs:cur.size=c) (hnc:n≤c) (hi:i<n)
  (gv m vc:Nat) (curv:Array Value) (Tv:TypeId) (hgv:w.heap[gv]?=some (.cells curv Tv (0,0))) (hmv:m≤curv.size) (us:List Value) (hul:us=curv.toList.take (m)) (h1u:∀ v ∈ us,v.oneCell'=true) (hm:0<m) (hroom:c<n+m)
  (hbig:(n+m)*16≤140737488355328) (h1:∀ v ∈ cur.toList.take (n),v.oneCell'=true) :
  ∃ G N W1 R1 W2 A,Hid (N=w.heap.size)∧n+m≤G∧G≤maxLen ∧
    (∀ ty,(Builtin.append_ #[TS,TI] ty #[.slice (some ⟨g,0,none⟩) i c,.int .i64 ((n:Int)+(m:Int) - (i:Int))]).run P w = .ok (.slice (some ⟨N,0,none⟩) (n+m) G) W1) ∧
    (∀ ty dc,(Builtin.copy_ #[TS,TS] ty #[.slice (some ⟨N,i,none⟩) (n+m - i) dc,.slice (some ⟨gv,0,none⟩) m vc]).run P W1 = .ok (goInt m) (W1.setRow N R1)) ∧
    (W1.setRow N R1).drew=W2 ∧
    (∀ ty dc sc,(Builtin.copy_ #[TS,TS] ty #[.slice (some ⟨N,(i+m),none⟩) (n+m - (i+m)) dc,.slice (some ⟨g,i,none⟩) (n - i) sc]).run P W2 = .ok (goInt (n - i)) (W2.setRow N A)) ∧
    Hid (n+m≤G∧G≤maxLen∧(W2.setRow N A).heap[w.heap.size]?=some (.cells A TE (0,0))∧A.size=G∧A.toList.take ((n+m))=(cur.toList.take (n)).take (i)++us++(cur.toList.take (n)).drop (i)∧w.grownBy (W2.setRow N A) none):=by
 have hul2:us.length=m:=by rw [hul,List.length_take,Array.length_toList];omega
 have hsz:(P.info? TE).map (·.size)=some 1:=by rw [hi0];simp [hz0]
 have hgd:w.drew.heap[g]?=some (.cells cur TE (0,0)):=hg
 have hgl:g<w.heap.size:=(Array.getElem?_eq_some_iff.1 hg).1
 have hgvl:gv<w.heap.size:=(Array.getElem?_eq_some_iff.1 hgv).1
 obtain ⟨olds,holds⟩:∃ olds,olds=(cur.toList.take (n)).take (i):=⟨_,rfl⟩
 have hol:olds.length=i:=by rw [holds];simp [hs];omega
 obtain ⟨G,hG⟩:∃ G,G=grownCap w (n+m) c TE:=⟨_,rfl⟩
 have hGn:n+m≤G:=by rw [hG];exact grownCap_ge w _ _ _
 have hGm:G≤maxLen:=by rw [hG];exact grownCap_le_maxLen w (n+m) c TE (by unfold maxLen;omega)
 obtain ⟨ROW,hROW⟩:∃ ROW:Array Value,ROW=olds.toArray++Builtin.zeroCells Z.cells (n+m - i)++Builtin.zeroCells Z.cells (G - (n+m)):=⟨_,rfl⟩
 have hRl:ROW.size=G:=by rw [hROW];simp [Builtin.zeroCells,hol,hZK];omega
 have hRt:ROW.toList.take (i)=olds:=by
  rw [hROW];simp only [Array.toList_append,List.append_assoc]
  rw [List.take_append_of_le_length (by simp [hol]),List.take_of_length_le (by simp [hol])]
 have hkk:(n:Int)+(m:Int) - (i:Int)=((n+m - i:Nat):Int):=by omega
 have hrz:∀ ty,(Builtin.append_ #[TS,TI] ty #[.slice (some ⟨g,0,none⟩) i c,.int .i64 ((n:Int)+(m:Int) - (i:Int))]).run P w =
   .ok (.slice (some ⟨w.heap.size,0,none⟩) (n+m) G) (w.drew.alloc (.cells ROW TE)):=fun ty=>by
  have h:=Lib.run_append_grow_zeros (P:=P) w TS TI ty TE i0 _ .i64 .i64 uS uI hi0 hz2 (some ⟨g,0,none⟩) i c olds (by
   rw [hz0]
   exact run_firstCells_some w.drew 1 i ⟨g,0,none⟩ i c olds (by rw [Nat.mul_one];exact hol) (fun j v hj=>by
    have hj2:=(List.getElem?_eq_some_iff.1 hj).1
    rw [holds,List.getElem?_take_of_lt (by omega),List.getElem?_take_of_lt (by omega),Array.getElem?_toList] at hj
    rw [Addr.add_lit,Nat.zero_add]
    simp only [World.cell?,hgd]
    exact hj)) (n+m - i) (by omega) (by omega) (by omega) (by omega) (by rw [hz1];omega) (by rw [hz1,show i+(n+m - i)=n+m by omega];exact growslice_fits hroom hbig)
  rw [show i+(n+m - i)=n+m by omega,←hG,←hROW] at h
  rw [hkk]
  exact h
 obtain ⟨N,hN⟩:∃ N,N=w.heap.size:=⟨_,rfl⟩
 rw [←hN] at hrz
 obtain ⟨W1,hW1⟩:∃ W1,W1=w.drew.alloc (.cells ROW TE):=⟨_,rfl⟩
 rw [←hW1] at hrz
 have hN1:W1.heap[N]?=some (.cells ROW TE (0,0)):=by rw [hW1,hN];exact heap_alloc_new w.drew _
 have hold:∀ b,b<w.heap.size→W1.heap[b]?=w.heap[b]?:=fun b hb=>by rw [hW1];exact heap_alloc_old w.drew _ hb
 have hgr1:w.grownBy W1 none:=by rw [hW1];exact ⟨rfl,rfl,rfl,by simp,fun k hk _=>heap_alloc_old w.drew _ hk⟩
 obtain ⟨R1,hR1⟩:∃ R1,R1=(ROW.toList.take (i)++us++ROW.toList.drop (i+us.length)).toArray:=⟨_,rfl⟩
 have hR1s:R1.size=G:=by rw [hR1];simp [hul2,hRl];omega
 have hcp1:∀ ty dc,(Builtin.copy_ #[TS,TS] ty #[.slice (some ⟨N,i,none⟩) (n+m - i) dc,.slice (some ⟨gv,0,none⟩) m vc]).run P W1 = .ok (goInt m) (W1.setRow N R1):=fun ty dc=>by
  have:=cW_ (P:=P) W1 TS TS ty TE 1 N (i) (n+m - i) dc ⟨gv,0,none⟩ m vc ROW TE us uS hsz hN1 (by rw [hul2];simp only [Nat.min_def];split<;>omega)
   (fun j v hj=>by
     have hj2:=(List.getElem?_eq_some_iff.1 hj).1
     rw [hul,List.getElem?_take_of_lt (by omega),Array.getElem?_toList] at hj
     rw [Addr.add_lit,Nat.zero_add]
     simp only [World.cell?,hold gv hgvl,hgv]
     exact hj) (by rw [hul2,hRl];omega) h1u
  rw [this,hR1]
  congr 2
  simp only [Nat.min_def];split<;>omega
 obtain ⟨W2,hW2⟩:∃ W2,W2=(W1.setRow N R1).drew:=⟨_,rfl⟩
 have hN2:W2.heap[N]?=some (.cells R1 TE (0,0)):=by rw [hW2];exact setRow_heap _ _ _ _ _ _ hN1
 have hg2:W2.heap[g]?=some (.cells cur TE (0,0)):=by
  rw [hW2];show (W1.setRow N R1).heap[g]?=_
  rw [setRow_other _ _ _ _ (by omega),hold g hgl];exact hg
 obtain ⟨mv,hmv2⟩:∃ mv,mv=(cur.toList.take (n)).drop (i):=⟨_,rfl⟩
 have hml:mv.length=(n - i):=by rw [hmv2];simp [hs];omega
 obtain ⟨A,hA⟩:∃ A,A=(R1.toList.take ((i+m))++mv++R1.toList.drop ((i+m)+mv.length)).toArray:=⟨_,rfl⟩
 have hcp2:∀ ty dc sc,(Builtin.copy_ #[TS,TS] ty #[.slice (some ⟨N,(i+m),none⟩) (n+m - (i+m)) dc,.slice (some ⟨g,i,none⟩) (n - i) sc]).run P W2 = .ok (goInt (n - i)) (W2.setRow N A):=fun ty dc sc=>by
  have:=cW_ (P:=P) W2 TS TS ty TE 1 N ((i+m)) (n+m - (i+m)) dc ⟨g,i,none⟩ (n - i) sc R1 TE mv uS hsz hN2 (by rw [hml];simp only [Nat.min_def];split<;>omega)
   (fun j v hj=>by
     have hj2:=(List.getElem?_eq_some_iff.1 hj).1
     rw [hmv2,List.getElem?_drop,List.getElem?_take_of_lt (by omega),Array.getElem?_toList] at hj
     rw [Addr.add_lit]
     simp only [World.cell?,hg2]
     exact hj) (by rw [hml,hR1s];omega) (fun v hv=>h1 v (by rw [hmv2] at hv;exact List.mem_of_mem_drop hv))
  rw [this,hA]
  congr 2
  simp only [Nat.min_def];split<;>omega
 have kA:Hid (n+m≤G∧G≤maxLen∧(W2.setRow N A).heap[w.heap.size]?=some (.cells A TE (0,0))∧A.size=G∧A.toList.take ((n+m))=(cur.toList.take (n)).take (i)++us++(cur.toList.take (n)).drop (i)∧w.grownBy (W2.setRow N A) none):=by
  refine ⟨hGn,hGm,by rw [←hN];exact setRow_heap _ _ _ _ _ _ hN2,by rw [hA];simp [hml,hR1s];omega,?_,?_⟩
  · have e1:R1.toList.take ((i+m))=olds++us:=by
     rw [hR1];simp only [List.toList_toArray]
     rw [List.take_append_of_le_length (by simp [hul2,hRl];omega),List.take_of_length_le (by simp [hul2,hRl];omega),hRt]
    rw [hA];simp only [List.toList_toArray]
    rw [e1,List.take_append_of_le_length (by simp [hol,hul2,hml];omega),List.take_of_length_le (by simp [hol,hul2,hml];omega),holds,hmv2]
  · refine ⟨by rw [hW2];exact hgr1.os,by rw [hW2];exact hgr1.tape,by rw [hW2];exact hgr1.output,?_,fun k hk hne => ?_⟩
    · have:(W2.setRow N A).heap.size=W1.heap.size:=by rw [hW2];simp [World.setRow,World.drew]
      rw [this];exact hgr1.size
    · rw [setRow_other _ _ _ _ (by omega),hW2]
      show (W1.setRow N R1).heap[k]?=_
      rw [setRow_other _ _ _ _ (by omega)];exact hold k hk
 exact ⟨G,N,W1,R1,W2,A,hN,hGn,hGm,hrz,hcp1,hW2.symm,hcp2,kA⟩
end
set_option maxRecDepth 1000000 in
theorem InsEnd200 (w:World) (S:Value) (n:Nat) (vals:List Value) (hS:w.ownsRow 0 9 1 S n vals) (gv m vc:Nat) (us:List Value) (hul:us.length=m) (hus:∀ j u,us[j]?=some u→w.cell? ⟨gv,j,none⟩=some u) (h1u:∀ v ∈ us,v.oneCell'=true) (hm:0<m) (hb:(n+m)*16≤140737488355328) :
  Calls Tryz.prog 200 #[S,.int .i64 n,.slice (some ⟨gv,0,none⟩) m vc] w fun e w'=>∃ R,e = .returned R∧w'.ownsRow 0 9 1 R (n+m) (vals++us)∧jp_ w w' (fun b=>ck_ S b≠0) ∧
   ∀ b,ck_ R b≠0→(w.heap.size≤b∨ck_ S b≠0)∧b<w'.heap.size:=by
 obtain ⟨i0,hi0⟩:=Option.isSome_iff_exists.1 (show (Tryz.prog.info? 9).isSome=true by kernel_rfl)
 have hz0:i0.size=1:=by
  have:(Tryz.prog.info? 9).map (·.size)=some 1:=by kernel_rfl
  rw [hi0] at this;simpa using this
 have hz1:i0.bytes=16:=by
  have:(Tryz.prog.info? 9).map (·.bytes)=some 16:=by kernel_rfl
  rw [hi0] at this;simpa using this
 have hz2:i0.zero=some (.string ByteArray.empty):=by
  have:(Tryz.prog.info? 9).bind (·.zero)=some (.string ByteArray.empty):=by kernel_rfl
  rw [hi0] at this;simpa using this
 have hz3:¬ ((m:Int)=0):=by omega
 have mixed:Tryz.prog.follows .mixedOrders=true:=by kernel_rfl
 have key:∀ ty,∃ v' w',(Builtin.append_ #[44,44] ty #[S,.slice (some ⟨gv,0,none⟩) m vc]).run Tryz.prog w = .ok v' w'∧w'.ownsRow 0 9 1 v' (n+m) (vals++us)∧jp_ w w' (fun b=>ck_ S b≠0) ∧
   ∀ b,ck_ v' b≠0→(w.heap.size≤b∨ck_ S b≠0)∧b<w'.heap.size:=fun ty=>by
  have:=fz_ (P:=Tryz.prog) w 44 ty 9 i0 _ Tryz.underlying44 hi0 hz2 (by rw [hz0];rfl) (by rw [hz0];decide) S n vals (by rw [hz0];exact hS) (.slice (some ⟨gv,0,none⟩) m vc) m us (by rw [hz0,Nat.mul_one];exact hul) (.inl ⟨_,_,rfl,fun j u h=>by rw [Addr.add_lit,Nat.zero_add];exact hus j u h⟩) h1u (by unfold maxLen;omega) (by rw [hz1];exact hb)
  rw [hz0] at this
  exact this
 obtain ⟨v',w',k1,k2,k3⟩:=key 44
 rcases (d8_.1 hS).2 with ⟨rfl,rfl⟩|⟨g,c,cur,rfl,-,hg,hnc,hcm,hcs,htake⟩
 · clear key hS hus hz2 hi0 hz0 hz1
   go_enter Tryz.func200,Tryz.ntmps200
   go_wp2_with (at_builtin;refine Lib.wpList_append_run _ rfl _ _ 44 44 rfl _ _ rfl rfl _ _ k1 ?_)
   go_ret
   exact ⟨_,rfl,k2,k3⟩
 · clear key hS hus hz2 hg htake hcs hi0 hz0 hz1
   unfold maxLen at hcm
   go_enter Tryz.func200,Tryz.ntmps200
   go_wp2_with (at_builtin;refine Lib.wpList_append_run _ rfl _ _ 44 44 rfl _ _ rfl rfl _ _ k1 ?_)
   all_goals (go_ret;exact ⟨_,rfl,k2,k3⟩)
set_option maxRecDepth 1000000 in
theorem te_ (w:World) (S:Value) (n i:Nat) (vals:List Value) (hS:w.ownsRow 0 9 1 S n vals) (U:Value) (us:List Value) (hU:w.ownsRow 0 9 1 U 0 us) (hi:i≤n) :
  Calls Tryz.prog 200 #[S,.int .i64 i,U] w fun e w'=>e = .returned S∧w'=w:=by
 rcases (d8_.1 hS).2 with ⟨rfl,rfl⟩|⟨g,c,cur,rfl,-,hg,hnc,hcm,hcs,htake⟩
 · have hi0:i=0:=by omega
   subst hi0
   rcases (d8_.1 hU).2 with ⟨rfl,-⟩|⟨gv,vc,curv,rfl,-,hgv,hmc,hcm,hcs,htake⟩
   · clear hS hU
     go_enter Tryz.func200,Tryz.ntmps200
     go_wp2_with fail
     go_ret
     exact ⟨rfl,rfl⟩
   · clear hS hU hgv hcs htake
     go_enter Tryz.func200,Tryz.ntmps200
     go_wp2_with fail
     go_ret
     exact ⟨rfl,rfl⟩
 · unfold maxLen at hcm
   have hic:i≤c:=by omega
   rcases (d8_.1 hU).2 with ⟨rfl,-⟩|⟨gv,vc,curv,rfl,-,hgv,hmc,hcm2,hcs2,htake2⟩
   · clear hS hU hg hcs htake
     go_enter Tryz.func200,Tryz.ntmps200
     go_wp2_with fail
     all_goals (go_ret;exact ⟨rfl,rfl⟩)
   · clear hS hU hg hcs htake hgv hcs2 htake2
     go_enter Tryz.func200,Tryz.ntmps200
     go_wp2_with fail
     all_goals (go_ret;exact ⟨rfl,rfl⟩)
set_option maxRecDepth 1000000 in
theorem q8_ (w:World) (g n c i:Nat) (cur:Array Value) (hg:w.heap[g]?=some (.cells cur 9 (0,0))) (hs:cur.size=c) (hc:c≤9223372036854775807) (hi:i<n)
  (gv m vc:Nat) (curv:Array Value) (Tv:TypeId) (hgv:w.heap[gv]?=some (.cells curv Tv (0,0))) (hmv:m≤curv.size) (hne:gv≠g) (us:List Value) (hul:us=curv.toList.take (m)) (h1u:∀ v ∈ us,v.oneCell'=true) (hm:0<m) (hroom:n+m≤c)
  (h1:∀ v ∈ cur.toList.take (n),v.oneCell'=true) :
  Calls Tryz.prog 200 #[.slice (some ⟨g,0,none⟩) n c,.int .i64 i,.slice (some ⟨gv,0,none⟩) m vc] w fun e w'=>e = .returned (.slice (some ⟨g,0,none⟩) (n+m) c) ∧
   ∃ A,w'=w.drew.setRow g A∧A.size=cur.size∧A.toList.take ((n+m))=(cur.toList.take (n)).take (i)++us++(cur.toList.take (n)).drop (i):=by
 have hsz:(Tryz.prog.info? 9).map (·.size)=some 1:=by kernel_rfl
 have hul2:us.length=m:=by rw [hul,List.length_take,Array.length_toList];omega
 have hov:∀ lb cb,(callFunc 221 #[.slice (some ⟨gv,0,none⟩) m vc,.slice (some ⟨g,(i+m),none⟩) lb cb]).run Tryz.prog w = .ok (.value (.bool false)) w:=fun lb cb=>by
  rw [run_callFunc_extern Tryz.func221 (by kernel_rfl) (by kernel_rfl) (by kernel_rfl) (e:=Extern.SlicesOverlaps.overlaps #[44,44] #[4]) (by kernel_rfl),
   Lib.run_overlaps_apart w 44 4 9 Tryz.underlying44 1 Tryz.sizeOf9 ⟨gv,0,none⟩ ⟨g,(i+m),none⟩ m vc lb cb hne Tv 9 curv.size cur.size (by simp [World.shape?,hgv]) (by simp [World.shape?,hg]) (by omega) (by simp [World.frozen?,hgv]) (by simp [World.frozen?,hgv])]
  rfl
 obtain ⟨mv,hmv2⟩:∃ mv,mv=(cur.toList.take (n)).drop (i):=⟨_,rfl⟩
 have hml:mv.length=(n - i):=by rw [hmv2];simp [hs];omega
 have hgd:w.drew.heap[g]?=some (.cells cur 9 (0,0)):=hg
 obtain ⟨B,hB⟩:∃ B,B=(cur.toList.take ((i+m))++mv++cur.toList.drop ((i+m)+mv.length)).toArray:=⟨_,rfl⟩
 have hcp1:∀ ty dc sc,(Builtin.copy_ #[44,44] ty #[.slice (some ⟨g,(i+m),none⟩) (n+m - (i+m)) dc,.slice (some ⟨g,i,none⟩) (n+m - i) sc]).run Tryz.prog w.drew = .ok (goInt (n - i)) (w.drew.setRow g B):=fun ty dc sc=>by
  have:=cW_ (P:=Tryz.prog) w.drew 44 44 ty 9 1 g ((i+m)) (n+m - (i+m)) dc ⟨g,i,none⟩ (n+m - i) sc cur 9 mv Tryz.underlying44 hsz hgd (by rw [hml];simp only [Nat.min_def];split<;>omega)
   (fun j v hj=>by
     have hj2:=(List.getElem?_eq_some_iff.1 hj).1
     rw [hmv2,List.getElem?_drop,List.getElem?_take_of_lt (by omega),Array.getElem?_toList] at hj
     rw [Addr.add_lit]
     simp only [World.cell?,hgd]
     exact hj) (by rw [hml,hs];omega) (fun v hv=>h1 v (by rw [hmv2] at hv;exact List.mem_of_mem_drop hv))
  rw [this,hB]
  congr 2
  simp only [Nat.min_def];split<;>omega
 have hBs:B.size=cur.size:=by rw [hB];simp [hml,hs];omega
 have hgB:(w.drew.setRow g B).heap[g]?=some (.cells B 9 (0,0)):=setRow_heap _ _ _ _ _ _ hgd
 obtain ⟨A,hA⟩:∃ A,A=(B.toList.take (i)++us++B.toList.drop (i+us.length)).toArray:=⟨_,rfl⟩
 have hcp2:∀ ty dc,(Builtin.copy_ #[44,44] ty #[.slice (some ⟨g,i,none⟩) (n+m - i) dc,.slice (some ⟨gv,0,none⟩) m vc]).run Tryz.prog (w.drew.setRow g B) = .ok (goInt m) (w.drew.setRow g A):=fun ty dc=>by
  have:=cW_ (P:=Tryz.prog) (w.drew.setRow g B) 44 44 ty 9 1 g (i) (n+m - i) dc ⟨gv,0,none⟩ m vc B 9 us Tryz.underlying44 hsz hgB (by rw [hul2];simp only [Nat.min_def];split<;>omega)
   (fun j v hj=>by
     have hj2:=(List.getElem?_eq_some_iff.1 hj).1
     rw [hul,List.getElem?_take_of_lt (by omega),Array.getElem?_toList] at hj
     rw [Addr.add_lit,Nat.zero_add]
     have e:(w.drew.setRow g B).heap[gv]?=some (.cells curv Tv (0,0)):=by rw [setRow_other _ _ _ _ hne];exact hgv
     simp only [World.cell?,e]
     exact hj) (by rw [hul2,hBs,hs];omega) h1u
  rw [this,hA,setRow_setRow]
  congr 2
  simp only [Nat.min_def];split<;>omega
 have kA:Hid (A.size=cur.size∧A.toList.take ((n+m))=(cur.toList.take (n)).take (i)++us++mv):=by
  have e1:B.toList.take (i)=(cur.toList.take (n)).take (i):=by
   rw [hB];simp only [List.toList_toArray,List.append_assoc]
   rw [List.take_append_of_le_length (by simp [hs];omega),List.take_take,List.take_take]
   congr 1;omega
  have e2:(B.toList.drop (i+us.length)).take mv.length=mv:=by
   rw [hB];simp only [List.toList_toArray,List.append_assoc]
   rw [List.drop_append,List.drop_eq_nil_of_le (by simp [hul2,hs];omega),List.nil_append,List.length_take,show i+us.length - min ((i+m)) cur.toList.length=0 by simp [hul2,hs];omega,List.drop_zero,List.take_append_of_le_length (Nat.le_refl _),List.take_of_length_le (Nat.le_refl _)]
  refine ⟨by rw [hA];simp [hul2,hBs,hs];omega,?_⟩
  rw [hA];simp only [List.toList_toArray]
  rw [List.take_append,List.take_of_length_le (by simp [hul2,hBs,hs];omega),e1]
  congr 1
  rw [show (n+m) - (List.take (i) (List.take (n) cur.toList)++us).length=mv.length by simp [hul2,hml,hs];omega]
  exact e2
 rw [hmv2] at kA
 have hnc:n≤c:=by omega
 have hic:i≤c:=by omega
 have hz1:¬ ((m:Int)=0):=by omega
 have hz2:¬ ((i:Int)=(n:Int)):=by omega
 have mixed:Tryz.prog.follows .mixedOrders=true:=by kernel_rfl
 have hw1:IntKind.i64.wrap ((i:Int)+(m:Int))=(i:Int)+(m:Int):=by rw [IntKind.wrap_i64];omega
 have hb1:(0:Int)≤(i:Int)+(m:Int):=by omega
 have hin:i≤n:=by omega
 have htn:((i:Int)+(m:Int)).toNat=i+m:=by omega
 have hb2:¬ (c=i+m):=by omega
 have hb3:(i:Int)≤(n:Int)+(m:Int):=by omega
 have hb4:¬ (c=i):=by omega
 clear hB hBs hgB hA hmv2 hml hgd hg hgv hul hul2 h1 h1u hsz hs hmv
 go_enter Tryz.func200,Tryz.ntmps200
 go_wp2_with (simp only [hov])
 go_region_law_o (refine eG_ rfl _ _ 44 44 rfl _ _ (by simp [Act.eval,Act.put]) (by simp [Act.eval,Act.put]) (hcp1 _ _ _) ?_)
 go_wp2_with (at_builtin;refine f9_ _ rfl _ _ 44 44 rfl _ _ rfl rfl (hcp2 _ _) ?_)
 go_ret
 exact ⟨rfl,A,rfl,kA.out.1,kA.out.2⟩
set_option maxRecDepth 1000000 in
theorem tg_ (w:World) (g n c i:Nat) (cur:Array Value) (hg:w.heap[g]?=some (.cells cur 9 (0,0))) (hs:cur.size=c) (hnc:n≤c) (hi:i<n)
  (gv m vc:Nat) (curv:Array Value) (Tv:TypeId) (hgv:w.heap[gv]?=some (.cells curv Tv (0,0))) (hmv:m≤curv.size) (us:List Value) (hul:us=curv.toList.take (m)) (h1u:∀ v ∈ us,v.oneCell'=true) (hm:0<m) (hroom:c<n+m)
  (hbig:(n+m)*16≤140737488355328) (h1:∀ v ∈ cur.toList.take (n),v.oneCell'=true) :
  Calls Tryz.prog 200 #[.slice (some ⟨g,0,none⟩) n c,.int .i64 i,.slice (some ⟨gv,0,none⟩) m vc] w fun e w'=>∃ C A,e = .returned (.slice (some ⟨w.heap.size,0,none⟩) (n+m) C)∧n+m≤C∧C≤maxLen ∧
   w'.heap[w.heap.size]?=some (.cells A 9 (0,0))∧A.size=C∧A.toList.take ((n+m))=(cur.toList.take (n)).take (i)++us++(cur.toList.take (n)).drop (i)∧w.grownBy w' none:=by
 obtain ⟨i0,hi0⟩:=Option.isSome_iff_exists.1 (show (Tryz.prog.info? 9).isSome=true by kernel_rfl)
 have hz0:i0.size=1:=by
  have:(Tryz.prog.info? 9).map (·.size)=some 1:=by kernel_rfl
  rw [hi0] at this;simpa using this
 have hz1:i0.bytes=16:=by
  have:(Tryz.prog.info? 9).map (·.bytes)=some 16:=by kernel_rfl
  rw [hi0] at this;simpa using this
 have hz2:i0.zero=some (.string ByteArray.empty):=by
  have:(Tryz.prog.info? 9).bind (·.zero)=some (.string ByteArray.empty):=by kernel_rfl
  rw [hi0] at this;simpa using this
 obtain ⟨G,N,W1,R1,W2,A,hNN,hGn,hGm,hrz,hcp1,hW2',hcp2,kA⟩:=sL_ 44 9 3 _ i0 Tryz.underlying44 Tryz.underlying3 hi0 hz2 hz0 hz1 rfl w g n c i cur hg hs hnc hi gv m vc curv Tv hgv hmv us hul h1u hm hroom hbig h1
 have hic:i≤c:=by omega
 have hz3:¬ ((m:Int)=0):=by omega
 have hz4:¬ ((i:Int)=(n:Int)):=by omega
 have hz5:(c:Int)<(n:Int)+(m:Int):=by omega
 have mixed:Tryz.prog.follows .mixedOrders=true:=by kernel_rfl
 have hG63:G≤9223372036854775807:=by unfold maxLen at hGm;omega
 have hw1:IntKind.i64.wrap ((n:Int)+(m:Int))=(n:Int)+(m:Int):=by rw [IntKind.wrap_i64];omega
 have hw2:IntKind.i64.wrap ((n:Int)+(m:Int) - (i:Int))=(n:Int)+(m:Int) - (i:Int):=by rw [IntKind.wrap_i64];omega
 have hw3:IntKind.i64.wrap ((i:Int)+(m:Int))=(i:Int)+(m:Int):=by rw [IntKind.wrap_i64];omega
 have hb1:(0:Int)≤(i:Int)+(m:Int):=by omega
 have htn:((i:Int)+(m:Int)).toNat=i+m:=by omega
 have hGi:¬ (G=i):=by omega
 have hGim:¬ (G=i+m):=by omega
 have hb3:(i:Int)≤(n:Int)+(m:Int):=by omega
 have hb4:¬ (c=i):=by omega
 have hinm:i≤n+m:=by omega
 have himn:i+m≤n+m:=by omega
 have hin:i≤n:=by omega
 clear hul h1 h1u hg hgv hs hmv hz0 hz1 hz2 hi0 hbig
 go_enter Tryz.func200,Tryz.ntmps200
 go_wp2_with (at_builtin;refine Lib.wpList_append_run _ rfl _ _ 44 3 rfl _ _ rfl rfl _ _ (hrz _) ?_)
 go_region_law_o (simp only [hW2'];refine eG_ rfl _ _ 44 44 rfl _ _ (by simp [Act.eval,Act.put]) (by simp [Act.eval,Act.put]) (hcp2 _ _ _) ?_)
 go_wp2_with fail
 go_ret
 exact ⟨G,A,by rw [hNN.out];rfl,kA.out⟩
theorem insM200:InsM Tryz.prog 200 9 1 16:=by
 intro w S n vals U m us i hS hU hdis hi h1 h1u hb
 simp only [Nat.mul_one]
 have hvl:=(d8_.1 hS).1
 by_cases hm:m=0
 · subst hm
   have hus:us=[]:=by have:=(d8_.1 hU).1;(try rw [Nat.zero_mul] at this);exact List.eq_nil_of_length_eq_zero this
   subst hus
   refine (te_ w S n i vals hS U [] hU hi).mono ?_
   rintro e w' ⟨rfl,rfl⟩
   refine ⟨S,rfl,by rw [List.append_nil,List.take_append_drop];exact hS,⟨rfl,rfl,rfl,Nat.le_refl _,fun _ _ _=>rfl⟩,fun b hb=>⟨.inr hb,kb_ hS b hb⟩⟩
 · rcases (d8_.1 hU).2 with ⟨rfl,h0⟩|⟨gv,vc,curv,rfl,-,hgv,hmc,hcm,hcs,htake⟩
   · exact absurd h0 hm
   · by_cases hin:i=n
     · subst hin
       rw [List.take_of_length_le (by omega),List.drop_eq_nil_of_le (by omega),List.append_nil]
       exact InsEnd200 w S i vals hS gv m vc us (d8_.1 hU).1 (fun j u h=>by have:=hU.cells (g:=gv) rfl j u h;rwa [Addr.add_lit,Nat.zero_add] at this) h1u (by omega) hb
     · rcases (d8_.1 hS).2 with ⟨rfl,h0⟩|⟨g,c,cur,rfl,-,hg,hnc,hcm',hcs',htake'⟩
       · omega
       · have hne:gv≠g:=fun e=>by subst e;have:=hdis gv (by simp [ck_]);simp [ck_] at this
         have hmv:m≤curv.size:=by rw [hcs];exact hmc
         by_cases hroom:n+m≤c
         · refine (q8_ w g n c i cur hg hcs' (by unfold maxLen at hcm';omega) (by omega) gv m vc curv 9 hgv hmv hne us htake.symm h1u (by omega) hroom (by rw [htake'];exact h1)).mono ?_
           rintro e w' ⟨rfl,A,rfl,hA,ht⟩
           rw [htake'] at ht
           have hgd:w.drew.heap[g]?=some (.cells cur 9 (0,0)):=hg
           have hA2:=setRow_heap w.drew g cur A _ _ hgd
           refine ⟨_,rfl,d8_.2 ⟨by rw [←ht];simp [hA,hcs'];omega,.inr ⟨g,c,A,rfl,Nat.zero_le _,hA2,hroom,hcm',by rw [hA,hcs'],ht⟩⟩,⟨rfl,rfl,rfl,hk_ w g A,fun b _ hn => ?_⟩,fun b hb=>⟨.inr hb,?_⟩⟩
           · rw [setRow_other _ _ _ _ (fun e=>hn (by subst e;simp [ck_]))];rfl
           · have:g=b:=by simp only [ck_] at hb;exact Classical.byContradiction fun h=>hb (if_neg h)
             subst this
             exact (Array.getElem?_eq_some_iff.1 hA2).1
         · refine (tg_ w g n c i cur hg hcs' hnc (by omega) gv m vc curv 9 hgv hmv us htake.symm h1u (by omega) (by omega) hb (by rw [htake'];exact h1)).mono ?_
           rintro e w' ⟨C,A,rfl,hC,hCm,hN,hA,ht,hgr⟩
           rw [htake'] at ht
           refine ⟨_,rfl,d8_.2 ⟨by rw [←ht];simp [hA];omega,.inr ⟨_,C,A,rfl,Nat.zero_le _,hN,hC,hCm,hA,ht⟩⟩,⟨hgr.os,hgr.tape,hgr.output,hgr.size,fun b hb _=>hgr.block b hb (by simp)⟩,fun b hb => ?_⟩
           have:w.heap.size=b:=by simp only [ck_] at hb;exact Classical.byContradiction fun h=>hb (if_neg h)
           subst this
           exact ⟨.inl (Nat.le_refl _),(Array.getElem?_eq_some_iff.1 hN).1⟩
end Go.Proofs
namespace Go.Pi
open Go.Proofs
theorem b5_.ok (n:Nat):b5_.e.Oks E (cx n) n:=fun _ _ _ _ h=>qu_ (t:=.str) (m1:=.d) (m2:=.d) (by decide) (by decide) insM200 h
end Go.Pi
end
section
namespace Go.Proofs
open Go.Shelf Go.RowKit Go.Lib Go.Pi
section
variable {P:Program}
theorem sK_ (TS TE:TypeId) (TI:TypeId) (Z:Value) (i0:TypeInfo) (uS:P.underlying TS=some (.slice TE)) (uI:P.underlying TI=some (.int .i64)) (hi0:P.info? TE=some i0) (hz2:i0.zero=some Z) (hz0:i0.size=5) (hz1:i0.bytes=80) (hZK:Z.cells.size=5)
  (w:World) (g n c i:Nat) (cur:Array Value) (hg:w.heap[g]?=some (.cells cur TE (0,0))) (hs:cur.size=c*5) (hnc:n≤c) (hi:i<n)
  (gv m vc:Nat) (curv:Array Value) (Tv:TypeId) (hgv:w.heap[gv]?=some (.cells curv Tv (0,0))) (hmv:m*5≤curv.size) (us:List Value) (hul:us=curv.toList.take (m*5)) (h1u:∀ v ∈ us,v.oneCell'=true) (hm:0<m) (hroom:c<n+m)
  (hbig:(n+m)*80≤140737488355328) (h1:∀ v ∈ cur.toList.take (n*5),v.oneCell'=true) :
  ∃ G N W1 R1 W2 A,Hid (N=w.heap.size)∧n+m≤G∧G≤maxLen ∧
    (∀ ty,(Builtin.append_ #[TS,TI] ty #[.slice (some ⟨g,0,none⟩) i c,.int .i64 ((n:Int)+(m:Int) - (i:Int))]).run P w = .ok (.slice (some ⟨N,0,none⟩) (n+m) G) W1) ∧
    (∀ ty dc,(Builtin.copy_ #[TS,TS] ty #[.slice (some ⟨N,i*5,none⟩) (n+m - i) dc,.slice (some ⟨gv,0,none⟩) m vc]).run P W1 = .ok (goInt m) (W1.setRow N R1)) ∧
    (W1.setRow N R1).drew=W2 ∧
    (∀ ty dc sc,(Builtin.copy_ #[TS,TS] ty #[.slice (some ⟨N,(i+m)*5,none⟩) (n+m - (i+m)) dc,.slice (some ⟨g,i*5,none⟩) (n - i) sc]).run P W2 = .ok (goInt (n - i)) (W2.setRow N A)) ∧
    Hid (n+m≤G∧G≤maxLen∧(W2.setRow N A).heap[w.heap.size]?=some (.cells A TE (0,0))∧A.size=G*5∧A.toList.take ((n+m)*5)=(cur.toList.take (n*5)).take (i*5)++us++(cur.toList.take (n*5)).drop (i*5)∧w.grownBy (W2.setRow N A) none):=by
 have hul2:us.length=m*5:=by rw [hul,List.length_take,Array.length_toList];omega
 have hsz:(P.info? TE).map (·.size)=some 5:=by rw [hi0];simp [hz0]
 have hgd:w.drew.heap[g]?=some (.cells cur TE (0,0)):=hg
 have hgl:g<w.heap.size:=(Array.getElem?_eq_some_iff.1 hg).1
 have hgvl:gv<w.heap.size:=(Array.getElem?_eq_some_iff.1 hgv).1
 obtain ⟨olds,holds⟩:∃ olds,olds=(cur.toList.take (n*5)).take (i*5):=⟨_,rfl⟩
 have hol:olds.length=i*5:=by rw [holds];simp [hs];omega
 obtain ⟨G,hG⟩:∃ G,G=grownCap w (n+m) c TE:=⟨_,rfl⟩
 have hGn:n+m≤G:=by rw [hG];exact grownCap_ge w _ _ _
 have hGm:G≤maxLen:=by rw [hG];exact grownCap_le_maxLen w (n+m) c TE (by unfold maxLen;omega)
 obtain ⟨ROW,hROW⟩:∃ ROW:Array Value,ROW=olds.toArray++Builtin.zeroCells Z.cells (n+m - i)++Builtin.zeroCells Z.cells (G - (n+m)):=⟨_,rfl⟩
 have hRl:ROW.size=G*5:=by rw [hROW];simp [Builtin.zeroCells,hol,hZK];omega
 have hRt:ROW.toList.take (i*5)=olds:=by
  rw [hROW];simp only [Array.toList_append,List.append_assoc]
  rw [List.take_append_of_le_length (by simp [hol]),List.take_of_length_le (by simp [hol])]
 have hkk:(n:Int)+(m:Int) - (i:Int)=((n+m - i:Nat):Int):=by omega
 have hrz:∀ ty,(Builtin.append_ #[TS,TI] ty #[.slice (some ⟨g,0,none⟩) i c,.int .i64 ((n:Int)+(m:Int) - (i:Int))]).run P w =
   .ok (.slice (some ⟨w.heap.size,0,none⟩) (n+m) G) (w.drew.alloc (.cells ROW TE)):=fun ty=>by
  have h:=Lib.run_append_grow_zeros (P:=P) w TS TI ty TE i0 _ .i64 .i64 uS uI hi0 hz2 (some ⟨g,0,none⟩) i c olds (by
   rw [hz0]
   exact run_firstCells_some w.drew 5 i ⟨g,0,none⟩ i c olds hol (fun j v hj=>by
    have hj2:=(List.getElem?_eq_some_iff.1 hj).1
    rw [holds,List.getElem?_take_of_lt (by omega),List.getElem?_take_of_lt (by omega),Array.getElem?_toList] at hj
    rw [Addr.add_lit,Nat.zero_add]
    simp only [World.cell?,hgd]
    exact hj)) (n+m - i) (by omega) (by omega) (by omega) (by omega) (by rw [hz1];omega) (by rw [hz1,show i+(n+m - i)=n+m by omega];exact growslice_fits hroom hbig)
  rw [show i+(n+m - i)=n+m by omega,←hG,←hROW] at h
  rw [hkk]
  exact h
 obtain ⟨N,hN⟩:∃ N,N=w.heap.size:=⟨_,rfl⟩
 rw [←hN] at hrz
 obtain ⟨W1,hW1⟩:∃ W1,W1=w.drew.alloc (.cells ROW TE):=⟨_,rfl⟩
 rw [←hW1] at hrz
 have hN1:W1.heap[N]?=some (.cells ROW TE (0,0)):=by rw [hW1,hN];exact heap_alloc_new w.drew _
 have hold:∀ b,b<w.heap.size→W1.heap[b]?=w.heap[b]?:=fun b hb=>by rw [hW1];exact heap_alloc_old w.drew _ hb
 have hgr1:w.grownBy W1 none:=by rw [hW1];exact ⟨rfl,rfl,rfl,by simp,fun k hk _=>heap_alloc_old w.drew _ hk⟩
 obtain ⟨R1,hR1⟩:∃ R1,R1=(ROW.toList.take (i*5)++us++ROW.toList.drop (i*5+us.length)).toArray:=⟨_,rfl⟩
 have hR1s:R1.size=G*5:=by rw [hR1];simp [hul2,hRl];omega
 have hcp1:∀ ty dc,(Builtin.copy_ #[TS,TS] ty #[.slice (some ⟨N,i*5,none⟩) (n+m - i) dc,.slice (some ⟨gv,0,none⟩) m vc]).run P W1 = .ok (goInt m) (W1.setRow N R1):=fun ty dc=>by
  have:=cW_ (P:=P) W1 TS TS ty TE 5 N (i*5) (n+m - i) dc ⟨gv,0,none⟩ m vc ROW TE us uS hsz hN1 (by rw [hul2];simp only [Nat.min_def];split<;>omega)
   (fun j v hj=>by
     have hj2:=(List.getElem?_eq_some_iff.1 hj).1
     rw [hul,List.getElem?_take_of_lt (by omega),Array.getElem?_toList] at hj
     rw [Addr.add_lit,Nat.zero_add]
     simp only [World.cell?,hold gv hgvl,hgv]
     exact hj) (by rw [hul2,hRl];omega) h1u
  rw [this,hR1]
  congr 2
  simp only [Nat.min_def];split<;>omega
 obtain ⟨W2,hW2⟩:∃ W2,W2=(W1.setRow N R1).drew:=⟨_,rfl⟩
 have hN2:W2.heap[N]?=some (.cells R1 TE (0,0)):=by rw [hW2];exact setRow_heap _ _ _ _ _ _ hN1
 have hg2:W2.heap[g]?=some (.cells cur TE (0,0)):=by
  rw [hW2];show (W1.setRow N R1).heap[g]?=_
  rw [setRow_other _ _ _ _ (by omega),hold g hgl];exact hg
 obtain ⟨mv,hmv2⟩:∃ mv,mv=(cur.toList.take (n*5)).drop (i*5):=⟨_,rfl⟩
 have hml:mv.length=(n - i)*5:=by rw [hmv2];simp [hs];omega
 obtain ⟨A,hA⟩:∃ A,A=(R1.toList.take ((i+m)*5)++mv++R1.toList.drop ((i+m)*5+mv.length)).toArray:=⟨_,rfl⟩
 have hcp2:∀ ty dc sc,(Builtin.copy_ #[TS,TS] ty #[.slice (some ⟨N,(i+m)*5,none⟩) (n+m - (i+m)) dc,.slice (some ⟨g,i*5,none⟩) (n - i) sc]).run P W2 = .ok (goInt (n - i)) (W2.setRow N A):=fun ty dc sc=>by
  have:=cW_ (P:=P) W2 TS TS ty TE 5 N ((i+m)*5) (n+m - (i+m)) dc ⟨g,i*5,none⟩ (n - i) sc R1 TE mv uS hsz hN2 (by rw [hml];simp only [Nat.min_def];split<;>omega)
   (fun j v hj=>by
     have hj2:=(List.getElem?_eq_some_iff.1 hj).1
     rw [hmv2,List.getElem?_drop,List.getElem?_take_of_lt (by omega),Array.getElem?_toList] at hj
     rw [Addr.add_lit]
     simp only [World.cell?,hg2]
     exact hj) (by rw [hml,hR1s];omega) (fun v hv=>h1 v (by rw [hmv2] at hv;exact List.mem_of_mem_drop hv))
  rw [this,hA]
  congr 2
  simp only [Nat.min_def];split<;>omega
 have kA:Hid (n+m≤G∧G≤maxLen∧(W2.setRow N A).heap[w.heap.size]?=some (.cells A TE (0,0))∧A.size=G*5∧A.toList.take ((n+m)*5)=(cur.toList.take (n*5)).take (i*5)++us++(cur.toList.take (n*5)).drop (i*5)∧w.grownBy (W2.setRow N A) none):=by
  refine ⟨hGn,hGm,by rw [←hN];exact setRow_heap _ _ _ _ _ _ hN2,by rw [hA];simp [hml,hR1s];omega,?_,?_⟩
  · have e1:R1.toList.take ((i+m)*5)=olds++us:=by
     rw [hR1];simp only [List.toList_toArray]
     rw [List.take_append_of_le_length (by simp [hul2,hRl];omega),List.take_of_length_le (by simp [hul2,hRl];omega),hRt]
    rw [hA];simp only [List.toList_toArray]
    rw [e1,List.take_append_of_le_length (by simp [hol,hul2,hml];omega),List.take_of_length_le (by simp [hol,hul2,hml];omega),holds,hmv2]
  · refine ⟨by rw [hW2];exact hgr1.os,by rw [hW2];exact hgr1.tape,by rw [hW2];exact hgr1.output,?_,fun k hk hne => ?_⟩
    · have:(W2.setRow N A).heap.size=W1.heap.size:=by rw [hW2];simp [World.setRow,World.drew]
      rw [this];exact hgr1.size
    · rw [setRow_other _ _ _ _ (by omega),hW2]
      show (W1.setRow N R1).heap[k]?=_
      rw [setRow_other _ _ _ _ (by omega)];exact hold k hk
 exact ⟨G,N,W1,R1,W2,A,hN,hGn,hGm,hrz,hcp1,hW2.symm,hcp2,kA⟩
end
set_option maxRecDepth 1000000 in
theorem InsEnd201 (w:World) (S:Value) (n:Nat) (vals:List Value) (hS:w.ownsRow 0 46 5 S n vals) (gv m vc:Nat) (us:List Value) (hul:us.length=m*5) (hus:∀ j u,us[j]?=some u→w.cell? ⟨gv,j,none⟩=some u) (h1u:∀ v ∈ us,v.oneCell'=true) (hm:0<m) (hb:(n+m)*80≤140737488355328) :
  Calls Tryz.prog 201 #[S,.int .i64 n,.slice (some ⟨gv,0,none⟩) m vc] w fun e w'=>∃ R,e = .returned R∧w'.ownsRow 0 46 5 R (n+m) (vals++us)∧jp_ w w' (fun b=>ck_ S b≠0) ∧
   ∀ b,ck_ R b≠0→(w.heap.size≤b∨ck_ S b≠0)∧b<w'.heap.size:=by
 obtain ⟨i0,hi0⟩:=Option.isSome_iff_exists.1 (show (Tryz.prog.info? 46).isSome=true by kernel_rfl)
 have hz0:i0.size=5:=by
  have:(Tryz.prog.info? 46).map (·.size)=some 5:=by kernel_rfl
  rw [hi0] at this;simpa using this
 have hz1:i0.bytes=80:=by
  have:(Tryz.prog.info? 46).map (·.bytes)=some 80:=by kernel_rfl
  rw [hi0] at this;simpa using this
 have hz2:i0.zero=some (.agg #[.int .i64 0,.int .i64 0,.string ByteArray.empty,.slice none 0 0,.slice none 0 0]):=by
  have:(Tryz.prog.info? 46).bind (·.zero)=some (.agg #[.int .i64 0,.int .i64 0,.string ByteArray.empty,.slice none 0 0,.slice none 0 0]):=by kernel_rfl
  rw [hi0] at this;simpa using this
 have hz3:¬ ((m:Int)=0):=by omega
 have mixed:Tryz.prog.follows .mixedOrders=true:=by kernel_rfl
 have key:∀ ty,∃ v' w',(Builtin.append_ #[43,43] ty #[S,.slice (some ⟨gv,0,none⟩) m vc]).run Tryz.prog w = .ok v' w'∧w'.ownsRow 0 46 5 v' (n+m) (vals++us)∧jp_ w w' (fun b=>ck_ S b≠0) ∧
   ∀ b,ck_ v' b≠0→(w.heap.size≤b∨ck_ S b≠0)∧b<w'.heap.size:=fun ty=>by
  have:=fz_ (P:=Tryz.prog) w 43 ty 46 i0 _ Tryz.underlying43 hi0 hz2 (by rw [hz0];rfl) (by rw [hz0];decide) S n vals (by rw [hz0];exact hS) (.slice (some ⟨gv,0,none⟩) m vc) m us (by rw [hz0];exact hul) (.inl ⟨_,_,rfl,fun j u h=>by rw [Addr.add_lit,Nat.zero_add];exact hus j u h⟩) h1u (by unfold maxLen;omega) (by rw [hz1];exact hb)
  rw [hz0] at this
  exact this
 obtain ⟨v',w',k1,k2,k3⟩:=key 43
 rcases hS.2 with ⟨rfl,rfl⟩|⟨g,c,cur,rfl,-,hg,hnc,hcm,hcs,htake⟩
 · clear key hS hus hz2 hi0 hz0 hz1
   go_enter Tryz.func201,Tryz.ntmps201
   go_wp2_with (at_builtin;refine Lib.wpList_append_run _ rfl _ _ 43 43 rfl _ _ rfl rfl _ _ k1 ?_)
   go_ret
   exact ⟨_,rfl,k2,k3⟩
 · clear key hS hus hz2 hg htake hcs hi0 hz0 hz1
   unfold maxLen at hcm
   go_enter Tryz.func201,Tryz.ntmps201
   go_wp2_with (at_builtin;refine Lib.wpList_append_run _ rfl _ _ 43 43 rfl _ _ rfl rfl _ _ k1 ?_)
   all_goals (go_ret;exact ⟨_,rfl,k2,k3⟩)
set_option maxRecDepth 1000000 in
theorem td_ (w:World) (S:Value) (n i:Nat) (vals:List Value) (hS:w.ownsRow 0 46 5 S n vals) (U:Value) (us:List Value) (hU:w.ownsRow 0 46 5 U 0 us) (hi:i≤n) :
  Calls Tryz.prog 201 #[S,.int .i64 i,U] w fun e w'=>e = .returned S∧w'=w:=by
 rcases hS.2 with ⟨rfl,rfl⟩|⟨g,c,cur,rfl,-,hg,hnc,hcm,hcs,htake⟩
 · have hi0:i=0:=by omega
   subst hi0
   rcases hU.2 with ⟨rfl,-⟩|⟨gv,vc,curv,rfl,-,hgv,hmc,hcm,hcs,htake⟩
   · clear hS hU
     go_enter Tryz.func201,Tryz.ntmps201
     go_wp2_with fail
     go_ret
     exact ⟨rfl,rfl⟩
   · clear hS hU hgv hcs htake
     go_enter Tryz.func201,Tryz.ntmps201
     go_wp2_with fail
     go_ret
     exact ⟨rfl,rfl⟩
 · unfold maxLen at hcm
   have hic:i≤c:=by omega
   rcases hU.2 with ⟨rfl,-⟩|⟨gv,vc,curv,rfl,-,hgv,hmc,hcm2,hcs2,htake2⟩
   · clear hS hU hg hcs htake
     go_enter Tryz.func201,Tryz.ntmps201
     go_wp2_with fail
     all_goals (go_ret;exact ⟨rfl,rfl⟩)
   · clear hS hU hg hcs htake hgv hcs2 htake2
     go_enter Tryz.func201,Tryz.ntmps201
     go_wp2_with fail
     all_goals (go_ret;exact ⟨rfl,rfl⟩)
set_option maxRecDepth 1000000 in
theorem q7_ (w:World) (g n c i:Nat) (cur:Array Value) (hg:w.heap[g]?=some (.cells cur 46 (0,0))) (hs:cur.size=c*5) (hc:c≤9223372036854775807) (hi:i<n)
  (gv m vc:Nat) (curv:Array Value) (Tv:TypeId) (hgv:w.heap[gv]?=some (.cells curv Tv (0,0))) (hmv:m*5≤curv.size) (hne:gv≠g) (us:List Value) (hul:us=curv.toList.take (m*5)) (h1u:∀ v ∈ us,v.oneCell'=true) (hm:0<m) (hroom:n+m≤c)
  (h1:∀ v ∈ cur.toList.take (n*5),v.oneCell'=true) :
  Calls Tryz.prog 201 #[.slice (some ⟨g,0,none⟩) n c,.int .i64 i,.slice (some ⟨gv,0,none⟩) m vc] w fun e w'=>e = .returned (.slice (some ⟨g,0,none⟩) (n+m) c) ∧
   ∃ A,w'=w.drew.setRow g A∧A.size=cur.size∧A.toList.take ((n+m)*5)=(cur.toList.take (n*5)).take (i*5)++us++(cur.toList.take (n*5)).drop (i*5):=by
 have hsz:(Tryz.prog.info? 46).map (·.size)=some 5:=by kernel_rfl
 have hul2:us.length=m*5:=by rw [hul,List.length_take,Array.length_toList];omega
 have hov:∀ lb cb,(callFunc 223 #[.slice (some ⟨gv,0,none⟩) m vc,.slice (some ⟨g,(i+m)*5,none⟩) lb cb]).run Tryz.prog w = .ok (.value (.bool false)) w:=fun lb cb=>by
  rw [run_callFunc_extern Tryz.func223 (by kernel_rfl) (by kernel_rfl) (by kernel_rfl) (e:=Extern.SlicesOverlaps.overlaps #[43,43] #[4]) (by kernel_rfl),
   Lib.run_overlaps_apart w 43 4 46 Tryz.underlying43 5 Tryz.sizeOf46 ⟨gv,0,none⟩ ⟨g,(i+m)*5,none⟩ m vc lb cb hne Tv 46 curv.size cur.size (by simp [World.shape?,hgv]) (by simp [World.shape?,hg]) (by omega) (by simp [World.frozen?,hgv]) (by simp [World.frozen?,hgv])]
  rfl
 obtain ⟨mv,hmv2⟩:∃ mv,mv=(cur.toList.take (n*5)).drop (i*5):=⟨_,rfl⟩
 have hml:mv.length=(n - i)*5:=by rw [hmv2];simp [hs];omega
 have hgd:w.drew.heap[g]?=some (.cells cur 46 (0,0)):=hg
 obtain ⟨B,hB⟩:∃ B,B=(cur.toList.take ((i+m)*5)++mv++cur.toList.drop ((i+m)*5+mv.length)).toArray:=⟨_,rfl⟩
 have hcp1:∀ ty dc sc,(Builtin.copy_ #[43,43] ty #[.slice (some ⟨g,(i+m)*5,none⟩) (n+m - (i+m)) dc,.slice (some ⟨g,i*5,none⟩) (n+m - i) sc]).run Tryz.prog w.drew = .ok (goInt (n - i)) (w.drew.setRow g B):=fun ty dc sc=>by
  have:=cW_ (P:=Tryz.prog) w.drew 43 43 ty 46 5 g ((i+m)*5) (n+m - (i+m)) dc ⟨g,i*5,none⟩ (n+m - i) sc cur 46 mv Tryz.underlying43 hsz hgd (by rw [hml];simp only [Nat.min_def];split<;>omega)
   (fun j v hj=>by
     have hj2:=(List.getElem?_eq_some_iff.1 hj).1
     rw [hmv2,List.getElem?_drop,List.getElem?_take_of_lt (by omega),Array.getElem?_toList] at hj
     rw [Addr.add_lit]
     simp only [World.cell?,hgd]
     exact hj) (by rw [hml,hs];omega) (fun v hv=>h1 v (by rw [hmv2] at hv;exact List.mem_of_mem_drop hv))
  rw [this,hB]
  congr 2
  simp only [Nat.min_def];split<;>omega
 have hBs:B.size=cur.size:=by rw [hB];simp [hml,hs];omega
 have hgB:(w.drew.setRow g B).heap[g]?=some (.cells B 46 (0,0)):=setRow_heap _ _ _ _ _ _ hgd
 obtain ⟨A,hA⟩:∃ A,A=(B.toList.take (i*5)++us++B.toList.drop (i*5+us.length)).toArray:=⟨_,rfl⟩
 have hcp2:∀ ty dc,(Builtin.copy_ #[43,43] ty #[.slice (some ⟨g,i*5,none⟩) (n+m - i) dc,.slice (some ⟨gv,0,none⟩) m vc]).run Tryz.prog (w.drew.setRow g B) = .ok (goInt m) (w.drew.setRow g A):=fun ty dc=>by
  have:=cW_ (P:=Tryz.prog) (w.drew.setRow g B) 43 43 ty 46 5 g (i*5) (n+m - i) dc ⟨gv,0,none⟩ m vc B 46 us Tryz.underlying43 hsz hgB (by rw [hul2];simp only [Nat.min_def];split<;>omega)
   (fun j v hj=>by
     have hj2:=(List.getElem?_eq_some_iff.1 hj).1
     rw [hul,List.getElem?_take_of_lt (by omega),Array.getElem?_toList] at hj
     rw [Addr.add_lit,Nat.zero_add]
     have e:(w.drew.setRow g B).heap[gv]?=some (.cells curv Tv (0,0)):=by rw [setRow_other _ _ _ _ hne];exact hgv
     simp only [World.cell?,e]
     exact hj) (by rw [hul2,hBs,hs];omega) h1u
  rw [this,hA,setRow_setRow]
  congr 2
  simp only [Nat.min_def];split<;>omega
 have kA:Hid (A.size=cur.size∧A.toList.take ((n+m)*5)=(cur.toList.take (n*5)).take (i*5)++us++mv):=by
  have e1:B.toList.take (i*5)=(cur.toList.take (n*5)).take (i*5):=by
   rw [hB];simp only [List.toList_toArray,List.append_assoc]
   rw [List.take_append_of_le_length (by simp [hs];omega),List.take_take,List.take_take]
   congr 1;omega
  have e2:(B.toList.drop (i*5+us.length)).take mv.length=mv:=by
   rw [hB];simp only [List.toList_toArray,List.append_assoc]
   rw [List.drop_append,List.drop_eq_nil_of_le (by simp [hul2,hs];omega),List.nil_append,List.length_take,show i*5+us.length - min ((i+m)*5) cur.toList.length=0 by simp [hul2,hs];omega,List.drop_zero,List.take_append_of_le_length (Nat.le_refl _),List.take_of_length_le (Nat.le_refl _)]
  refine ⟨by rw [hA];simp [hul2,hBs,hs];omega,?_⟩
  rw [hA];simp only [List.toList_toArray]
  rw [List.take_append,List.take_of_length_le (by simp [hul2,hBs,hs];omega),e1]
  congr 1
  rw [show (n+m)*5 - (List.take (i*5) (List.take (n*5) cur.toList)++us).length=mv.length by simp [hul2,hml,hs];omega]
  exact e2
 rw [hmv2] at kA
 have hnc:n≤c:=by omega
 have hic:i≤c:=by omega
 have hz1:¬ ((m:Int)=0):=by omega
 have hz2:¬ ((i:Int)=(n:Int)):=by omega
 have mixed:Tryz.prog.follows .mixedOrders=true:=by kernel_rfl
 have hw1:IntKind.i64.wrap ((i:Int)+(m:Int))=(i:Int)+(m:Int):=by rw [IntKind.wrap_i64];omega
 have hb1:(0:Int)≤(i:Int)+(m:Int):=by omega
 have hin:i≤n:=by omega
 have htn:((i:Int)+(m:Int)).toNat=i+m:=by omega
 have hb2:¬ (c=i+m):=by omega
 have hb3:(i:Int)≤(n:Int)+(m:Int):=by omega
 have hb4:¬ (c=i):=by omega
 clear hB hBs hgB hA hmv2 hml hgd hg hgv hul hul2 h1 h1u hsz hs hmv
 go_enter Tryz.func201,Tryz.ntmps201
 go_wp2_with (simp only [hov])
 go_region_law_o (refine eG_ rfl _ _ 43 43 rfl _ _ (by simp [Act.eval,Act.put]) (by simp [Act.eval,Act.put]) (hcp1 _ _ _) ?_)
 go_wp2_with (at_builtin;refine f9_ _ rfl _ _ 43 43 rfl _ _ rfl rfl (hcp2 _ _) ?_)
 go_ret
 exact ⟨rfl,A,rfl,kA.out.1,kA.out.2⟩
set_option maxRecDepth 1000000 in
theorem tf_ (w:World) (g n c i:Nat) (cur:Array Value) (hg:w.heap[g]?=some (.cells cur 46 (0,0))) (hs:cur.size=c*5) (hnc:n≤c) (hi:i<n)
  (gv m vc:Nat) (curv:Array Value) (Tv:TypeId) (hgv:w.heap[gv]?=some (.cells curv Tv (0,0))) (hmv:m*5≤curv.size) (us:List Value) (hul:us=curv.toList.take (m*5)) (h1u:∀ v ∈ us,v.oneCell'=true) (hm:0<m) (hroom:c<n+m)
  (hbig:(n+m)*80≤140737488355328) (h1:∀ v ∈ cur.toList.take (n*5),v.oneCell'=true) :
  Calls Tryz.prog 201 #[.slice (some ⟨g,0,none⟩) n c,.int .i64 i,.slice (some ⟨gv,0,none⟩) m vc] w fun e w'=>∃ C A,e = .returned (.slice (some ⟨w.heap.size,0,none⟩) (n+m) C)∧n+m≤C∧C≤maxLen ∧
   w'.heap[w.heap.size]?=some (.cells A 46 (0,0))∧A.size=C*5∧A.toList.take ((n+m)*5)=(cur.toList.take (n*5)).take (i*5)++us++(cur.toList.take (n*5)).drop (i*5)∧w.grownBy w' none:=by
 obtain ⟨i0,hi0⟩:=Option.isSome_iff_exists.1 (show (Tryz.prog.info? 46).isSome=true by kernel_rfl)
 have hz0:i0.size=5:=by
  have:(Tryz.prog.info? 46).map (·.size)=some 5:=by kernel_rfl
  rw [hi0] at this;simpa using this
 have hz1:i0.bytes=80:=by
  have:(Tryz.prog.info? 46).map (·.bytes)=some 80:=by kernel_rfl
  rw [hi0] at this;simpa using this
 have hz2:i0.zero=some (.agg #[.int .i64 0,.int .i64 0,.string ByteArray.empty,.slice none 0 0,.slice none 0 0]):=by
  have:(Tryz.prog.info? 46).bind (·.zero)=some (.agg #[.int .i64 0,.int .i64 0,.string ByteArray.empty,.slice none 0 0,.slice none 0 0]):=by kernel_rfl
  rw [hi0] at this;simpa using this
 obtain ⟨G,N,W1,R1,W2,A,hNN,hGn,hGm,hrz,hcp1,hW2',hcp2,kA⟩:=sK_ 43 46 3 _ i0 Tryz.underlying43 Tryz.underlying3 hi0 hz2 hz0 hz1 rfl w g n c i cur hg hs hnc hi gv m vc curv Tv hgv hmv us hul h1u hm hroom hbig h1
 have hic:i≤c:=by omega
 have hz3:¬ ((m:Int)=0):=by omega
 have hz4:¬ ((i:Int)=(n:Int)):=by omega
 have hz5:(c:Int)<(n:Int)+(m:Int):=by omega
 have mixed:Tryz.prog.follows .mixedOrders=true:=by kernel_rfl
 have hG63:G≤9223372036854775807:=by unfold maxLen at hGm;omega
 have hw1:IntKind.i64.wrap ((n:Int)+(m:Int))=(n:Int)+(m:Int):=by rw [IntKind.wrap_i64];omega
 have hw2:IntKind.i64.wrap ((n:Int)+(m:Int) - (i:Int))=(n:Int)+(m:Int) - (i:Int):=by rw [IntKind.wrap_i64];omega
 have hw3:IntKind.i64.wrap ((i:Int)+(m:Int))=(i:Int)+(m:Int):=by rw [IntKind.wrap_i64];omega
 have hb1:(0:Int)≤(i:Int)+(m:Int):=by omega
 have htn:((i:Int)+(m:Int)).toNat=i+m:=by omega
 have hGi:¬ (G=i):=by omega
 have hGim:¬ (G=i+m):=by omega
 have hb3:(i:Int)≤(n:Int)+(m:Int):=by omega
 have hb4:¬ (c=i):=by omega
 have hinm:i≤n+m:=by omega
 have himn:i+m≤n+m:=by omega
 have hin:i≤n:=by omega
 clear hul h1 h1u hg hgv hs hmv hz0 hz1 hz2 hi0 hbig
 go_enter Tryz.func201,Tryz.ntmps201
 go_wp2_with (at_builtin;refine Lib.wpList_append_run _ rfl _ _ 43 3 rfl _ _ rfl rfl _ _ (hrz _) ?_)
 go_region_law_o (simp only [hW2'];refine eG_ rfl _ _ 43 43 rfl _ _ (by simp [Act.eval,Act.put]) (by simp [Act.eval,Act.put]) (hcp2 _ _ _) ?_)
 go_wp2_with fail
 go_ret
 exact ⟨G,A,by rw [hNN.out];rfl,kA.out⟩
theorem insM201:InsM Tryz.prog 201 46 5 80:=by
 intro w S n vals U m us i hS hU hdis hi h1 h1u hb
 have hvl:=hS.1
 by_cases hm:m=0
 · subst hm
   have hus:us=[]:=by have:=hU.1;rw [Nat.zero_mul] at this;exact List.eq_nil_of_length_eq_zero this
   subst hus
   refine (td_ w S n i vals hS U [] hU hi).mono ?_
   rintro e w' ⟨rfl,rfl⟩
   refine ⟨S,rfl,by rw [List.append_nil,List.take_append_drop];exact hS,⟨rfl,rfl,rfl,Nat.le_refl _,fun _ _ _=>rfl⟩,fun b hb=>⟨.inr hb,kb_ hS b hb⟩⟩
 · rcases hU.2 with ⟨rfl,h0⟩|⟨gv,vc,curv,rfl,-,hgv,hmc,hcm,hcs,htake⟩
   · exact absurd h0 hm
   · by_cases hin:i=n
     · subst hin
       rw [List.take_of_length_le (by omega),List.drop_eq_nil_of_le (by omega),List.append_nil]
       exact InsEnd201 w S i vals hS gv m vc us hU.1 (fun j u h=>by have:=hU.cells (g:=gv) rfl j u h;rwa [Addr.add_lit,Nat.zero_add] at this) h1u (by omega) hb
     · rcases hS.2 with ⟨rfl,h0⟩|⟨g,c,cur,rfl,-,hg,hnc,hcm',hcs',htake'⟩
       · omega
       · have hne:gv≠g:=fun e=>by subst e;have:=hdis gv (by simp [ck_]);simp [ck_] at this
         have hmv:m*5≤curv.size:=by rw [hcs];exact Nat.mul_le_mul_right _ hmc
         by_cases hroom:n+m≤c
         · refine (q7_ w g n c i cur hg hcs' (by unfold maxLen at hcm';omega) (by omega) gv m vc curv 46 hgv hmv hne us htake.symm h1u (by omega) hroom (by rw [htake'];exact h1)).mono ?_
           rintro e w' ⟨rfl,A,rfl,hA,ht⟩
           rw [htake'] at ht
           have hgd:w.drew.heap[g]?=some (.cells cur 46 (0,0)):=hg
           have hA2:=setRow_heap w.drew g cur A _ _ hgd
           refine ⟨_,rfl,⟨by rw [←ht];simp [hA,hcs'];omega,.inr ⟨g,c,A,rfl,Nat.zero_le _,hA2,hroom,hcm',by rw [hA,hcs'],ht⟩⟩,⟨rfl,rfl,rfl,hk_ w g A,fun b _ hn => ?_⟩,fun b hb=>⟨.inr hb,?_⟩⟩
           · rw [setRow_other _ _ _ _ (fun e=>hn (by subst e;simp [ck_]))];rfl
           · have:g=b:=by simp only [ck_] at hb;exact Classical.byContradiction fun h=>hb (if_neg h)
             subst this
             exact (Array.getElem?_eq_some_iff.1 hA2).1
         · refine (tf_ w g n c i cur hg hcs' hnc (by omega) gv m vc curv 46 hgv hmv us htake.symm h1u (by omega) (by omega) hb (by rw [htake'];exact h1)).mono ?_
           rintro e w' ⟨C,A,rfl,hC,hCm,hN,hA,ht,hgr⟩
           rw [htake'] at ht
           refine ⟨_,rfl,⟨by rw [←ht];simp [hA];omega,.inr ⟨_,C,A,rfl,Nat.zero_le _,hN,hC,hCm,hA,ht⟩⟩,⟨hgr.os,hgr.tape,hgr.output,hgr.size,fun b hb _=>hgr.block b hb (by simp)⟩,fun b hb => ?_⟩
           have:w.heap.size=b:=by simp only [ck_] at hb;exact Classical.byContradiction fun h=>hb (if_neg h)
           subst this
           exact ⟨.inl (Nat.le_refl _),(Array.getElem?_eq_some_iff.1 hN).1⟩
end Go.Proofs
namespace Go.Pi
open Go.Proofs
theorem b0_.ok (n:Nat):b0_.e.Oks E (cx n) n:=fun _ _ _ _ h=>qu_ (t:=.iJson) (m1:=.d) (m2:=.d) (by decide) (by decide) insM201 h
end Go.Pi
end
section
namespace Go.Proofs
open Go.Shelf Go.RowKit Go.Lib Go.Pi
set_option maxRecDepth 1000000 in
theorem Delete204 (w:World) (g n c i j:Nat) (cur:Array Value) (hg:w.heap[g]?=some (.cells cur 46 (0,0))) (hs:cur.size=c*5) (hn:n≤c) (hc:c≤9223372036854775807) (hij:i<j) (hj:j≤n)
  (h1:∀ v ∈ cur.toList.take (n*5),v.oneCell'=true) :
  Calls Tryz.prog 204 #[.slice (some ⟨g,0,none⟩) n c,.int .i64 i,.int .i64 j] w fun e w'=>e = .returned (.slice (some ⟨g,0,none⟩) (n - (j - i)) c) ∧
   ∃ A,w'=w.drew.setRow g A∧A.size=cur.size∧A.toList.take ((n - (j - i))*5)=(cur.toList.take (n*5)).take (i*5)++(cur.toList.take (n*5)).drop (j*5):=by
 have hic:i≤c:=by omega
 have hjc:j≤c:=by omega
 obtain ⟨news,hnews⟩:∃ news,news=(cur.toList.take (n*5)).drop (j*5):=⟨_,rfl⟩
 have hlen:news.length=(n - j)*5:=by rw [hnews,List.length_drop,List.length_take,Array.length_toList,hs];omega
 have hgd:w.drew.heap[g]?=some (.cells cur 46 (0,0)):=hg
 obtain ⟨A,hA,hsrc⟩:∃ A:Addr,(if c=j then some (⟨g,0,none⟩:Addr) else some ⟨g,j*5,none⟩)=some A∧Hid (∀ t u,news[t]?=some u→w.drew.cell? (A.add t)=some u):=by
  by_cases h:c=j
  · refine ⟨⟨g,0,none⟩,by simp [h],fun t u hu => ?_⟩
    have h0:news.length=0:=by rw [hlen];omega
    rw [List.length_eq_zero_iff.1 h0] at hu
    simp at hu
  · refine ⟨⟨g,j*5,none⟩,by simp [h],fun t u hu => ?_⟩
    have ht:=(List.getElem?_eq_some_iff.1 hu).1
    rw [hlen] at ht
    rw [hnews,List.getElem?_drop,List.getElem?_take_of_lt (by omega),Array.getElem?_toList] at hu
    rw [Addr.add_lit]
    simp only [World.cell?,hgd]
    exact hu
 obtain ⟨i0,hi0⟩:=Option.isSome_iff_exists.1 (show (Tryz.prog.info? 46).isSome=true by kernel_rfl)
 have hz0:i0.size=5:=by
  have:(Tryz.prog.info? 46).map (·.size)=some 5:=by kernel_rfl
  rw [hi0] at this
  simpa using this
 have hr1:∀ ty,(Builtin.append_ #[43,43] ty #[.slice (some ⟨g,0,none⟩) i c,.slice (some A) (n - j) (c - j)]).run Tryz.prog w.drew = .ok (.slice (some ⟨g,0,none⟩) (i+(n - j)) c) (w.drew.setRow g (cur.toList.take (i*5)++news++cur.toList.drop (i*5+news.length)).toArray):=fun ty=>by
  have:=run_append_room (P:=Tryz.prog) w.drew 43 ty 46 i0 Tryz.underlying43 hi0 g i c cur hgd A (n - j) (c - j) news (by rw [hlen,hz0];try rw [Nat.mul_one]) hsrc.out (fun u hu=>h1 u (by rw [hnews] at hu;exact List.mem_of_mem_drop hu)) (by omega) (by rw [hz0,hlen,hs];omega)
  rw [hz0] at this
  first|exact this|(rw [Nat.mul_one] at this;exact this)
 obtain ⟨B,hB⟩:∃ B,B=(cur.toList.take (i*5)++news++cur.toList.drop (i*5+news.length)).toArray:=⟨_,rfl⟩
 have hBs:B.size=cur.size:=by rw [hB];simp [hlen,hs];omega
 have hBt:B.toList.take ((i+(n - j))*5)=(cur.toList.take (n*5)).take (i*5)++news:=by
  rw [hB]
  simp only [List.toList_toArray]
  rw [List.take_append_of_le_length (by simp [hlen,hs];omega),List.take_of_length_le (by simp [hlen,hs];omega),List.take_take,Nat.min_eq_left (by omega)]
 have hgB:(w.drew.setRow g B).heap[g]?=some (.cells B 46 (0,0)):=setRow_heap _ _ _ _ _ _ hgd
 obtain ⟨Z,hZ⟩:∃ Z,Z=(Builtin.zeroCells (Value.agg #[.int .i64 0,.int .i64 0,.string ByteArray.empty,.slice none 0 0,.slice none 0 0]).cells (n - (i+(n - j)))).toList:=⟨_,rfl⟩
 have hZl:Z.length=(n - (i+(n - j)))*5:=by rw [hZ];simp [Builtin.zeroCells,Value.cells]
 have hcl:∀ ty,(Builtin.clear_ #[43] ty #[.slice (some ⟨g,(i+(n - j))*5,none⟩) (n - (i+(n - j))) (c - (i+(n - j)))]).run Tryz.prog (w.drew.setRow g B) = .ok (.tuple #[]) ((w.drew.setRow g B).setRow g (B.toList.take ((i+(n - j))*5)++Z++B.toList.drop ((i+(n - j))*5+Z.length)).toArray):=fun ty=>by
  rw [hZ]
  refine jh_ _ 43 46 ty _ Tryz.underlying43 Tryz.zeroValue46 g _ _ _ (by omega) B 46 hgB (by
   have e:=hZl
   rw [hZ] at e
   exact Nat.le_trans (Nat.le_of_eq (congrArg (fun q=>(i+(n - j))*5+q) e)) (by first|(rw [hBs,hs,←Nat.add_mul];exact Nat.mul_le_mul_right _ (by omega))|(rw [hBs,hs];omega))) (fun v hv => ?_)
  exact zc_one _ (by kernel_rfl) _ v hv
 rw [←hB] at hr1
 obtain ⟨Z',hZ'⟩:∃ Z',Z'=(B.toList.take ((i+(n - j))*5)++Z++B.toList.drop ((i+(n - j))*5+Z.length)).toArray:=⟨_,rfl⟩
 have kZ:Hid (Z'.size=cur.size∧Z'.toList.take ((i+(n - j))*5)=(cur.toList.take (n*5)).take (i*5)++(cur.toList.take (n*5)).drop (j*5)):=by
  refine ⟨by rw [hZ'];simp [hZl,hBs,hs];omega,?_⟩
  rw [hZ',←hnews,←hBt]
  simp only [List.toList_toArray,List.append_assoc]
  rw [List.take_append_of_le_length (by simp [hBs,hs];omega),List.take_take,Nat.min_self]
 rw [←hZ'] at hcl
 clear hsrc h1 hB hBs hBt hgB hZ hZl hZ' hnews hlen hgd hg
 have hw1:¬ ((i:Int)=(j:Int)):=by omega
 have mixed:Tryz.prog.follows .mixedOrders=true:=by kernel_rfl
 go_enter Tryz.func204,Tryz.ntmps204
 go_wp2_with fail
 go_region_law_o (refine gb_ rfl (.tmp 22) (.tmp 25) 43 43 rfl _ _ (by simp [Act.eval,Act.put]) (by simp [Act.eval,Act.put,hA]) (hr1 _) ?_)
 go_wp2_with fail
 go_ret
 exact ⟨by rw [show n - (j - i)=i+(n - j) by omega];rfl,Z',by rw [setRow_setRow],kZ.out.1,by rw [show n - (j - i)=i+(n - j) by omega];exact kZ.out.2⟩
set_option maxRecDepth 1000000 in
theorem tm_ (w:World) (S:Value) (n i:Nat) (vals:List Value) (hS:w.ownsRow 0 46 5 S n vals) (hi:i≤n) :
  Calls Tryz.prog 204 #[S,.int .i64 i,.int .i64 i] w fun e w'=>e = .returned S∧w'=w:=by
 rcases hS.2 with ⟨rfl,rfl⟩|⟨g,c,cur,rfl,-,hg,hnc,hcm,hcs,htake⟩
 · have hi0:i=0:=by omega
   subst hi0
   clear hS
   go_enter Tryz.func204,Tryz.ntmps204
   go_wp2_with fail
   all_goals (go_ret;exact ⟨rfl,rfl⟩)
 · unfold maxLen at hcm
   have hic:i≤c:=by omega
   clear hS hg hcs htake
   go_enter Tryz.func204,Tryz.ntmps204
   go_wp2_with fail
   all_goals (go_ret;exact ⟨rfl,rfl⟩)
theorem delM204:DelM Tryz.prog 204 46 5:=by
 intro w S n vals i j hS hij hj h1
 by_cases e:i=j
 · subst e
   refine (tm_ w S n i vals hS hj).mono ?_
   rintro e w' ⟨rfl,rfl⟩
   refine ⟨S,rfl,by rw [Nat.sub_self,Nat.sub_zero,List.take_append_drop];exact hS,⟨rfl,rfl,rfl,Nat.le_refl _,fun _ _ _=>rfl⟩,fun b hb=>⟨.inr hb,kb_ hS b hb⟩⟩
 · rcases hS.2 with ⟨rfl,rfl⟩|⟨g,c,cur,rfl,-,hg,hnc,hcm,hcs,htake⟩
   · omega
   · refine (Delete204 w g n c i j cur hg hcs hnc (by unfold maxLen at hcm;omega) (by omega) hj (by rw [htake];exact h1)).mono ?_
     rintro e w' ⟨rfl,A,rfl,hA,ht⟩
     rw [htake] at ht
     have hgd:w.drew.heap[g]?=some (.cells cur 46 (0,0)):=hg
     have hA2:=setRow_heap w.drew g cur A _ _ hgd
     refine ⟨_,rfl,⟨by rw [←ht];simp [hA,hcs];omega,.inr ⟨g,c,A,rfl,Nat.zero_le _,hA2,by omega,hcm,by rw [hA,hcs],ht⟩⟩,⟨rfl,rfl,rfl,hk_ w g A,fun b _ hn => ?_⟩,fun b hb=>⟨.inr hb,?_⟩⟩
     · rw [setRow_other _ _ _ _ (fun e=>hn (by subst e;simp [ck_]))];rfl
     · have:g=b:=by simp only [ck_] at hb;exact Classical.byContradiction fun h=>hb (if_neg h)
       subst this
       exact (Array.getElem?_eq_some_iff.1 hA2).1
end Go.Proofs
namespace Go.Pi
open Go.Proofs
theorem cE_.ok (n:Nat):cE_.e.Oks E (cx n) n:=fun _ _ _ _ h=>qv_ (t:=.iJson) (m:=.d) (by decide) delM204 h
end Go.Pi
end
section
namespace Go.Proofs
open Go.Shelf Go.RowKit Go.Lib Go.Pi
set_option maxRecDepth 1000000 in
theorem Delete205 (w:World) (g n c i j:Nat) (cur:Array Value) (hg:w.heap[g]?=some (.cells cur 9 (0,0))) (hs:cur.size=c) (hn:n≤c) (hc:c≤9223372036854775807) (hij:i<j) (hj:j≤n)
  (h1:∀ v ∈ cur.toList.take (n),v.oneCell'=true) :
  Calls Tryz.prog 205 #[.slice (some ⟨g,0,none⟩) n c,.int .i64 i,.int .i64 j] w fun e w'=>e = .returned (.slice (some ⟨g,0,none⟩) (n - (j - i)) c) ∧
   ∃ A,w'=w.drew.setRow g A∧A.size=cur.size∧A.toList.take ((n - (j - i)))=(cur.toList.take (n)).take (i)++(cur.toList.take (n)).drop (j):=by
 have hic:i≤c:=by omega
 have hjc:j≤c:=by omega
 obtain ⟨news,hnews⟩:∃ news,news=(cur.toList.take (n)).drop (j):=⟨_,rfl⟩
 have hlen:news.length=(n - j):=by rw [hnews,List.length_drop,List.length_take,Array.length_toList,hs];omega
 have hgd:w.drew.heap[g]?=some (.cells cur 9 (0,0)):=hg
 obtain ⟨A,hA,hsrc⟩:∃ A:Addr,(if c=j then some (⟨g,0,none⟩:Addr) else some ⟨g,j,none⟩)=some A∧Hid (∀ t u,news[t]?=some u→w.drew.cell? (A.add t)=some u):=by
  by_cases h:c=j
  · refine ⟨⟨g,0,none⟩,by simp [h],fun t u hu => ?_⟩
    have h0:news.length=0:=by rw [hlen];omega
    rw [List.length_eq_zero_iff.1 h0] at hu
    simp at hu
  · refine ⟨⟨g,j,none⟩,by simp [h],fun t u hu => ?_⟩
    have ht:=(List.getElem?_eq_some_iff.1 hu).1
    rw [hlen] at ht
    rw [hnews,List.getElem?_drop,List.getElem?_take_of_lt (by omega),Array.getElem?_toList] at hu
    rw [Addr.add_lit]
    simp only [World.cell?,hgd]
    exact hu
 obtain ⟨i0,hi0⟩:=Option.isSome_iff_exists.1 (show (Tryz.prog.info? 9).isSome=true by kernel_rfl)
 have hz0:i0.size=1:=by
  have:(Tryz.prog.info? 9).map (·.size)=some 1:=by kernel_rfl
  rw [hi0] at this
  simpa using this
 have hr1:∀ ty,(Builtin.append_ #[44,44] ty #[.slice (some ⟨g,0,none⟩) i c,.slice (some A) (n - j) (c - j)]).run Tryz.prog w.drew = .ok (.slice (some ⟨g,0,none⟩) (i+(n - j)) c) (w.drew.setRow g (cur.toList.take (i)++news++cur.toList.drop (i+news.length)).toArray):=fun ty=>by
  have:=run_append_room (P:=Tryz.prog) w.drew 44 ty 9 i0 Tryz.underlying44 hi0 g i c cur hgd A (n - j) (c - j) news (by rw [hlen,hz0];try rw [Nat.mul_one]) hsrc.out (fun u hu=>h1 u (by rw [hnews] at hu;exact List.mem_of_mem_drop hu)) (by omega) (by rw [hz0,hlen,hs];omega)
  rw [hz0] at this
  first|exact this|(rw [Nat.mul_one] at this;exact this)
 obtain ⟨B,hB⟩:∃ B,B=(cur.toList.take (i)++news++cur.toList.drop (i+news.length)).toArray:=⟨_,rfl⟩
 have hBs:B.size=cur.size:=by rw [hB];simp [hlen,hs];omega
 have hBt:B.toList.take ((i+(n - j)))=(cur.toList.take (n)).take (i)++news:=by
  rw [hB]
  simp only [List.toList_toArray]
  rw [List.take_append_of_le_length (by simp [hlen,hs];omega),List.take_of_length_le (by simp [hlen,hs];omega),List.take_take,Nat.min_eq_left (by omega)]
 have hgB:(w.drew.setRow g B).heap[g]?=some (.cells B 9 (0,0)):=setRow_heap _ _ _ _ _ _ hgd
 obtain ⟨Z,hZ⟩:∃ Z,Z=(Builtin.zeroCells (Value.string ByteArray.empty).cells (n - (i+(n - j)))).toList:=⟨_,rfl⟩
 have hZl:Z.length=(n - (i+(n - j))):=by rw [hZ];simp [Builtin.zeroCells,Value.cells]
 have hcl:∀ ty,(Builtin.clear_ #[44] ty #[.slice (some ⟨g,(i+(n - j)),none⟩) (n - (i+(n - j))) (c - (i+(n - j)))]).run Tryz.prog (w.drew.setRow g B) = .ok (.tuple #[]) ((w.drew.setRow g B).setRow g (B.toList.take ((i+(n - j)))++Z++B.toList.drop ((i+(n - j))+Z.length)).toArray):=fun ty=>by
  rw [hZ]
  refine jh_ _ 44 9 ty _ Tryz.underlying44 Tryz.zeroValue9 g _ _ _ (by omega) B 9 hgB (by
   have e:=hZl
   rw [hZ] at e
   exact Nat.le_trans (Nat.le_of_eq (congrArg (fun q=>(i+(n - j))+q) e)) (by first|(rw [hBs,hs,←Nat.add_mul];exact Nat.mul_le_mul_right _ (by omega))|(rw [hBs,hs];omega))) (fun v hv => ?_)
  exact zc_one _ (by kernel_rfl) _ v hv
 rw [←hB] at hr1
 obtain ⟨Z',hZ'⟩:∃ Z',Z'=(B.toList.take ((i+(n - j)))++Z++B.toList.drop ((i+(n - j))+Z.length)).toArray:=⟨_,rfl⟩
 have kZ:Hid (Z'.size=cur.size∧Z'.toList.take ((i+(n - j)))=(cur.toList.take (n)).take (i)++(cur.toList.take (n)).drop (j)):=by
  refine ⟨by rw [hZ'];simp [hZl,hBs,hs];omega,?_⟩
  rw [hZ',←hnews,←hBt]
  simp only [List.toList_toArray,List.append_assoc]
  rw [List.take_append_of_le_length (by simp [hBs,hs];omega),List.take_take,Nat.min_self]
 rw [←hZ'] at hcl
 clear hsrc h1 hB hBs hBt hgB hZ hZl hZ' hnews hlen hgd hg
 have hw1:¬ ((i:Int)=(j:Int)):=by omega
 have mixed:Tryz.prog.follows .mixedOrders=true:=by kernel_rfl
 go_enter Tryz.func205,Tryz.ntmps205
 go_wp2_with fail
 go_region_law_o (refine gb_ rfl (.tmp 22) (.tmp 25) 44 44 rfl _ _ (by simp [Act.eval,Act.put]) (by simp [Act.eval,Act.put,hA]) (hr1 _) ?_)
 go_wp2_with fail
 go_ret
 exact ⟨by rw [show n - (j - i)=i+(n - j) by omega];rfl,Z',by rw [setRow_setRow],kZ.out.1,by rw [show n - (j - i)=i+(n - j) by omega];exact kZ.out.2⟩
set_option maxRecDepth 1000000 in
theorem tl_ (w:World) (S:Value) (n i:Nat) (vals:List Value) (hS:w.ownsRow 0 9 1 S n vals) (hi:i≤n) :
  Calls Tryz.prog 205 #[S,.int .i64 i,.int .i64 i] w fun e w'=>e = .returned S∧w'=w:=by
 rcases (d8_.1 hS).2 with ⟨rfl,rfl⟩|⟨g,c,cur,rfl,-,hg,hnc,hcm,hcs,htake⟩
 · have hi0:i=0:=by omega
   subst hi0
   clear hS
   go_enter Tryz.func205,Tryz.ntmps205
   go_wp2_with fail
   all_goals (go_ret;exact ⟨rfl,rfl⟩)
 · unfold maxLen at hcm
   have hic:i≤c:=by omega
   clear hS hg hcs htake
   go_enter Tryz.func205,Tryz.ntmps205
   go_wp2_with fail
   all_goals (go_ret;exact ⟨rfl,rfl⟩)
theorem delM205:DelM Tryz.prog 205 9 1:=by
 intro w S n vals i j hS hij hj h1
 simp only [Nat.mul_one]
 by_cases e:i=j
 · subst e
   refine (tl_ w S n i vals hS hj).mono ?_
   rintro e w' ⟨rfl,rfl⟩
   refine ⟨S,rfl,by rw [Nat.sub_self,Nat.sub_zero,List.take_append_drop];exact hS,⟨rfl,rfl,rfl,Nat.le_refl _,fun _ _ _=>rfl⟩,fun b hb=>⟨.inr hb,kb_ hS b hb⟩⟩
 · rcases (d8_.1 hS).2 with ⟨rfl,rfl⟩|⟨g,c,cur,rfl,-,hg,hnc,hcm,hcs,htake⟩
   · omega
   · refine (Delete205 w g n c i j cur hg hcs hnc (by unfold maxLen at hcm;omega) (by omega) hj (by rw [htake];exact h1)).mono ?_
     rintro e w' ⟨rfl,A,rfl,hA,ht⟩
     rw [htake] at ht
     have hgd:w.drew.heap[g]?=some (.cells cur 9 (0,0)):=hg
     have hA2:=setRow_heap w.drew g cur A _ _ hgd
     refine ⟨_,rfl,d8_.2 ⟨by rw [←ht];simp [hA,hcs];omega,.inr ⟨g,c,A,rfl,Nat.zero_le _,hA2,by omega,hcm,by rw [hA,hcs],ht⟩⟩,⟨rfl,rfl,rfl,hk_ w g A,fun b _ hn => ?_⟩,fun b hb=>⟨.inr hb,?_⟩⟩
     · rw [setRow_other _ _ _ _ (fun e=>hn (by subst e;simp [ck_]))];rfl
     · have:g=b:=by simp only [ck_] at hb;exact Classical.byContradiction fun h=>hb (if_neg h)
       subst this
       exact (Array.getElem?_eq_some_iff.1 hA2).1
end Go.Proofs
namespace Go.Pi
open Go.Proofs
theorem cw_.ok (n:Nat):cw_.e.Oks E (cx n) n:=fun _ _ _ _ h=>qv_ (t:=.str) (m:=.d) (by decide) delM205 h
end Go.Pi
end
section
namespace Go.Proofs
open Go.Shelf
def Tryz.laysC172_ren:Go.Shelf.Ren:=⟨fun|172=>225|244=>237|245=>238|247=>247|279=>248|280=>249|281=>250|282=>251|287=>256|316=>257|171=>108|205=>258|321=>261|322=>262|243=>157|246=>196|283=>213|284=>214|285=>215|286=>216|129=>230|317=>229|318=>231|319=>232|320=>233|337=>243|338=>244|n=>n,fun|9=>9|3=>3|75=>183|76=>184|4=>4|5=>5|167=>251|37=>22|0=>0|85=>252|2=>2|168=>254|53=>225|175=>263|46=>177|210=>266|127=>212|145=>273|143=>271|21=>21|171=>224|173=>228|212=>242|51=>243|20=>20|213=>244|232=>261|233=>262|80=>186|n=>n,fun|15=>6|16=>7|17=>0|18=>4|19=>5|n=>n⟩
theorem Tryz.laysC172:Go.Proofs.LaysC.n172 Tryz.prog Tryz.laysC172_ren:={
 mixed:=by kernel_rfl
 f129:=Tryz.func230.trans (congrArg some (by kernel_rfl))
 f171:=Tryz.func108.trans (congrArg some (by kernel_rfl))
 f172:=Tryz.func225.trans (congrArg some (by kernel_rfl))
 f205:=Tryz.func258.trans (congrArg some (by kernel_rfl))
 f243:=Tryz.func157.trans (congrArg some (by kernel_rfl))
 f244:=Tryz.func237.trans (congrArg some (by kernel_rfl))
 f245:=Tryz.func238.trans (congrArg some (by kernel_rfl))
 f246:=Tryz.func196.trans (congrArg some (by kernel_rfl))
 f247:=Tryz.func247.trans (congrArg some (by kernel_rfl))
 f279:=Tryz.func248.trans (congrArg some (by kernel_rfl))
 f280:=Tryz.func249.trans (congrArg some (by kernel_rfl))
 f281:=Tryz.func250.trans (congrArg some (by kernel_rfl))
 f282:=Tryz.func251.trans (congrArg some (by kernel_rfl))
 f283:=Tryz.func213.trans (congrArg some (by kernel_rfl))
 f284:=Tryz.func214.trans (congrArg some (by kernel_rfl))
 f285:=Tryz.func215.trans (congrArg some (by kernel_rfl))
 f286:=Tryz.func216.trans (congrArg some (by kernel_rfl))
 f287:=Tryz.func256.trans (congrArg some (by kernel_rfl))
 f316:=Tryz.func257.trans (congrArg some (by kernel_rfl))
 f317:=Tryz.func229.trans (congrArg some (by kernel_rfl))
 f318:=Tryz.func231.trans (congrArg some (by kernel_rfl))
 f319:=Tryz.func232.trans (congrArg some (by kernel_rfl))
 f320:=Tryz.func233.trans (congrArg some (by kernel_rfl))
 f321:=Tryz.func261.trans (congrArg some (by kernel_rfl))
 f322:=Tryz.func262.trans (congrArg some (by kernel_rfl))
 f337:=Tryz.func243.trans (congrArg some (by kernel_rfl))
 f338:=Tryz.func244.trans (congrArg some (by kernel_rfl))
 t0:=Tryz.underlying0
 a0:=Tryz.isAgg0
 z0:=Tryz.sizeOf0
 v0:=Tryz.zeroValue0
 t2:=Tryz.underlying2
 a2:=Tryz.isAgg2
 z2:=Tryz.sizeOf2
 v2:=Tryz.zeroValue2
 t3:=Tryz.underlying3
 a3:=Tryz.isAgg3
 z3:=Tryz.sizeOf3
 v3:=Tryz.zeroValue3
 t4:=Tryz.underlying4
 a4:=Tryz.isAgg4
 z4:=Tryz.sizeOf4
 v4:=Tryz.zeroValue4
 t5:=Tryz.underlying5
 a5:=Tryz.isAgg5
 z5:=Tryz.sizeOf5
 v5:=Tryz.zeroValue5
 t9:=Tryz.underlying9
 a9:=Tryz.isAgg9
 z9:=Tryz.sizeOf9
 v9:=Tryz.zeroValue9
 t20:=Tryz.underlying20
 a20:=Tryz.isAgg20
 z20:=Tryz.sizeOf20
 v20:=Tryz.zeroValue20
 t21:=Tryz.underlying21
 a21:=Tryz.isAgg21
 z21:=Tryz.sizeOf21
 v21:=Tryz.zeroValue21
 t37:=Tryz.underlying22
 a37:=Tryz.isAgg22
 z37:=Tryz.sizeOf22
 v37:=Tryz.zeroValue22
 t46:=Tryz.underlying177
 a46:=Tryz.isAgg177
 z46:=Tryz.sizeOf177
 v46:=Tryz.zeroValue177
 t51:=Tryz.underlying243
 a51:=Tryz.isAgg243
 z51:=Tryz.sizeOf243
 v51:=Tryz.zeroValue243
 t53:=Tryz.underlying225
 a53:=Tryz.isAgg225
 z53:=Tryz.sizeOf225
 v53:=Tryz.zeroValue225
 t75:=Tryz.underlying183
 a75:=Tryz.isAgg183
 z75:=Tryz.sizeOf183
 v75:=Tryz.zeroValue183
 t76:=Tryz.underlying184
 a76:=Tryz.isAgg184
 z76:=Tryz.sizeOf184
 v76:=Tryz.zeroValue184
 t85:=Tryz.underlying252
 a85:=Tryz.isAgg252
 z85:=Tryz.sizeOf252
 v85:=Tryz.zeroValue252
 t127:=Tryz.underlying212
 a127:=Tryz.isAgg212
 z127:=Tryz.sizeOf212
 v127:=Tryz.zeroValue212
 t143:=Tryz.underlying271
 a143:=Tryz.isAgg271
 z143:=Tryz.sizeOf271
 v143:=Tryz.zeroValue271
 t145:=Tryz.underlying273
 a145:=Tryz.isAgg273
 z145:=Tryz.sizeOf273
 v145:=Tryz.zeroValue273
 t167:=Tryz.underlying251
 a167:=Tryz.isAgg251
 z167:=Tryz.sizeOf251
 v167:=Tryz.zeroValue251
 t168:=Tryz.underlying254
 a168:=Tryz.isAgg254
 z168:=Tryz.sizeOf254
 v168:=Tryz.zeroValue254
 t171:=Tryz.underlying224
 a171:=Tryz.isAgg224
 z171:=Tryz.sizeOf224
 v171:=Tryz.zeroValue224
 t173:=Tryz.underlying228
 a173:=Tryz.isAgg228
 z173:=Tryz.sizeOf228
 v173:=Tryz.zeroValue228
 t175:=Tryz.underlying263
 a175:=Tryz.isAgg263
 z175:=Tryz.sizeOf263
 v175:=Tryz.zeroValue263
 t210:=Tryz.underlying266
 a210:=Tryz.isAgg266
 z210:=Tryz.sizeOf266
 v210:=Tryz.zeroValue266
 t212:=Tryz.underlying242
 a212:=Tryz.isAgg242
 z212:=Tryz.sizeOf242
 v212:=Tryz.zeroValue242
 t213:=Tryz.underlying244
 a213:=Tryz.isAgg244
 z213:=Tryz.sizeOf244
 t232:=Tryz.underlying261
 a232:=Tryz.isAgg261
 z232:=Tryz.sizeOf261
 v232:=Tryz.zeroValue261
 t233:=Tryz.underlying262
 a233:=Tryz.isAgg262
 z233:=Tryz.sizeOf262
 v233:=Tryz.zeroValue262
 g15:=by kernel_rfl
 g16:=by kernel_rfl
 g17:=by kernel_rfl
 g18:=by kernel_rfl
 g19:=by kernel_rfl
 t80:=Tryz.underlying186
 a80:=Tryz.isAgg186
 z80:=Tryz.sizeOf186
 v80:=Tryz.zeroValue186
 i0:=by kernel_rfl
 i2:=by kernel_rfl
 i3:=by kernel_rfl
 i4:=by kernel_rfl
 i5:=by kernel_rfl
 i9:=by kernel_rfl
 i20:=by kernel_rfl
 i21:=by kernel_rfl
 i37:=by kernel_rfl
 i46:=by kernel_rfl
 i51:=by kernel_rfl
 i53:=by kernel_rfl
 i75:=by kernel_rfl
 i76:=by kernel_rfl
 i80:=by kernel_rfl
 i85:=by kernel_rfl
 i127:=by kernel_rfl
 i143:=by kernel_rfl
 i145:=by kernel_rfl
 i167:=by kernel_rfl
 i168:=by kernel_rfl
 i171:=by kernel_rfl
 i173:=by kernel_rfl
 i175:=by kernel_rfl
 i210:=by kernel_rfl
 i212:=by kernel_rfl
 i232:=by kernel_rfl
 i233:=by kernel_rfl
 m15:=by kernel_rfl
 m16:=by kernel_rfl
 m17:=by kernel_rfl
 m18:=by kernel_rfl
 m19:=by kernel_rfl
 c0:=by kernel_rfl
 c2:=by kernel_rfl
 c3:=by kernel_rfl
 c4:=by kernel_rfl
 c5:=by kernel_rfl
 c9:=by kernel_rfl
 c20:=by kernel_rfl
 c21:=by kernel_rfl
 c37:=by kernel_rfl
 c46:=by kernel_rfl
 c51:=by kernel_rfl
 c53:=by kernel_rfl
 c75:=by kernel_rfl
 c76:=by kernel_rfl
 c80:=by kernel_rfl
 c85:=by kernel_rfl
 c127:=by kernel_rfl
 c143:=by kernel_rfl
 c145:=by kernel_rfl
 c167:=by kernel_rfl
 c168:=by kernel_rfl
 c171:=by kernel_rfl
 c173:=by kernel_rfl
 c175:=by kernel_rfl
 c210:=by kernel_rfl
 c212:=by kernel_rfl
 c213:=by kernel_rfl
 c232:=by kernel_rfl
 c233:=by kernel_rfl }
end Go.Proofs
namespace Go.Pi
open Go.Proofs
theorem atoiM:AtoiM E.P 225 6 7 5:=⟨fun s v w h1 h2=>Any.strconv_Atoi_ok Tryz.laysC172 s h1 v h2 w,fun s ev w h1 h2 h3 h4=>by
 cases ha:Lib.atoiAll s.data.toList
 · rename_i v;exact absurd ha (h2.1 v)
 · exact (Any.strconv_Atoi_syntax Tryz.laysC172 s h1 ha ev w h3 h4).mono fun e w' ⟨N,he,_,_,hb⟩=>⟨⟨_,_,he⟩,hb⟩
 · exact absurd ha h2.2,fun s ev w h1 h2 h3 h4=>(Any.strconv_Atoi_range Tryz.laysC172 s h1 h2 ev w h3 h4).mono fun e w' ⟨N,he,_,_,hb⟩=>⟨⟨_,_,he⟩,hb⟩⟩
end Go.Pi
namespace Go.Pi
open Go.Proofs
theorem d2_.ok (n:Nat):d2_.e.Oks E (cx n) n:=fun _ _ _ _ h=>nAtoi_ok atoiM (.tail _ (.tail _ (.head _))) (.tail _ (.tail _ (.tail _ (.head _)))) h
end Go.Pi
end
section
namespace Go.Pi
open Go.Proofs
theorem zer:zl ents=zr ents:=by kernel_rfl
theorem fcts:factL E.P ents ents=factR ents:=by kernel_rfl
theorem cxok (n nt:Nat) (a:AllE E n ents):CxOk E (cx n nt):=⟨ttOk,tcOk,u8Ok,KE_ok fcts a⟩
theorem allOk:∀ n,AllE E n ents
 |0=>all0 zer
 |n+1=>allS_ok (fun nt=>cxok n nt (allOk n)) (fun _=>KE_par) (show AllS E (cx n) n ents from ⟨laws_FnTaken.ok n,gs_.ok n,ed_.ok n,c6_.ok n,dw_.ok n,d6_.ok n,c5_.ok n,a4_.ok n,ei_.ok n,cL_.ok n,cO_.ok n,dG_.ok n,c9_.ok n,df_.ok n,dL_.ok n,dv_.ok n,da_.ok n,bf_.ok n,cU_.ok n,e4_.ok n,bX_.ok n,b2_.ok n,a7_.ok n,bn_.ok n,dU_.ok n,dc_.ok n,dr_.ok n,eX_.ok n,bh_.ok n,b1_.ok n,fd_.ok n,er_.ok n,b9_.ok n,cA_.ok n,av_.ok n,aL_.ok n,cD_.ok n,a6_.ok n,e5_.ok n,aW_.ok n,d5_.ok n,dF_.ok n,cP_.ok n,dK_.ok n,cI_.ok n,dD_.ok n,ah_.ok n,ee_.ok n,a3_.ok n,dm_.ok n,aM_.ok n,e3_.ok n,aV_.ok n,aY_.ok n,bW_.ok n,bt_.ok n,aC_.ok n,aT_.ok n,cT_.ok n,bm_.ok n,et_.ok n,bu_.ok n,eJ_.ok n,dS_.ok n,b7_.ok n,b6_.ok n,ev_.ok n,cJ_.ok n,aP_.ok n,cb_.ok n,a8_.ok n,bA_.ok n,bQ_.ok n,dq_.ok n,eq_.ok n,bY_.ok n,bj_.ok n,aK_.ok n,aF_.ok n,cl_.ok n,d3_.ok n,aD_.ok n,bG_.ok n,di_.ok n,bd_.ok n,eu_.ok n,bz_.ok n,bN_.ok n,strconv_Itoa.ok n,strings_Join.ok n,a5_.ok n,dH_.ok n,b3_.ok n,au_.ok n,bU_.ok n,dt_.ok n,be_.ok n,eg_.ok n,bL_.ok n,ax_.ok n,aH_.ok n,aj_.ok n,cN_.ok n,cm_.ok n,cK_.ok n,az_.ok n,bM_.ok n,ad_.ok n,bs_.ok n,b4_.ok n,bo_.ok n,eH_.ok n,do_.ok n,c8_.ok n,ea_.ok n,bJ_.ok n,ch_.ok n,af_.ok n,dE_.ok n,d9_.ok n,bP_.ok n,aR_.ok n,a0_.ok n,bl_.ok n,bE_.ok n,c7_.ok n,cY_.ok n,cz_.ok n,eW_.ok n,cn_.ok n,c4_.ok n,dp_.ok n,bV_.ok n,e2_.ok n,ag_.ok n,d7_.ok n,dT_.ok n,du_.ok n,eb_.ok n,cq_.ok n,aA_.ok n,eh_.ok n,e1_.ok n,ec_.ok n,dO_.ok n,ds_.ok n,dC_.ok n,ay_.ok n,aE_.ok n,aB_.ok n,bB_.ok n,aQ_.ok n,a1_.ok n,bR_.ok n,dn_.ok n,eY_.ok n,fw_.ok n,aN_.ok n,bc_.ok n,bF_.ok n,bI_.ok n,bH_.ok n,es_.ok n,bT_.ok n,a2_.ok n,strings_ReplaceAll.ok n,ae_.ok n,aw_.ok n,am_.ok n,b5_.ok n,b0_.ok n,dP_.ok n,aG_.ok n,cE_.ok n,cw_.ok n,bx_.ok n,ce_.ok n,ca_.ok n,dJ_.ok n,eI_.ok n,cX_.ok n,cg_.ok n,d2_.ok n,cC_.ok n,trivial⟩)
end Go.Pi
end
section
namespace Go.Pi
inductive Kd where
 |i (k:IntKind)
 |b
 |s
 |sl (t:TC)
def kdsL (P:Program) (rec_:TypeId→Option (List Kd)):List Field→Nat→Option (List Kd)
 |[],_=>some []
 |f::fs,off=>cond (Nat.beq f.offset off) (match rec_ f.type with
  |some ks=>cond (Nat.beq (P.cellsOf f.type) ks.length) (match kdsL P rec_ fs (off+ks.length) with
   |some r=>some (ks++r)
   |none=>none) none
  |none=>none) none
def kds (P:Program) (fN_:TypeId→Option TC):Nat→TypeId→Option (List Kd)
 |0,_=>none
 |d+1,T=>match P.underlying T with
  |some (.int k)=>some [.i k]
  |some .bool=>some [.b]
  |some .string=>some [.s]
  |some (.slice e)=>match fN_ e with
   |some t=>some [.sl t]
   |none=>none
  |some (.struct fs)=>match kdsL P (kds P fN_ d) fs.toList 0 with
   |some ks=>cond (Nat.beq (P.cellsOf T) ks.length) (some ks) none
   |none=>none
  |_=>none
inductive Good [ai_]:AV→Prop
 |i (k n):(Lit.int k n).wf=true→Good (.i k n)
 |b (q):Good (.b q)
 |s (l):l.length≤maxLen→Good (.s l)
 |sl (t xs):xs.length≤maxLen→(∀ x ∈ xs,∀ c ∈ ai_.enc .v t x,Good c)→Good (.sl .v t xs)
def KindOk:Kd→AV→Prop
 |.i k,a=>∃ n,a = .i k n
 |.b,a=>∃ q,a = .b q
 |.s,a=>∃ l,a = .s l
 |.sl t,a=>∃ xs,a = .sl .v t xs
def kF_:List Kd→List AV→Prop
 |[],[]=>True
 |k::ks,a::l=>KindOk k a∧kF_ ks l
 |_,_=>False
section
variable {H:Type} {enc:TypeId × Value→H} {P:Program} {w:World} {spare:Nat→Bool}
def p8_ (enc:TypeId × Value→H) (P:Program) (w:World) (spare:Nat→Bool) (eid:TC→TypeId) (F:Nat):Kd→Value→Prop
 |.i k,v=>∃ n,v = .int k n∧(Lit.int k n).wf=true
 |.b,v=>∃ q,v = .bool q
 |.s,v=>∃ s:ByteArray,v = .string s∧s.size≤maxLen
 |.sl t,v=>v = .slice none 0 0∨∃ (a:Addr) (len cap N:Nat),v = .slice (some a) len cap∧len≤cap∧cap≤maxLen∧N<F ∧
   ∀ i,i<len→∃ cs x,w.cells? 0 (a.add (i*P.cellsOf (eid t))) (P.cellsOf (eid t))=some cs∧DataW.trod enc P w 0 spare true N (eid t) cs=some x
def fM_ (enc:TypeId × Value→H) (P:Program) (w:World) (spare:Nat→Bool) (eid:TC→TypeId) (F:Nat):List Kd→List Value→Prop
 |[],[]=>True
 |k::ks,v::vs=>p8_ enc P w spare eid F k v∧fM_ enc P w spare eid F ks vs
 |_,_=>False
theorem p8_.mono {eid:TC→TypeId} {F F':Nat} (hF:F≤F') {k:Kd} {v:Value} (h:p8_ enc P w spare eid F k v):p8_ enc P w spare eid F' k v:=by
 cases k with
 |sl t=>
  rcases h with h|⟨a,len,cap,N,h1,h2,h3,h4,h5⟩
  · exact .inl h
  · exact .inr ⟨a,len,cap,N,h1,h2,h3,Nat.lt_of_lt_of_le h4 hF,h5⟩
 |_=>exact h
theorem fM_.mono {eid:TC→TypeId} {F F':Nat} (hF:F≤F'):∀ {ks:List Kd} {vs:List Value},fM_ enc P w spare eid F ks vs→fM_ enc P w spare eid F' ks vs
 |[],[],_=>trivial
 |k::ks,v::vs,h=>⟨h.1.mono hF,fM_.mono hF h.2⟩
 |[],_::_,h=>h.elim
 |_::_,[],h=>h.elim
theorem fM_.append {eid:TC→TypeId} {F:Nat}:∀ {ks:List Kd} {vs:List Value} {ks':List Kd} {vs':List Value},fM_ enc P w spare eid F ks vs→fM_ enc P w spare eid F ks' vs'→fM_ enc P w spare eid F (ks++ks') (vs++vs')
 |[],[],_,_,_,h=>h
 |k::ks,v::vs,_,_,h,h'=>⟨h.1,fM_.append h.2 h'⟩
 |[],_::_,_,_,h,_=>h.elim
 |_::_,[],_,_,h,_=>h.elim
theorem nw_ {fN_:TypeId→Option TC} {eid:TC→TypeId} {n:Nat} {rec_:TypeId→Option (List Kd)} {cs:List Value} (hrec:∀ T ks cs x,rec_ T=some ks→DataW.trod enc P w 0 spare true n T cs=some x→fM_ enc P w spare eid n ks cs) :
  ∀ (fs:List Field) (off:Nat) (ks:List Kd),kdsL P rec_ fs off=some ks→(∀ f ∈ fs,∃ x,DataW.trod enc P w 0 spare true n f.type ((cs.drop f.offset).take (P.cellsOf f.type))=some x)→off+ks.length=cs.length→fM_ enc P w spare eid n ks (cs.drop off)
 |[],off,ks,h,_,hl=>by
  simp only [kdsL,Option.some.injEq] at h
  subst h
  rw [List.drop_eq_nil_of_le (by simp at hl;omega)]
  trivial
 |f::fs,off,ks,h,hx,hl=>by
  simp only [kdsL] at h
  obtain ⟨h1,h2⟩:=cf_ h
  have h1:=cQ_.1 h1
  cases hr:rec_ f.type with
  |none=>rw [hr] at h2;cases h2
  |some k1=>
   rw [hr] at h2
   obtain ⟨h3,h4⟩:=cf_ h2
   have h3:=cQ_.1 h3
   cases hk:kdsL P rec_ fs (off+k1.length) with
   |none=>rw [hk] at h4;cases h4
   |some r=>
    rw [hk] at h4
    simp only [Option.some.injEq] at h4
    subst h4
    obtain ⟨x,hx1⟩:=hx f (List.mem_cons_self ..)
    have h5:=hrec _ _ _ _ hr hx1
    have h6:=nw_ (fN_:=fN_) hrec fs (off+k1.length) r hk (fun g hg=>hx g (List.mem_cons_of_mem _ hg)) (by simp at hl;omega)
    rw [h1,h3] at h5
    have:cs.drop off=(cs.drop off).take k1.length++cs.drop (off+k1.length):=by rw [←List.drop_drop,List.take_append_drop]
    rw [this]
    exact h5.append h6
theorem nM_ {fN_:TypeId→Option TC} {eid:TC→TypeId} (hcode:∀ e t,fN_ e=some t→eid t=e):∀ (d F:Nat) (T:TypeId) (ks:List Kd) (cs:List Value) (x:DataW H × List MemPlace),kds P fN_ d T=some ks→DataW.trod enc P w 0 spare true F T cs=some x→fM_ enc P w spare eid F ks cs
 |0,F,T,ks,cs,x,hk,h=>by cases hk
 |d+1,F,T,ks,cs,x,hk,h=>by
  simp only [kds] at hk
  cases hu:P.underlying T with
  |none=>rw [hu] at hk;cases hk
  |some u=>
   rw [hu] at hk
   cases u<;>simp only at hk<;>(try (cases hk;done))
   case bool=>
    cases hk
    obtain ⟨q,rfl,_⟩:=DataW.trod_bool hu h
    exact ⟨⟨q,rfl⟩,trivial⟩
   case int k=>
    cases hk
    obtain ⟨n,rfl,_,hw⟩:=DataW.trod_int hu h
    exact ⟨⟨n,rfl,hw⟩,trivial⟩
   case string=>
    cases hk
    obtain ⟨s,rfl,_,hs⟩:=DataW.trod_string hu h
    exact ⟨⟨s,rfl,hs⟩,trivial⟩
   case slice e=>
    cases hc:fN_ e with
    |none=>rw [hc] at hk;cases hk
    |some t=>
     rw [hc] at hk
     cases hk
     have he:=hcode e t hc
     rcases DataW.trod_slice hu h with ⟨rfl,_⟩|⟨a,len,cap,elems,iX_,n,hF,rfl,_,_,hl,hm,hlen,hel,_,_⟩
     · exact ⟨.inl rfl,trivial⟩
     · refine ⟨.inr ⟨a,len,cap,n,rfl,hl,hm,by omega,fun i hi => ?_⟩,trivial⟩
       have h1:=hel i hi
       rw [List.getElem?_eq_getElem (by omega)] at h1
       rw [Option.bind_eq_some_iff] at h1
       obtain ⟨cs,k1,k2⟩:=h1
       exact ⟨cs,_,by rw [he];exact k1,by rw [he];exact k2⟩
   case struct fs=>
    obtain ⟨xs,n,hF,_,hcl,hxl,hx⟩:=DataW.trod_struct hu h
    cases hks:kdsL P (kds P fN_ d) fs.toList 0 with
    |none=>rw [hks] at hk;cases hk
    |some ks'=>
     rw [hks] at hk
     obtain ⟨h1,h2⟩:=cf_ hk
     have h1:=cQ_.1 h1
     cases h2
     subst hF
     have:=nw_ (fN_:=fN_) (eid:=eid) (n:=n) (cs:=cs) (fun T ks cs x k1 k2=>nM_ hcode d n T ks cs x k1 k2) fs.toList 0 ks hks (fun f hf=>by
      obtain ⟨i,hi⟩:=List.getElem?_of_mem hf
      have hi':fs[i]?=some f:=by simpa using hi
      have h3:=hx i f hi'
      have hlt:i<xs.length:=by rw [hxl];exact (Array.getElem?_eq_some_iff.1 hi').1
      rw [List.getElem?_eq_getElem hlt] at h3
      exact ⟨_,h3⟩) (by omega)
     exact (this.mono (Nat.le_succ n))
end
end Go.Pi
end
section
namespace Go.Pi
variable [ai_]
open ai_
variable {H:Type} {enc':TypeId × Value→H} {E:Env} {w:World} {spare:Nat→Bool}
abbrev NoF:Nat→Prop:=fun _=>False
omit [ai_] in
theorem ls_:∀ {ks:List Kd} {l c:List AV},kF_ ks l→sims .v l c→c=l
 |[],[],[],_,_=>rfl
 |k::ks,a::l,b::c,h,hs=>by
  have e:=ls_ h.2 hs.2
  subst e
  have h1:=h.1
  have h2:=hs.1
  cases k<;>obtain ⟨x,rfl⟩:=h1<;>simp only [AV.sim] at h2<;>rw [h2]
 |[],[],_::_,_,h=>h.elim
 |[],_::_,_,h,_=>h.elim
 |_::_,[],_,h,_=>h.elim
 |_::_,_::_,[],_,h=>h.elim
structure mp_ (E:Env) (fN_:TypeId→Option TC) (kinds:TC→List Kd) (d:Nat):Prop where
 codeOk:∀ e t,fN_ e=some t→E.eid t=e
 kdsOk:∀ t,kds E.P fN_ d (E.eid t)=some (kinds t)
 dec:∀ t l,kF_ (kinds t) l→∃ y,dec t l=some y
 cells:∀ t,E.P.cellsOf (E.eid t)=t.width
theorem o1_ [ak_] {t:TC} {N:Nat} (hel:∀ cs x,DataW.trod enc' E.P w 0 spare true N (E.eid t) cs=some x→∃ y:El t,RL E w NoF (enc .v t y) cs (fun _=>0)∧∀ c ∈ enc .v t y,Good c) {b o:Nat} (hW:E.P.cellsOf (E.eid t)=t.width) :
  ∀ len,(∀ i,i<len→∃ cs x,w.cells? 0 ((⟨b,o,none⟩:Addr).add (i*E.P.cellsOf (E.eid t))) (E.P.cellsOf (E.eid t))=some cs∧DataW.trod enc' E.P w 0 spare true N (E.eid t) cs=some x) →
  ∃ (xs:List (El t)) (vals:List Value),xs.length=len∧vals.length=len*t.width∧RL E w NoF (aU_ .v t xs) vals (fun _=>0)∧w.rangeAt b o vals∧∀ x ∈ xs,∀ c ∈ enc .v t x,Good c
 |0,_=>⟨[],[],rfl,by simp,RL.nil (fun _=>0) fun _=>rfl,fun j v h=>by simp at h,fun x hx=>by cases hx⟩
 |len+1,h=>by
  obtain ⟨xs,vals,h1,h2,h3,h4,h5⟩:=o1_ hel hW len fun i hi=>h i (by omega)
  obtain ⟨cs,x,k1,k2⟩:=h len (Nat.lt_succ_self _)
  obtain ⟨y,j1,j2⟩:=hel cs x k2
  obtain ⟨_,hl,hc⟩:=World.cells?_some k1
  rw [hW] at hl hc
  refine ⟨xs++[y],vals++cs,by simp [h1],by rw [List.length_append,h2,hl];exact (Nat.succ_mul _ _).symm,?_,fun j v hj => ?_,fun x hx => ?_⟩
  · rw [ct_]
    refine RL.append h3 (φ':=fun _=>0) ?_ (fun b=>rfl)
    simpa [aU_] using j1
  · by_cases hlt:j<vals.length
    · rw [List.getElem?_append_left hlt] at hj
      exact h4 j v hj
    · rw [List.getElem?_append_right (by omega)] at hj
      have hjl:j - vals.length<t.width:=by rw [←hl];exact (List.getElem?_eq_some_iff.1 hj).1
      have:=hc (j - vals.length) hjl
      rw [Addr.add_mid,Addr.add_mid,hj] at this
      rw [←this]
      congr 2
      omega
  · rcases List.mem_append.1 hx with hx|hx
    · exact h5 x hx
    · rw [List.mem_singleton] at hx;subst hx;exact j2
theorem cell_open [ak_] {fN_:TypeId→Option TC} {kinds:TC→List Kd} {d:Nat} (hk:mp_ E fN_ kinds d) {F:Nat} (ih:∀ N,N<F→∀ t cs x,DataW.trod enc' E.P w 0 spare true N (E.eid t) cs=some x→∃ y:El t,RL E w NoF (enc .v t y) cs (fun _=>0)∧∀ c ∈ enc .v t y,Good c) {k:Kd} {v:Value} (h:p8_ enc' E.P w spare E.eid F k v) :
  ∃ a,KindOk k a∧RL E w NoF [a] [v] (fun _=>0)∧Good a:=by
 cases k with
 |i k=>obtain ⟨n,rfl,hw⟩:=h;exact ⟨.i k n,⟨n,rfl⟩,.scal _ _ _ _ _ rfl (.nil _ fun _=>rfl),.i _ _ hw⟩
 |b=>obtain ⟨q,rfl⟩:=h;exact ⟨.b q,⟨q,rfl⟩,.scal _ _ _ _ _ rfl (.nil _ fun _=>rfl),.b _⟩
 |s=>
  obtain ⟨s,rfl,hs⟩:=h
  refine ⟨.s s.data.toList,⟨_,rfl⟩,.scal _ _ _ _ _ ?_ (.nil _ fun _=>rfl),.s _ ?_⟩
  · show Value.string s = .string ⟨s.data.toList.toArray⟩
    simp
  · rw [Array.length_toList];exact hs
 |sl t=>
  rcases h with rfl|⟨a,len,cap,N,rfl,hl,hm,hN,hel⟩
  · exact ⟨.sl .v t [],⟨_,rfl⟩,.view t [] none 0 0 [] (fun _=>0) _ _ _ ⟨rfl,Nat.le_refl _⟩ (.nil _ fun _=>rfl) (fun _=>rfl) (fun hp=>by omega) (.nil _ fun _=>rfl),.sl _ _ (Nat.zero_le _) (fun x hx=>by cases hx)⟩
  · cases len with
    |zero=>exact ⟨.sl .v t [],⟨_,rfl⟩,.view t [] (some a) 0 cap [] (fun _=>0) _ _ _ ⟨rfl,hl⟩ (.nil _ fun _=>rfl) (fun _=>rfl) (fun hp=>by omega) (.nil _ fun _=>rfl),.sl _ _ (Nat.zero_le _) (fun x hx=>by cases hx)⟩
    |succ len=>
     have hW:=hk.cells t
     have hpos:0<t.width:=ak_.pos t
     obtain ⟨cs0,x0,k1,_⟩:=hel 0 (Nat.succ_pos _)
     obtain ⟨_,hl0,hc0⟩:=World.cells?_some k1
     have hcell:=hc0 0 (by rw [hW];exact hpos)
     rw [List.getElem?_eq_getElem (by rw [hl0,hW];exact hpos)] at hcell
     have ha:a.spot=none:=by
      have h0:(a.add (0*E.P.cellsOf (E.eid t))).add 0=a:=by simp [Addr.add]
      rw [h0] at hcell
      unfold World.cell? at hcell
      split at hcell
      · cases hs:a.spot with
        |none=>rfl
        |some q=>simp [hs] at hcell
      · cases hcell
     obtain ⟨b,o,sp⟩:=a
     simp only at ha
     subst ha
     have hb:b<w.heap.size:=World.cells?_block k1 (by rw [hW];exact hpos) |> fun h=>by simpa [Addr.add] using h
     obtain ⟨xs,vals,e1,e2,e3,e4,e5⟩:=o1_ (ih N hN t) hW (len+1) hel
     refine ⟨.sl .v t xs,⟨_,rfl⟩,?_,.sl _ _ (by omega) e5⟩
     exact .view t xs (some ⟨b,o,none⟩) (len+1) cap vals (fun _=>0) _ _ _ ⟨e1.symm,hl⟩ e3 (fun _=>rfl) (fun _=>⟨b,o,rfl,e4,hb,fun h=>h⟩) (.nil _ fun _=>rfl)
theorem kp_ [ak_] {fN_:TypeId→Option TC} {kinds:TC→List Kd} {d:Nat} (hk:mp_ E fN_ kinds d) {F:Nat} (ih:∀ N,N<F→∀ t cs x,DataW.trod enc' E.P w 0 spare true N (E.eid t) cs=some x→∃ y:El t,RL E w NoF (enc .v t y) cs (fun _=>0)∧∀ c ∈ enc .v t y,Good c) :
  ∀ {ks:List Kd} {vs:List Value},fM_ enc' E.P w spare E.eid F ks vs→∃ l,kF_ ks l∧RL E w NoF l vs (fun _=>0)∧∀ c ∈ l,Good c
 |[],[],_=>⟨[],trivial,.nil _ fun _=>rfl,fun c hc=>by cases hc⟩
 |k::ks,v::vs,h=>by
  obtain ⟨a,h1,h2,h3⟩:=cell_open hk ih h.1
  obtain ⟨l,k1,k2,k3⟩:=kp_ hk ih h.2
  refine ⟨a::l,⟨h1,k1⟩,RL.cons h2 k2 (fun b=>rfl),fun c hc => ?_⟩
  rcases List.mem_cons.1 hc with rfl|hc
  · exact h3
  · exact k3 c hc
 |[],_::_,h=>h.elim
 |_::_,[],h=>h.elim
theorem el_open [ak_] {fN_:TypeId→Option TC} {kinds:TC→List Kd} {d:Nat} (hk:mp_ E fN_ kinds d):∀ (F:Nat) (t:TC) (cs:List Value) (x:DataW H × List MemPlace),DataW.trod enc' E.P w 0 spare true F (E.eid t) cs=some x →
  ∃ y:El t,RL E w NoF (enc .v t y) cs (fun _=>0)∧∀ c ∈ enc .v t y,Good c:=by
 intro F
 induction F using Nat.strongRecOn with
 |_ F ih=>
  intro t cs x h
  have h1:=nM_ hk.codeOk d F _ _ _ _ (hk.kdsOk t) h
  obtain ⟨l,h2,h3,h4⟩:=kp_ hk ih h1
  obtain ⟨y,hy⟩:=hk.dec t l h2
  have h5:=ak_.dec .v t l y hy
  have h6:=ls_ h2 h5
  exact ⟨y,by rw [h6];exact h3,by rw [h6];exact h4⟩
theorem arg_open [ak_] {fN_:TypeId→Option TC} {kinds:TC→List Kd} {d:Nat} (hk:mp_ E fN_ kinds d) {T:TypeId} {ks:List Kd} (hT:kds E.P fN_ d T=some ks) {v:Value} {dd:DataW H} {ps:List MemPlace} (h:DataW.Trod enc' E.P w 0 spare true T v dd ps) :
  ∃ l,kF_ ks l∧RL E w NoF l v.cells.toList (fun _=>0)∧∀ c ∈ l,Good c:=by
 obtain ⟨F,hF⟩:=h
 exact kp_ hk (fun N _=>el_open hk N) (nM_ hk.codeOk d F T ks _ _ hT hF)
end Go.Pi
end
section
namespace Go.Pi
open Go.RowKit
variable [ai_]
open ai_
omit [ai_] in
theorem dj_ {k:Kd} {ks:List Kd} {l:List AV} (h:kF_ (k::ks) l):∃ a l',l=a::l'∧KindOk k a∧kF_ ks l':=by
 cases l with
 |nil=>exact h.elim
 |cons a l=>exact ⟨a,l,rfl,h.1,h.2⟩
omit [ai_] in
theorem dR_ {l:List AV} (h:kF_ [] l):l=[]:=by
 cases l with
 |nil=>rfl
 |cons a l=>exact h.elim
def codeL (eid:TC→TypeId):List TC→TypeId→Option TC
 |[],_=>none
 |t::ts,e=>cond (Nat.beq (eid t) e) (some t) (codeL eid ts e)
omit [ai_] in
theorem r5_ {eid:TC→TypeId} {e:TypeId} {t:TC}:∀ ts,codeL eid ts e=some t→eid t=e
 |[],h=>by cases h
 |u::ts,h=>by
  simp only [codeL] at h
  cases hb:Nat.beq (eid u) e with
  |true=>rw [hb] at h;cases h;exact cQ_.1 hb
  |false=>rw [hb] at h;exact r5_ ts h
theorem law_true [ak_] {E:Env} {f:FuncId} {avs:List AV} {outs:List AV} {ps:List PS} (h:eF_ E f avs (.b true) outs ps) {w:World} (hgl:Glob E w NoF) {Vs:List Value} (hr:RL E w NoF avs Vs (fun _=>0)) :
  Calls E.P f Vs.toArray w fun e W'=>e = .returned (.bool true)∧Below w.heap.size w W':=by
 refine (h w NoF Vs _ hr (fun _=>Nat.zero_le _) (fun b hb=>hb.elim) hgl).mono fun e W' ⟨V,φ',he,h1,_,_,e1,e2,e3,e4,e5⟩=>⟨?_,e1,e2,e3,e4,fun k hk=>e5 k hk rfl⟩
 cases h1 with
 |scal a v l vs φ hs _=>rw [he,show V = .bool true from hs]
theorem ag_open {E:Env} {w:World} {l:List AV} {cs:Array Value} (h:RL E w NoF l (Value.agg cs).cells.toList (fun _=>0)) {l':List AV} {vs:List Value} (h':RL E w NoF l' vs (fun _=>0)) :
  RL E w NoF (.ag l::l') (.agg cs::vs) (fun _=>0):=by
 have:=RL.ag (E:=E) (w:=w) (F:=NoF) l cs.toList (fun _=>0) l' vs (fun _=>0) (fun _=>0) h h' (fun b=>rfl)
 simpa using this
end Go.Pi
end
