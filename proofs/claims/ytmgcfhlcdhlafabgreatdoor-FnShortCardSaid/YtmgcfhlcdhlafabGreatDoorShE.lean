/- FnShort: what is sent of two drawn views as a patch is less than the answer would be; of alike ones nothing is. No condition. Text 5 of 7. -/
import Derived.Test.YtmgcfhlcdhlafabGreatDoorShD
import Derived.Shelf.RegionOpenPlain
import Derived.WalkKit
import Derived.Deep.RegionLaw
import Derived.Lib.Walk
import Derived.Lib.SliceRun
import Derived.Laws.CopyRow
import Derived.RowKit
import Derived.Lib.Overlaps
import Derived.Lib.AppendZerosOnto
import Derived.Laws.NewBlocks
import Derived.Laws.Externs
import Derived.Below
import Derived.Shelf.Vars
import Derived.Shelf.Strings.OnBuilder
import Derived.Shelf.Strings.Replace
import Derived.ChangeArms
import Derived.DataReads
import Derived.ChangeOld
import Derived.Test.YtmgcfhlcdhlafabGreatDoorRows
import Derived.ProofKit
import Derived.OpenShut
import Derived.LaidLaws
import Derived.JoinedOf
import Derived.JoinedAt
import Derived.ChangeVars
import Derived.ChangeMaps5
import Derived.Stop.LaidErr
import Derived.Test.YtmgcfhlcdhlafabGreatDoorTie
import Derived.Test.YtmgcfhlcdhlafabGreatDoorCards
import Derived.IntWalk
set_option linter.unusedVariables false
set_option maxRecDepth 100000
set_option linter.unusedSimpArgs false
section
namespace Go.Pi
def a6_.p (m:M):List Pat:=[.i .i64,.i .i64,.i .i64]
abbrev a6_.c:Type:=Int × Int × Int × Unit
def a6_.of:a6_.c→a6_:=fun (x0,x1,x2,_)=>⟨x0,x1,x2⟩
def a6_.to (s:a6_):a6_.c:=(s.col,s.op,s.v,())
def an_.p (m:M):List Pat:=[.i .i64,.sl m .iCond,.i .i64,.b,.i .i64,.sl m .int,.b,.i .i64,.i .i64]
abbrev an_.c:Type:=Int × (List a6_) × Int × Bool × Int × (List Int) × Bool × Int × Int × Unit
def an_.of:an_.c→an_:=fun (x0,x1,x2,x3,x4,x5,x6,x7,x8,_)=>⟨x0,x1,x2,x3,x4,x5,x6,x7,x8⟩
def an_.to (s:an_):an_.c:=(s.table,s.where_,s.order,s.down,s.first,s.show_,s.kids,s.kidTable,s.kidCol,())
def TRow.p (m:M):List Pat:=[.i .i64,.sl m .int]
abbrev TRow.c:Type:=Int × (List Int) × Unit
def TRow.of:TRow.c→TRow:=fun (x0,x1,_)=>⟨x0,x1⟩
def TRow.to (s:TRow):TRow.c:=(s.id_,s.cells,())
def TKid.p (m:M):List Pat:=[.i .i64,.i .i64]
abbrev TKid.c:Type:=Int × Int × Unit
def TKid.of:TKid.c→TKid:=fun (x0,x1,_)=>⟨x0,x1⟩
def TKid.to (s:TKid):TKid.c:=(s.id_,s.n_,())
def aD_.p (m:M):List Pat:=[.i .i64,.sl m .iCond,.i .i64,.b,.i .i64,.sl m .int,.b,.i .i64,.i .i64,.sl m .iRow,.sl m .iKid]
abbrev aD_.c:Type:=Int × (List a6_) × Int × Bool × Int × (List Int) × Bool × Int × Int × (List TRow) × (List TKid) × Unit
def aD_.of:aD_.c→aD_:=fun (x0,x1,x2,x3,x4,x5,x6,x7,x8,x9,x10,_)=>⟨⟨x0,x1,x2,x3,x4,x5,x6,x7,x8⟩,x9,x10⟩
def aD_.to (s:aD_):aD_.c:=(s.q.table,s.q.where_,s.q.order,s.q.down,s.q.first,s.q.show_,s.q.kids,s.q.kidTable,s.q.kidCol,s.rows,s.kids,())
def al_.p (m:M):List Pat:=[.sl m .u8,.i .i64,.i .i64]
abbrev al_.c:Type:=(List Int) × Int × Int × Unit
def al_.of:al_.c→al_:=fun (x0,x1,x2,_)=>⟨x0,x1,x2⟩
def al_.to (s:al_):al_.c:=(s.b,s.i,s.h,())
def aA_.p (m:M):List Pat:=[.sl m .int]
abbrev aA_.c:Type:=(List Int) × Unit
def aA_.of:aA_.c→aA_:=fun (x0,_)=>⟨x0⟩
def aA_.to (s:aA_):aA_.c:=(s.cols,())
def aw_.p (m:M):List Pat:=[.sl m .int,.i .i64,.sl m .s_iRow]
abbrev aw_.c:Type:=(List Int) × Int × (List (List TRow)) × Unit
def aw_.of:aw_.c→aw_:=fun (x0,x1,x2,_)=>⟨⟨x0⟩,x1,x2⟩
def aw_.to (s:aw_):aw_.c:=(s.schema.cols,s.version,s.tables,())
def TMut.p (m:M):List Pat:=[.i .i64,.i .i64,.i .i64,.sl m .int]
abbrev TMut.c:Type:=Int × Int × Int × (List Int) × Unit
def TMut.of:TMut.c→TMut:=fun (x0,x1,x2,x3,_)=>⟨x0,x1,⟨x2,x3⟩⟩
def TMut.to (s:TMut):TMut.c:=(s.kind,s.table,s.row.id_,s.row.cells,())
def aT_.p (m:M):List Pat:=[.i .i64,.b,.b,.i .i64,.sl m .int,.i .i64,.sl m .int]
abbrev aT_.c:Type:=Int × Bool × Bool × Int × (List Int) × Int × (List Int) × Unit
def aT_.of:aT_.c→aT_:=fun (x0,x1,x2,x3,x4,x5,x6,_)=>⟨x0,x1,x2,⟨x3,x4⟩,⟨x5,x6⟩⟩
def aT_.to (s:aT_):aT_.c:=(s.table,s.had,s.has,s.old.id_,s.old.cells,s.new.id_,s.new.cells,())
def aa_.p (m:M):List Pat:=[.i .i64,.i .i64,.s,.sl m .iJson,.sl m .str]
abbrev aa_.c:Type:=Int × Int × Bs × (List aa_) × (List Bs) × Unit
def aa_.of:aa_.c→aa_:=fun (x0,x1,x2,x3,x4,_)=>⟨x0,x1,x2,x3,x4⟩
def aa_.to (s:aa_):aa_.c:=(s.kind,s.n_,s.s,s.list,s.names,())
def TOp.p (m:M):List Pat:=[.i .i64,.sl m .str,.i .i64,.i .i64,.s,.sl m .iJson,.sl m .str]
abbrev TOp.c:Type:=Int × (List Bs) × Int × Int × Bs × (List aa_) × (List Bs) × Unit
def TOp.of:TOp.c→TOp:=fun (x0,x1,x2,x3,x4,x5,x6,_)=>⟨x0,x1,⟨x2,x3,x4,x5,x6⟩⟩
def TOp.to (s:TOp):TOp.c:=(s.kind,s.way,s.value.kind,s.value.n_,s.value.s,s.value.list,s.value.names,())
def aq_.p (m:M):List Pat:=[.i .i64,.i .i64,.i .i64,.s,.sl m .iJson,.sl m .str]
abbrev aq_.c:Type:=Int × Int × Int × Bs × (List aa_) × (List Bs) × Unit
def aq_.of:aq_.c→aq_:=fun (x0,x1,x2,x3,x4,x5,_)=>⟨x0,⟨x1,x2,x3,x4,x5⟩⟩
def aq_.to (s:aq_):aq_.c:=(s.key,s.value.kind,s.value.n_,s.value.s,s.value.list,s.value.names,())
def rd0:RD:=⟨Bool,[.b],fun (a0,_)=>a0,fun r=>(r,())⟩
def ff_.e:FE:=mkE rd0 5 6 1 [.sl .v .u8] [.tmp 2] [] [] [] (un1 ff_)
def od0:OD:=⟨[(0,.view .u8),(3,.k),(4,.k)],(al_.p .v),[.ext]⟩
def od1:OD:=⟨[(0,.view .u8),(3,.k)],[.sl .v .u8,.i .i64],[.ext]⟩
def rd1:RD:=⟨al_,[.bx (al_.p .v)],fun (a0,_)=>(al_.of a0),fun r=>(al_.to r,())⟩
def bS_.e:FE:=mkE rd1 40 32 1 [.sl .v .u8] [.tmp 2] [] [(4,od0)] [(0,od1)] (un1 bS_)
def rd2:RD:=⟨Int × al_,[.i .i64,.bx (al_.p .v)],fun (a0,a1,_)=>(a0,(al_.of a1)),fun (a0,a1)=>(a0,al_.to a1,())⟩
def cX_.e:FE:=mkE rd2 97 58 2 [.bx (al_.p .v)] [.tmp 2] [.pb 1 0] [] [] fun n (a0,_)=>cX_ n (al_.of a0)
def am_.e:FE:=mkE rd2 42 37 2 [.bx (al_.p .v),.i .i64] [.tmp 4] [.pb 1 0] [] [] fun n (a0,a1,_)=>am_ n (al_.of a0) a1
def od2:OD:=⟨[(0,.box [.view .u8,.k,.k]),(2,.box [.k]),(3,.box [.own .d .int]),(4,.k)],[.pb 1 0,.pb 2 0,.pb 3 0,.i .i64],[.ext,.box (al_.p .v),.box [.nils],.box [.rt 4],.arr .d .int 2]⟩
def od3:OD:=⟨[(2,.box [.k]),(3,.box [.own .d .int])],[.pb 2 0,.pb 3 0],[.ext,.box (al_.p .v),.box [.nils],.box [.rt 4],.arr .d .int 2]⟩
def rd3:RD:=⟨aA_ × al_,[.ag [.sl .d .int],.bx (al_.p .v)],fun (a0,a1,_)=>((aA_.of a0),(al_.of a1)),fun (a0,a1)=>(aA_.to a0,al_.to a1,())⟩
def aI_.e:FE:=mkE rd3 174 22 2 [.bx (al_.p .v)] [.cell 2 41] [.pb 1 0] [(4,od2)] [(0,od3)] fun n (a0,_)=>aI_ n (al_.of a0)
def bX_.e:FE:=mkE rd0 129 15 1 (a6_.p .v) [.tmp 6] [] [] [] (un3 bX_)
def od4:OD:=⟨[(1,.box [.view .int]),(3,.k)],[.pb 1 0,.i .i64],[.ext,.box [.sl .v .int]]⟩
def od5:OD:=⟨[(1,.box [.view .int])],[.pb 1 0],[.ext,.box [.sl .v .int]]⟩
def aW_.e:FE:=mkE rd0 179 22 1 [.ag [.sl .v .int]] [.tmp 2] [] [(3,od4)] [(0,od5)] fun n (a0,_)=>aW_ n (aA_.of a0)
def rd4:RD:=⟨aA_,[.ag [.sl .d .int]],fun (a0,_)=>(aA_.of a0),fun r=>(aA_.to r,())⟩
def c1_.e:FE:=mkE rd4 181 8 1 [.ag [.sl .v .int]] [.cell 2 41] [] [] [] fun n (a0,_)=>c1_ n (aA_.of a0)
def rd5:RD:=⟨aw_ × Bool,[.ag (aw_.p .d),.b],fun (a0,a1,_)=>((aw_.of a0),a1),fun (a0,a1)=>(aw_.to a0,a1,())⟩
def de_.e:FE:=mkE rd5 173 15 1 [.ag [.sl .v .int]] [.cell 2 88,.tmp 3] [] [] [] fun n (a0,_)=>de_ n (aA_.of a0)
def od6:OD:=⟨[(0,.box [.view .u8,.k,.k]),(1,.k),(4,.box [.k,.k]),(5,.box [.k,.own .d .int]),(6,.k)],[.pb 1 0,.i .i64,.pb 2 0,.pb 3 0,.i .i64],[.ext,.box (al_.p .v),.box [.i .i64,.nils],.box [.i .i64,.rt 4],.arr .d .int 2]⟩
def od7:OD:=⟨[(4,.box [.k,.k]),(5,.box [.k,.own .d .int])],[.pb 2 0,.pb 3 0],[.ext,.box (al_.p .v),.box [.i .i64,.nils],.box [.i .i64,.rt 4],.arr .d .int 2]⟩
def rd6:RD:=⟨TRow × al_,[.ag (TRow.p .d),.bx (al_.p .v)],fun (a0,a1,_)=>((TRow.of a0),(al_.of a1)),fun (a0,a1)=>(TRow.to a0,al_.to a1,())⟩
def a0_.e:FE:=mkE rd6 184 24 2 [.bx (al_.p .v),.i .i64] [.cell 4 75] [.pb 1 0] [(4,od6)] [(0,od7)] fun n (a0,a1,_)=>a0_ n (al_.of a0) a1
def od8:OD:=⟨[(0,.view .iRow),(1,.k),(5,.k)],[.sl .v .iRow,.i .i64,.i .i64],[.ext]⟩
def od9:OD:=⟨[],[],[.ext]⟩
def rd7:RD:=⟨Int,[.i .i64],fun (a0,_)=>a0,fun r=>(r,())⟩
def b0_.e:FE:=mkE rd7 208 20 1 [.sl .v .iRow,.i .i64] [.tmp 4] [] [(3,od8)] [(0,od9)] (un2 b0_)
def rd8:RD:=⟨TRow,[.ag (TRow.p .d)],fun (a0,_)=>(TRow.of a0),fun r=>(TRow.to r,())⟩
def ci_.e:FE:=mkE rd8 166 10 1 [.ag (TRow.p .v)] [.cell 2 75] [] [] [] fun n (a0,_)=>ci_ n (TRow.of a0)
def od10:OD:=⟨[(0,.view .iRow),(5,.k),(6,.own .d .iRow),(7,.k)],[.sl .v .iRow,.i .i64,.rt 1,.i .i64],[.ext,.arr .d .iRow 2]⟩
def od11:OD:=⟨[(6,.own .d .iRow)],[.rt 1],[.ext,.arr .d .iRow 2]⟩
def rd9:RD:=⟨(List TRow),[.sl .d .iRow],fun (a0,_)=>a0,fun r=>(r,())⟩
def a9_.e:FE:=mkE rd9 185 30 1 [.sl .v .iRow,.i .i64] [.tmp 4] [] [(5,od10)] [(0,od11)] (un2 a9_)
def od12:OD:=⟨[(3,.box [.k,.view .int]),(5,.own .d .iRow),(6,.k),(7,.k)],[.pb 1 0,.rt 2,.i .i64,.i .i64],[.ext,.box (TRow.p .v),.arr .d .iRow 2]⟩
def od13:OD:=⟨[(3,.box [.k,.view .int]),(5,.own .d .iRow),(6,.k)],[.pb 1 0,.rt 2,.i .i64],[.ext,.box (TRow.p .v),.arr .d .iRow 2]⟩
def rd10:RD:=⟨(List TRow),[.sl .s .iRow],fun (a0,_)=>a0,fun r=>(r,())⟩
def bo_.e:FE:=mkE rd10 206 55 1 [.sl .v .iRow,.ag (TRow.p .v)] [.tmp 4] [] [(6,od12)] [(0,od13)] fun n (a0,a1,_)=>bo_ n a0 (TRow.of a1)
def od14:OD:=⟨[(0,.box [.view .u8,.k,.k]),(1,.k),(5,.own .s .iRow),(6,.k)],[.pb 1 0,.i .i64,.rt 2,.i .i64],[.ext,.box (al_.p .v),.arr .s .iRow 2]⟩
def od15:OD:=⟨[(5,.own .s .iRow)],[.rt 2],[.ext,.box (al_.p .v),.arr .s .iRow 2]⟩
def rd11:RD:=⟨(List TRow) × al_,[.sl .s .iRow,.bx (al_.p .v)],fun (a0,a1,_)=>(a0,(al_.of a1)),fun (a0,a1)=>(a0,al_.to a1,())⟩
def aU_.e:FE:=mkE rd11 175 20 2 [.bx (al_.p .v),.i .i64] [.tmp 4] [.pb 1 0] [(4,od14)] [(0,od15)] fun n (a0,a1,_)=>aU_ n (al_.of a0) a1
def od16:OD:=⟨[(0,.box [.view .u8,.k,.k]),(2,.box [.k,.k,.k]),(3,.box [.own .d .int,.k,.own .s .s_iRow]),(5,.k)],[.pb 1 0,.pb 2 0,.pb 3 0,.i .i64],[.ext,.box (al_.p .v),.box [.nils,.i .i64,.nils],.box [.rt 4,.i .i64,.rt 5],.arr .d .int 2,.arr .s .s_iRow 2]⟩
def od17:OD:=⟨[(0,.box [.view .u8,.k,.k]),(2,.box [.k,.k,.k]),(3,.box [.own .d .int,.k,.own .s .s_iRow])],[.pb 1 0,.pb 2 0,.pb 3 0],[.ext,.box (al_.p .v),.box [.nils,.i .i64,.nils],.box [.rt 4,.i .i64,.rt 5],.arr .d .int 2,.arr .s .s_iRow 2]⟩
def rd12:RD:=⟨aw_ × al_,[.ag [.sl .d .int,.i .i64,.sl .s .s_iRow],.bx (al_.p .v)],fun (a0,a1,_)=>((aw_.of a0),(al_.of a1)),fun (a0,a1)=>(aw_.to a0,al_.to a1,())⟩
def aK_.e:FE:=mkE rd12 125 35 2 [.bx (al_.p .v)] [.cell 2 88] [.pb 1 0] [(4,od16)] [(0,od17)] fun n (a0,_)=>aK_ n (al_.of a0)
def cp_.e:FE:=mkE rd7 150 10 1 (TKid.p .v) [.tmp 4] [] [] [] (un2 cp_)
def rd13:RD:=⟨Bool × al_,[.b,.bx (al_.p .v)],fun (a0,a1,_)=>(a0,(al_.of a1)),fun (a0,a1)=>(a0,al_.to a1,())⟩
def cn_.e:FE:=mkE rd13 41 9 2 [.bx (al_.p .v),.i .i64] [.tmp 4] [.pb 1 0] [] [] fun n (a0,a1,_)=>cn_ n (al_.of a0) a1
def bE_.e:FE:=mkE rd2 114 12 2 [.bx (al_.p .v),.sl .v .int] [.tmp 4] [.pb 1 0] [] [] fun n (a0,a1,_)=>bE_ n (al_.of a0) a1
def od18:OD:=⟨[(0,.box [.view .u8,.k,.k]),(3,.box [.view .int]),(4,.box [.k,.k,.k,.k,.k,.k,.k,.k,.k]),(5,.box [.k,.own .d .iCond,.k,.k,.k,.k,.k,.k,.k]),(6,.k),(7,.k)],[.pb 1 0,.pb 2 0,.pb 3 0,.pb 4 0,.i .i64,.i .i64],[.ext,.box (al_.p .v),.box [.sl .v .int],.box [.i .i64,.nils,.i .i64,.b,.i .i64,.nils,.b,.i .i64,.i .i64],.box [.i .i64,.rt 5,.i .i64,.b,.i .i64,.nils,.b,.i .i64,.i .i64],.arr .d .iCond 2]⟩
def od19:OD:=⟨[(0,.box [.view .u8,.k,.k]),(3,.box [.view .int]),(4,.box [.k,.k,.k,.k,.k,.k,.k,.k,.k]),(5,.box [.k,.own .d .iCond,.k,.k,.k,.own .d .int,.k,.k,.k]),(6,.k),(8,.k)],[.pb 1 0,.pb 2 0,.pb 3 0,.pb 4 0,.i .i64,.i .i64],[.ext,.box (al_.p .v),.box [.sl .v .int],.box [.i .i64,.nils,.i .i64,.b,.i .i64,.nils,.b,.i .i64,.i .i64],.box [.i .i64,.rt 5,.i .i64,.b,.i .i64,.rt 6,.b,.i .i64,.i .i64],.arr .d .iCond 2,.arr .d .int 2]⟩
def od20:OD:=⟨[(0,.box [.view .u8,.k,.k]),(3,.box [.view .int]),(4,.box [.k,.k,.k,.k,.k,.k,.k,.k,.k]),(5,.box [.k,.own .d .iCond,.k,.k,.k,.k,.k,.k,.k]),(6,.k)],[.pb 1 0,.pb 2 0,.pb 3 0,.pb 4 0,.i .i64],[.ext,.box (al_.p .v),.box [.sl .v .int],.box [.i .i64,.nils,.i .i64,.b,.i .i64,.nils,.b,.i .i64,.i .i64],.box [.i .i64,.rt 5,.i .i64,.b,.i .i64,.nils,.b,.i .i64,.i .i64],.arr .d .iCond 2]⟩
def od21:OD:=⟨[(0,.box [.view .u8,.k,.k]),(3,.box [.view .int]),(4,.box [.k,.k,.k,.k,.k,.k,.k,.k,.k]),(5,.box [.k,.own .d .iCond,.k,.k,.k,.own .d .int,.k,.k,.k])],[.pb 1 0,.pb 2 0,.pb 3 0,.pb 4 0],[.ext,.box (al_.p .v),.box [.sl .v .int],.box [.i .i64,.nils,.i .i64,.b,.i .i64,.nils,.b,.i .i64,.i .i64],.box [.i .i64,.rt 5,.i .i64,.b,.i .i64,.rt 6,.b,.i .i64,.i .i64],.arr .d .iCond 2,.arr .d .int 2]⟩
def rd14:RD:=⟨an_ × al_,[.ag (an_.p .d),.bx (al_.p .v)],fun (a0,a1,_)=>((an_.of a0),(al_.of a1)),fun (a0,a1)=>(an_.to a0,al_.to a1,())⟩
def ai_.e:FE:=mkE rd14 127 106 2 [.bx (al_.p .v),.ag [.sl .v .int]] [.cell 4 27] [.pb 1 0] [(7,od18),(16,od19)] [(0,od20),(2,od21)] fun n (a0,a1,_)=>ai_ n (al_.of a0) (aA_.of a1)
def od22:OD:=⟨[(5,.box [.k,.view .int]),(7,.k)],[.pb 1 0,.i .i64],[.ext,.box (TRow.p .v)]⟩
def b3_.e:FE:=mkE rd0 207 51 1 [.ag [.sl .v .int],.i .i64,.ag (TRow.p .v)] [.tmp 6] [] [(6,od22)] [(0,od9)] fun n (a0,a1,a2,_)=>b3_ n (aA_.of a0) a1 (TRow.of a2)
def od23:OD:=⟨[(1,.k),(2,.view .iRow),(3,.box [.view .int]),(7,.k)],[.i .i64,.sl .v .iRow,.pb 1 0,.i .i64],[.ext,.box [.sl .v .int]]⟩
def od24:OD:=⟨[(1,.k),(2,.view .iRow),(3,.box [.view .int])],[.i .i64,.sl .v .iRow,.pb 1 0],[.ext,.box [.sl .v .int]]⟩
def bK_.e:FE:=mkE rd0 180 55 1 [.ag [.sl .v .int],.i .i64,.sl .v .iRow] [.tmp 6] [] [(3,od23)] [(0,od24)] fun n (a0,a1,a2,_)=>bK_ n (aA_.of a0) a1 a2
def od25:OD:=⟨[(1,.box [.view .int,.k,.view .s_iRow]),(3,.k)],[.pb 1 0,.i .i64],[.ext,.box (aw_.p .v)]⟩
def bj_.e:FE:=mkE rd0 128 41 1 [.ag (aw_.p .v)] [.tmp 2] [] [(6,od25)] [(0,od9)] fun n (a0,_)=>bj_ n (aw_.of a0)
def od26:OD:=⟨[(2,.box [.view .int]),(3,.box [.k,.view .iCond,.k,.k,.k,.view .int,.k,.k,.k]),(5,.k),(6,.k)],[.pb 1 0,.pb 2 0,.i .i64,.i .i64],[.ext,.box [.sl .v .int],.box (an_.p .v)]⟩
def od27:OD:=⟨[(2,.box [.view .int]),(3,.box [.k,.view .iCond,.k,.k,.k,.view .int,.k,.k,.k]),(5,.k),(8,.k)],[.pb 1 0,.pb 2 0,.i .i64,.i .i64],[.ext,.box [.sl .v .int],.box (an_.p .v)]⟩
def od28:OD:=⟨[(2,.box [.view .int]),(3,.box [.k,.view .iCond,.k,.k,.k,.view .int,.k,.k,.k]),(5,.k)],[.pb 1 0,.pb 2 0,.i .i64],[.ext,.box [.sl .v .int],.box (an_.p .v)]⟩
def ay_.e:FE:=mkE rd0 176 148 1 [.ag [.sl .v .int],.ag (an_.p .v)] [.tmp 4] [] [(7,od26),(16,od27)] [(0,od28),(2,od28)] fun n (a0,a1,_)=>ay_ n (aA_.of a0) (an_.of a1)
def rd15:RD:=⟨an_,[.ag (an_.p .d)],fun (a0,_)=>(an_.of a0),fun r=>(an_.to r,())⟩
def dA_.e:FE:=mkE rd15 117 14 1 [.ag (an_.p .v)] [.cell 2 27] [] [] [] fun n (a0,_)=>dA_ n (an_.of a0)
def dj_.e:FE:=mkE rd0 209 46 1 [.ag (a6_.p .v),.ag (TRow.p .v)] [.tmp 4] [] [] [] fun n (a0,a1,_)=>dj_ n (a6_.of a0) (TRow.of a1)
def od29:OD:=⟨[(2,.box [.k,.view .iCond,.k,.k,.k,.view .int,.k,.k,.k]),(3,.box [.k,.view .int]),(5,.k)],[.pb 1 0,.pb 2 0,.i .i64],[.ext,.box (an_.p .v),.box (TRow.p .v)]⟩
def bw_.e:FE:=mkE rd0 186 21 1 [.ag (an_.p .v),.ag (TRow.p .v)] [.tmp 4] [] [(3,od29)] [(0,od9)] fun n (a0,a1,_)=>bw_ n (an_.of a0) (TRow.of a1)
def bz_.e:FE:=mkE rd7 188 17 1 [.ag (TRow.p .v),.i .i64] [.tmp 4] [] [] [] fun n (a0,a1,_)=>bz_ n (TRow.of a0) a1
def dX_.e:FE:=mkE rd0 210 36 1 [.ag (an_.p .v),.ag (TRow.p .v),.ag (TRow.p .v)] [.tmp 6] [] [] [] fun n (a0,a1,a2,_)=>dX_ n (an_.of a0) (TRow.of a1) (TRow.of a2)
def od30:OD:=⟨[(1,.view .iRow),(3,.box [.k,.view .iCond,.k,.k,.k,.view .int,.k,.k,.k]),(5,.box [.k,.view .int]),(7,.own .s .iRow),(8,.k),(9,.k)],[.sl .v .iRow,.pb 1 0,.pb 2 0,.rt 3,.b,.i .i64],[.ext,.box (an_.p .v),.box (TRow.p .v),.arr .s .iRow 2]⟩
def od31:OD:=⟨[(5,.box [.k,.view .int]),(7,.own .s .iRow),(8,.k)],[.pb 1 0,.rt 2,.b],[.ext,.box (TRow.p .v),.arr .s .iRow 2]⟩
def bA_.e:FE:=mkE rd10 187 48 1 [.ag (an_.p .v),.sl .v .iRow,.ag (TRow.p .v)] [.tmp 6] [] [(5,od30)] [(0,od31)] fun n (a0,a1,a2,_)=>bA_ n (an_.of a0) a1 (TRow.of a2)
def od32:OD:=⟨[(3,.box [.k,.view .iCond,.k,.k,.k,.view .int,.k,.k,.k]),(5,.own .s .iRow),(6,.view .iRow),(7,.k)],[.pb 1 0,.rt 2,.sl .v .iRow,.i .i64],[.ext,.box (an_.p .v),.arr .s .iRow 2]⟩
def od33:OD:=⟨[(5,.own .s .iRow)],[.rt 1],[.ext,.arr .s .iRow 2]⟩
def br_.e:FE:=mkE rd10 177 46 1 [.ag (aw_.p .v),.ag (an_.p .v)] [.tmp 4] [] [(8,od32)] [(0,od33)] fun n (a0,a1,_)=>br_ n (aw_.of a0) (an_.of a1)
def od34:OD:=⟨[(0,.view .iKid),(1,.k),(2,.k),(7,.own .d .iKid),(8,.k),(9,.k)],[.sl .v .iKid,.i .i64,.i .i64,.rt 1,.b,.i .i64],[.ext,.arr .d .iKid 2]⟩
def od35:OD:=⟨[(1,.k),(2,.k),(7,.own .d .iKid),(8,.k)],[.i .i64,.i .i64,.rt 1,.b],[.ext,.arr .d .iKid 2]⟩
def rd16:RD:=⟨(List TKid),[.sl .d .iKid],fun (a0,_)=>a0,fun r=>(r,())⟩
def aL_.e:FE:=mkE rd16 178 69 1 [.sl .v .iKid,.i .i64,.i .i64] [.tmp 6] [] [(5,od34)] [(0,od35)] (un3 aL_)
def od36:OD:=⟨[(3,.box [.k,.view .iCond,.k,.k,.k,.view .int,.k,.k,.k]),(4,.box [.k,.k,.k,.k,.k,.k,.k,.k,.k,.k,.k]),(6,.box [.k,.own .d .iCond,.k,.k,.k,.own .d .int,.k,.k,.k,.own .s .iRow,.own .d .iKid]),(7,.view .iRow),(8,.k)],[.pb 1 0,.pb 2 0,.pb 3 0,.sl .v .iRow,.i .i64],[.ext,.box (an_.p .v),.box [.i .i64,.nils,.i .i64,.b,.i .i64,.nils,.b,.i .i64,.i .i64,.nils,.nils],.box [.i .i64,.rt 4,.i .i64,.b,.i .i64,.rt 5,.b,.i .i64,.i .i64,.rt 6,.rt 7],.arr .d .iCond 2,.arr .d .int 2,.arr .s .iRow 2,.arr .d .iKid 2]⟩
def od37:OD:=⟨[(4,.box [.k,.k,.k,.k,.k,.k,.k,.k,.k,.k,.k]),(6,.box [.k,.own .d .iCond,.k,.k,.k,.own .d .int,.k,.k,.k,.own .s .iRow,.own .d .iKid])],[.pb 1 0,.pb 2 0],[.ext,.box [.i .i64,.nils,.i .i64,.b,.i .i64,.nils,.b,.i .i64,.i .i64,.nils,.nils],.box [.i .i64,.rt 3,.i .i64,.b,.i .i64,.rt 4,.b,.i .i64,.i .i64,.rt 5,.rt 6],.arr .d .iCond 2,.arr .d .int 2,.arr .s .iRow 2,.arr .d .iKid 2]⟩
def rd17:RD:=⟨aD_ × Bool,[.ag [.i .i64,.sl .d .iCond,.i .i64,.b,.i .i64,.sl .d .int,.b,.i .i64,.i .i64,.sl .s .iRow,.sl .d .iKid],.b],fun (a0,a1,_)=>((aD_.of a0),a1),fun (a0,a1)=>(aD_.to a0,a1,())⟩
def bJ_.e:FE:=mkE rd17 126 56 1 [.ag (aw_.p .v),.ag (an_.p .v)] [.cell 4 31,.tmp 5] [] [(8,od36)] [(0,od37)] fun n (a0,a1,_)=>bJ_ n (aw_.of a0) (an_.of a1)
def od38:OD:=⟨[(0,.box [.view .u8,.k,.k]),(2,.box [.k,.k,.k]),(3,.box [.k,.k,.k,.k,.k,.k,.k,.k,.k,.k,.k]),(4,.box [.view .int,.k,.view .s_iRow])],[.pb 1 0,.pb 2 0,.pb 3 0,.pb 4 0],[.ext,.box (al_.p .v),.box [.nils,.i .i64,.nils],.box [.i .i64,.nils,.i .i64,.b,.i .i64,.nils,.b,.i .i64,.i .i64,.nils,.nils],.box (aw_.p .v)]⟩
def rd18:RD:=⟨aw_ × aD_ × al_,[.ag (aw_.p .v),.ag [.i .i64,.sl .d .iCond,.i .i64,.b,.i .i64,.sl .d .int,.b,.i .i64,.i .i64,.sl .s .iRow,.sl .d .iKid],.bx (al_.p .v)],fun (a0,a1,a2,_)=>((aw_.of a0),(aD_.of a1),(al_.of a2)),fun (a0,a1,a2)=>(aw_.to a0,aD_.to a1,al_.to a2,())⟩
def b2_.e:FE:=mkE rd18 67 20 2 [.bx (al_.p .v)] [.cell 2 88,.cell 3 31] [.pb 1 0] [(1,od38)] [] fun n (a0,_)=>b2_ n (al_.of a0)
def rd19:RD:=⟨TMut × al_,[.ag (TMut.p .d),.bx (al_.p .v)],fun (a0,a1,_)=>((TMut.of a0),(al_.of a1)),fun (a0,a1)=>(TMut.to a0,al_.to a1,())⟩
def c2_.e:FE:=mkE rd19 132 102 2 [.bx (al_.p .v),.ag (aw_.p .v)] [.cell 4 164] [.pb 1 0] [] [] fun n (a0,a1,_)=>c2_ n (al_.of a0) (aw_.of a1)
def d9_.e:FE:=mkE rd0 182 43 1 [.ag [.sl .v .int],.ag (TMut.p .v)] [.tmp 4] [] [] [] fun n (a0,a1,_)=>d9_ n (aA_.of a0) (TMut.of a1)
def od39:OD:=⟨[(0,.view .iRow),(3,.own .d .iRow),(4,.k)],[.sl .v .iRow,.rt 1,.i .i64],[.ext,.arr .d .iRow 2]⟩
def od40:OD:=⟨[(3,.own .d .iRow)],[.rt 1],[.ext,.arr .d .iRow 2]⟩
def bC_.e:FE:=mkE rd9 118 21 1 [.sl .v .iRow] [.tmp 2] [] [(4,od39)] [(0,od40)] (un1 bC_)
def od41:OD:=⟨[(1,.box [.view .int,.k,.view .s_iRow]),(2,.box [.k,.k,.k]),(3,.box [.own .d .int,.k,.own .d .s_iRow]),(4,.k)],[.pb 1 0,.pb 2 0,.pb 3 0,.i .i64],[.ext,.box (aw_.p .v),.box [.nils,.i .i64,.nils],.box [.rt 4,.i .i64,.rt 5],.arr .d .int 2,.arr .d .s_iRow 2]⟩
def od42:OD:=⟨[(2,.box [.k,.k,.k]),(3,.box [.own .d .int,.k,.own .d .s_iRow])],[.pb 1 0,.pb 2 0],[.ext,.box [.nils,.i .i64,.nils],.box [.rt 3,.i .i64,.rt 4],.arr .d .int 2,.arr .d .s_iRow 2]⟩
def rd20:RD:=⟨aw_,[.ag (aw_.p .d)],fun (a0,_)=>(aw_.of a0),fun r=>(aw_.to r,())⟩
def bh_.e:FE:=mkE rd20 130 30 1 [.ag (aw_.p .v)] [.cell 2 88] [] [(4,od41)] [(0,od42)] fun n (a0,_)=>bh_ n (aw_.of a0)
def rd21:RD:=⟨aw_ × aT_ × Bool,[.ag [.sl .d .int,.i .i64,.sl .s .s_iRow],.ag (aT_.p .d),.b],fun (a0,a1,a2,_)=>((aw_.of a0),(aT_.of a1),a2),fun (a0,a1,a2)=>(aw_.to a0,aT_.to a1,a2,())⟩
def ew_.e:FE:=mkE rd21 183 82 3 [.ag [.sl .d .int,.i .i64,.sl .s .s_iRow],.ag (TMut.p .v)] [.cell 4 88,.cell 5 160,.tmp 6] [] [] [] fun n (a0,a1,_)=>ew_ n (aw_.of a0) (TMut.of a1)
def dV_.e:FE:=mkE rd21 131 38 1 [.ag (aw_.p .v),.ag (TMut.p .v)] [.cell 4 88,.cell 5 160,.tmp 6] [] [] [] fun n (a0,a1,_)=>dV_ n (aw_.of a0) (TMut.of a1)
def od43:OD:=⟨[(0,.box [.view .u8,.k,.k]),(5,.box [.view .int,.k,.view .s_iRow]),(6,.own .s .iMut),(7,.k)],[.pb 1 0,.pb 2 0,.rt 3,.i .i64],[.ext,.box (al_.p .v),.box (aw_.p .v),.arr .s .iMut 2]⟩
def od44:OD:=⟨[(0,.box [.view .u8,.k,.k]),(5,.box [.view .int,.k,.view .s_iRow]),(6,.own .s .iMut),(7,.k),(8,.box [.k,.k,.k,.view .int])],[.pb 1 0,.pb 2 0,.rt 3,.i .i64,.pb 4 0],[.ext,.box (al_.p .v),.box (aw_.p .v),.arr .s .iMut 2,.box (TMut.p .v)]⟩
def od45:OD:=⟨[(6,.own .s .iMut)],[.rt 2],[.ext,.box (al_.p .v),.arr .s .iMut 2]⟩
def rd22:RD:=⟨(List TMut) × al_,[.sl .s .iMut,.bx (al_.p .v)],fun (a0,a1,_)=>(a0,(al_.of a1)),fun (a0,a1)=>(a0,al_.to a1,())⟩
def aB_.e:FE:=⟨_,⟨69,43,2,[.bx (al_.p .v),.ag (aw_.p .v)],rd22.rp,rd22.toR,rd22.ofR,[.ptr [.v,.v,.v],.ag [.v,.v,.v]],[.o,.ptr [.v,.v,.v]],[.own .s .iMut,.box [.view .u8,.k,.k]],[.tmp 4],[.pb 1 0],[(9,od44),(5,od43)],[(9,od43)],[(0,od45)]⟩,fun _=>true,fun n (a0,a1,_)=>aB_ n (al_.of a0) (aw_.of a1)⟩
def od46:OD:=⟨[(1,.view .iMut),(2,.box [.view .int,.k,.view .s_iRow]),(4,.box [.k,.k,.k]),(7,.own .d .iChange),(8,.box [.own .d .int,.k,.own .s .s_iRow]),(9,.own .d .iChange),(10,.k)],[.sl .v .iMut,.pb 1 0,.pb 2 0,.rt 3,.pb 4 0,.rt 5,.i .i64],[.ext,.box (aw_.p .v),.box [.nils,.i .i64,.nils],.arr .d .iChange 2,.box [.rt 6,.i .i64,.rt 7],.arr .d .iChange 2,.arr .d .int 2,.arr .s .s_iRow 2]⟩
def od47:OD:=⟨[(2,.box [.view .int,.k,.view .s_iRow]),(4,.box [.k,.k,.k]),(8,.box [.own .d .int,.k,.own .s .s_iRow]),(9,.own .d .iChange)],[.pb 1 0,.pb 2 0,.pb 3 0,.rt 4],[.ext,.box (aw_.p .v),.box [.nils,.i .i64,.nils],.box [.rt 5,.i .i64,.rt 6],.arr .d .iChange 2,.arr .d .int 2,.arr .s .s_iRow 2]⟩
def rd23:RD:=⟨aw_ × (List aT_) × Bool,[.ag [.sl .d .int,.i .i64,.sl .s .s_iRow],.sl .d .iChange,.b],fun (a0,a1,a2,_)=>((aw_.of a0),a1,a2),fun (a0,a1,a2)=>(aw_.to a0,a1,a2,())⟩
def bs_.e:FE:=mkE rd23 68 67 1 [.ag (aw_.p .v),.sl .v .iMut] [.cell 4 88,.tmp 5,.tmp 6] [] [(12,od46)] [(0,od47)] fun n (a0,a1,_)=>bs_ n (aw_.of a0) a1
def rd24:RD:=⟨aD_,[.ag (aD_.p .d)],fun (a0,_)=>(aD_.of a0),fun r=>(aD_.to r,())⟩
def dk_.e:FE:=mkE rd24 57 14 1 [.ag (aD_.p .v)] [.cell 2 31] [] [] [] fun n (a0,_)=>dk_ n (aD_.of a0)
def rd25:RD:=⟨aD_,[.ag [.i .i64,.sl .d .iCond,.i .i64,.b,.i .i64,.sl .d .int,.b,.i .i64,.i .i64,.sl .s .iRow,.sl .d .iKid]],fun (a0,_)=>(aD_.of a0),fun r=>(aD_.to r,())⟩
def cR_.e:FE:=mkE rd25 133 76 1 [.ag (aD_.p .v),.ag (aT_.p .v)] [.cell 4 31] [] [] [] fun n (a0,a1,_)=>cR_ n (aD_.of a0) (aT_.of a1)
def od48:OD:=⟨[(1,.view .iChange),(4,.box [.k,.k,.k,.k,.k,.k,.k,.k,.k,.k,.k]),(5,.box [.k,.own .d .iCond,.k,.k,.k,.own .d .int,.k,.k,.k,.own .s .iRow,.own .d .iKid]),(6,.k)],[.sl .v .iChange,.pb 1 0,.pb 2 0,.i .i64],[.ext,.box [.i .i64,.nils,.i .i64,.b,.i .i64,.nils,.b,.i .i64,.i .i64,.nils,.nils],.box [.i .i64,.rt 3,.i .i64,.b,.i .i64,.rt 4,.b,.i .i64,.i .i64,.rt 5,.rt 6],.arr .d .iCond 2,.arr .d .int 2,.arr .s .iRow 2,.arr .d .iKid 2]⟩
def od49:OD:=⟨[(4,.box [.k,.k,.k,.k,.k,.k,.k,.k,.k,.k,.k]),(5,.box [.k,.own .d .iCond,.k,.k,.k,.own .d .int,.k,.k,.k,.own .s .iRow,.own .d .iKid])],[.pb 1 0,.pb 2 0],[.ext,.box [.i .i64,.nils,.i .i64,.b,.i .i64,.nils,.b,.i .i64,.i .i64,.nils,.nils],.box [.i .i64,.rt 3,.i .i64,.b,.i .i64,.rt 4,.b,.i .i64,.i .i64,.rt 5,.rt 6],.arr .d .iCond 2,.arr .d .int 2,.arr .s .iRow 2,.arr .d .iKid 2]⟩
def aN_.e:FE:=mkE rd25 70 22 1 [.ag (aD_.p .v),.sl .v .iChange] [.cell 4 31] [] [(4,od48)] [(0,od49)] fun n (a0,a1,_)=>aN_ n (aD_.of a0) a1
def dH_.e:FE:=mkE rd14 134 61 2 [.bx (al_.p .v),.ag [.sl .v .int]] [.cell 4 27] [.pb 1 0] [] [] fun n (a0,a1,_)=>dH_ n (al_.of a0) (aA_.of a1)
def rd26:RD:=⟨aA_ × aD_ × al_,[.ag [.sl .v .int],.ag [.i .i64,.sl .d .iCond,.i .i64,.b,.i .i64,.sl .d .int,.b,.i .i64,.i .i64,.sl .s .iRow,.sl .d .iKid],.bx (al_.p .v)],fun (a0,a1,a2,_)=>((aA_.of a0),(aD_.of a1),(al_.of a2)),fun (a0,a1,a2)=>(aA_.to a0,aD_.to a1,al_.to a2,())⟩
def du_.e:FE:=mkE rd26 71 62 2 [.bx (al_.p .v)] [.cell 2 41,.cell 3 31] [.pb 1 0] [] [] fun n (a0,_)=>du_ n (al_.of a0)
def od50:OD:=⟨[(2,.box [.k,.k,.k,.k,.k,.k,.k,.k,.k,.k,.k]),(3,.box [.k,.k,.k,.k,.k,.k,.k,.k,.k,.k,.k]),(4,.box [.view .u8,.k,.k]),(6,.box [.k,.view .iCond,.k,.k,.k,.view .int,.k,.k,.k,.view .iRow,.view .iKid]),(7,.box [.view .int,.k,.view .s_iRow])],[.pb 1 0,.pb 2 0,.pb 3 0,.pb 4 0,.pb 5 0],[.ext,.box [.i .i64,.nils,.i .i64,.b,.i .i64,.nils,.b,.i .i64,.i .i64,.nils,.nils],.box [.i .i64,.nils,.i .i64,.b,.i .i64,.nils,.b,.i .i64,.i .i64,.nils,.nils],.box (al_.p .v),.box (aD_.p .v),.box (aw_.p .v)]⟩
def od51:OD:=⟨[(2,.box [.k,.k,.k,.k,.k,.k,.k,.k,.k,.k,.k]),(3,.box [.k,.k,.k,.k,.k,.k,.k,.k,.k,.k,.k]),(4,.box [.view .u8,.k,.k]),(6,.box [.k,.view .iCond,.k,.k,.k,.view .int,.k,.k,.k,.view .iRow,.view .iKid]),(7,.box [.view .int,.k,.view .s_iRow]),(8,.box [.k,.view .iCond,.k,.k,.k,.view .int,.k,.k,.k,.view .iRow,.view .iKid]),(9,.k)],[.pb 1 0,.pb 2 0,.pb 3 0,.pb 4 0,.pb 5 0,.pb 6 0,.i .i64],[.ext,.box [.i .i64,.nils,.i .i64,.b,.i .i64,.nils,.b,.i .i64,.i .i64,.nils,.nils],.box [.i .i64,.nils,.i .i64,.b,.i .i64,.nils,.b,.i .i64,.i .i64,.nils,.nils],.box (al_.p .v),.box (aD_.p .v),.box (aw_.p .v),.box (aD_.p .v)]⟩
def od52:OD:=⟨[(2,.box [.k,.k,.k,.k,.k,.k,.k,.k,.k,.k,.k]),(3,.box [.k,.k,.k,.k,.k,.k,.k,.k,.k,.k,.k]),(4,.box [.view .u8,.k,.k]),(6,.box [.k,.view .iCond,.k,.k,.k,.view .int,.k,.k,.k,.view .iRow,.view .iKid]),(7,.box [.view .int,.k,.view .s_iRow]),(8,.box [.k,.view .iCond,.k,.k,.k,.view .int,.k,.k,.k,.view .iRow,.view .iKid]),(9,.k),(10,.box [.view .int,.k,.view .s_iRow]),(11,.own .d .iChange),(38,.k)],[.pb 1 0,.pb 2 0,.pb 3 0,.pb 4 0,.pb 5 0,.pb 6 0,.i .i64,.pb 7 0,.rt 8,.b],[.ext,.box [.i .i64,.nils,.i .i64,.b,.i .i64,.nils,.b,.i .i64,.i .i64,.nils,.nils],.box [.i .i64,.nils,.i .i64,.b,.i .i64,.nils,.b,.i .i64,.i .i64,.nils,.nils],.box (al_.p .v),.box (aD_.p .v),.box (aw_.p .v),.box (aD_.p .v),.box (aw_.p .v),.arr .d .iChange 2]⟩
def od53:OD:=⟨[(2,.box [.k,.k,.k,.k,.k,.k,.k,.k,.k,.k,.k]),(3,.box [.k,.k,.k,.k,.k,.k,.k,.k,.k,.k,.k]),(4,.box [.view .u8,.k,.k]),(6,.box [.k,.view .iCond,.k,.k,.k,.view .int,.k,.k,.k,.view .iRow,.view .iKid]),(7,.box [.view .int,.k,.view .s_iRow]),(8,.box [.k,.view .iCond,.k,.k,.k,.view .int,.k,.k,.k,.view .iRow,.view .iKid]),(9,.k),(11,.view .iChange)],[.pb 1 0,.pb 2 0,.pb 3 0,.pb 4 0,.pb 5 0,.pb 6 0,.i .i64,.sl .v .iChange],[.ext,.box [.i .i64,.nils,.i .i64,.b,.i .i64,.nils,.b,.i .i64,.i .i64,.nils,.nils],.box [.i .i64,.nils,.i .i64,.b,.i .i64,.nils,.b,.i .i64,.i .i64,.nils,.nils],.box (al_.p .v),.box (aD_.p .v),.box (aw_.p .v),.box (aD_.p .v)]⟩
def od54:OD:=⟨[(2,.box [.k,.k,.k,.k,.k,.k,.k,.k,.k,.k,.k]),(3,.box [.k,.k,.k,.k,.k,.k,.k,.k,.k,.k,.k]),(4,.box [.view .u8,.k,.k]),(6,.box [.k,.view .iCond,.k,.k,.k,.view .int,.k,.k,.k,.view .iRow,.view .iKid]),(7,.box [.view .int,.k,.view .s_iRow]),(8,.box [.k,.own .d .iCond,.k,.k,.k,.own .d .int,.k,.k,.k,.own .s .iRow,.own .d .iKid]),(9,.k)],[.pb 1 0,.pb 2 0,.pb 3 0,.pb 4 0,.pb 5 0,.pb 6 0,.i .i64],[.ext,.box [.i .i64,.nils,.i .i64,.b,.i .i64,.nils,.b,.i .i64,.i .i64,.nils,.nils],.box [.i .i64,.nils,.i .i64,.b,.i .i64,.nils,.b,.i .i64,.i .i64,.nils,.nils],.box (al_.p .v),.box (aD_.p .v),.box (aw_.p .v),.box [.i .i64,.rt 7,.i .i64,.b,.i .i64,.rt 8,.b,.i .i64,.i .i64,.rt 9,.rt 10],.arr .d .iCond 2,.arr .d .int 2,.arr .s .iRow 2,.arr .d .iKid 2]⟩
def od55:OD:=⟨[(2,.box [.k,.k,.k,.k,.k,.k,.k,.k,.k,.k,.k]),(3,.box [.k,.k,.k,.k,.k,.k,.k,.k,.k,.k,.k]),(4,.box [.view .u8,.k,.k]),(6,.box [.k,.view .iCond,.k,.k,.k,.view .int,.k,.k,.k,.view .iRow,.view .iKid]),(8,.box [.k,.view .iCond,.k,.k,.k,.view .int,.k,.k,.k,.view .iRow,.view .iKid])],[.pb 1 0,.pb 2 0,.pb 3 0,.pb 4 0,.pb 5 0],[.ext,.box [.i .i64,.nils,.i .i64,.b,.i .i64,.nils,.b,.i .i64,.i .i64,.nils,.nils],.box [.i .i64,.nils,.i .i64,.b,.i .i64,.nils,.b,.i .i64,.i .i64,.nils,.nils],.box (al_.p .v),.box (aD_.p .v),.box (aD_.p .v)]⟩
def rd27:RD:=⟨aD_ × aD_,[.ag (aD_.p .v),.ag (aD_.p .v)],fun (a0,a1,_)=>((aD_.of a0),(aD_.of a1)),fun (a0,a1)=>(aD_.to a0,aD_.to a1,())⟩
def aG_.e:FE:=⟨_,⟨26,52,1,[.sl .v .u8],rd27.rp,rd27.toR,rd27.ofR,[.v],[.ag [.v,.v,.v,.v,.v,.v,.v,.v,.v,.v,.v],.ag [.v,.v,.v,.v,.v,.v,.v,.v,.v,.v,.v]],[.ag [.k,.view .iCond,.k,.k,.k,.view .int,.k,.k,.k,.view .iRow,.view .iKid],.ag [.k,.view .iCond,.k,.k,.k,.view .int,.k,.k,.k,.view .iRow,.view .iKid]],[.cell 2 31,.cell 3 31],[],[(13,od53),(12,od52),(8,od51),(7,od51),(3,od50)],[(8,od51),(12,od51),(13,od54)],[(0,od55)]⟩,fun _=>true,(un1 aG_)⟩
def cI_.e:FE:=mkE rd27 6 13 1 [.sl .v .u8] [.cell 2 31,.cell 3 31] [] [] [] (un1 cI_)
def od56:OD:=⟨[(0,.view .iCond),(1,.view .iCond),(12,.k),(13,.k)],[.sl .v .iCond,.sl .v .iCond,.i .i64,.i .i64],[.ext]⟩
def aO_.e:FE:=mkE rd0 65 26 1 [.sl .v .iCond,.sl .v .iCond] [.tmp 4] [] [(6,od56)] [(0,od9)] (un2 aO_)
def od57:OD:=⟨[(0,.view .int),(1,.view .int),(12,.k),(13,.k)],[.sl .v .int,.sl .v .int,.i .i64,.i .i64],[.ext]⟩
def aY_.e:FE:=mkE rd0 66 26 1 [.sl .v .int,.sl .v .int] [.tmp 4] [] [(6,od57)] [(0,od9)] (un2 aY_)
def c6_.e:FE:=mkE rd0 25 70 1 [.ag (an_.p .v),.ag (an_.p .v)] [.tmp 4] [] [] [] fun n (a0,a1,_)=>c6_ n (an_.of a0) (an_.of a1)
def az_.e:FE:=mkE rd0 48 15 1 (a6_.p .v) [.tmp 6] [] [] [] (un3 az_)
def a7_.e:FE:=mkE rd0 100 5 1 [.i .i64] [.tmp 2] [] [] [] (un1 a7_)
def od58:OD:=⟨[(0,.k),(5,.k),(6,.k)],[.s,.i .i64,.i .i64],[.ext]⟩
def od59:OD:=⟨[(0,.k)],[.s],[.ext]⟩
def ax_.e:FE:=mkE rd0 167 19 1 [.s] [.tmp 2] [] [(3,od58)] [(0,od59)] (un1 ax_)
def od60:OD:=⟨[(0,.view .str),(5,.view .str),(6,.k),(7,.k)],[.sl .v .str,.sl .v .str,.i .i64,.i .i64],[.ext]⟩
def au_.e:FE:=mkE rd0 195 29 1 [.sl .v .str] [.tmp 2] [] [(3,od60)] [(0,od9)] (un1 au_)
def ea_.e:FE:=mkE rd0 156 90 1 [.ag (aa_.p .v)] [.tmp 2] [] [] [] fun n (a0,_)=>ea_ n (aa_.of a0)
def od61:OD:=⟨[(1,.k),(5,.k),(16,.view .iJson),(17,.k),(18,.k)],[.i .i64,.i .i64,.sl .v .iJson,.i .i64,.i .i64],[.ext]⟩
def od62:OD:=⟨[(5,.k)],[.i .i64],[.ext]⟩
def bp_.e:FE:=mkE rd7 106 32 1 [.ag (aa_.p .v),.i .i64] [.tmp 4] [] [(7,od61)] [(0,od62)] fun n (a0,a1,_)=>bp_ n (aa_.of a0) a1
def cZ_.e:FE:=mkE rd0 49 6 1 [.ag (aa_.p .v)] [.tmp 2] [] [] [] fun n (a0,_)=>cZ_ n (aa_.of a0)
def rd28:RD:=⟨aa_,[.ag (aa_.p .d)],fun (a0,_)=>(aa_.of a0),fun r=>(aa_.to r,())⟩
def cD_.e:FE:=mkE rd28 72 8 3 [.ag (aa_.p .d)] [.cell 2 46] [] [] [] fun n (a0,_)=>cD_ n (aa_.of a0)
def eb_.e:FE:=mkE rd28 27 6 1 [.i .i64] [.cell 2 46] [] [] [] (un1 eb_)
def od63:OD:=⟨[(1,.k),(8,.view .iKid),(9,.k),(10,.k)],[.i .i64,.sl .v .iKid,.i .i64,.i .i64],[.ext]⟩
def bW_.e:FE:=mkE rd7 112 21 1 [.ag (aD_.p .v),.i .i64] [.tmp 4] [] [(3,od63)] [(0,od9)] fun n (a0,a1,_)=>bW_ n (aD_.of a0) a1
def od64:OD:=⟨[(1,.box [.k,.view .iCond,.k,.k,.k,.view .int,.k,.k,.k,.view .iRow,.view .iKid]),(3,.own .d .int),(8,.view .iRow),(9,.k),(10,.k)],[.pb 1 0,.rt 2,.sl .v .iRow,.i .i64,.i .i64],[.ext,.box (aD_.p .v),.arr .d .int 2]⟩
def od65:OD:=⟨[(3,.own .d .int)],[.rt 1],[.ext,.arr .d .int 2]⟩
def rd29:RD:=⟨(List Int),[.sl .d .int],fun (a0,_)=>a0,fun r=>(r,())⟩
def aQ_.e:FE:=mkE rd29 52 23 1 [.ag (aD_.p .v)] [.tmp 2] [] [(4,od64)] [(0,od65)] fun n (a0,_)=>aQ_ n (aD_.of a0)
def dy_.e:FE:=mkE rd7 135 14 1 [.ag (an_.p .v),.i .i64] [.tmp 4] [] [] [] fun n (a0,a1,_)=>dy_ n (an_.of a0) a1
def od66:OD:=⟨[(0,.view .int),(1,.k),(7,.k),(8,.k)],[.sl .v .int,.i .i64,.i .i64,.i .i64],[.ext]⟩
def aX_.e:FE:=mkE rd7 191 19 1 [.sl .v .int,.i .i64] [.tmp 4] [] [(3,od66)] [(0,od9)] (un2 aX_)
def b6_.e:FE:=mkE rd0 137 9 1 [.sl .v .int,.i .i64] [.tmp 4] [] [] [] (un2 b6_)
def pR_:RD:=⟨Bs,[.s],fun (a0,_)=>a0,fun r=>(r,())⟩
def strconv_Itoa.e:FE:=mkE pR_ 108 5 1 [.i .i64] [.tmp 2] [] [] [] (un1 strconv_Itoa)
def dL_.e:FE:=mkE pR_ 189 5 1 [.i .i64] [.tmp 2] [] [] [] (un1 dL_)
def dp_.e:FE:=mkE rd7 103 17 1 [.ag (TRow.p .v),.i .i64] [.tmp 4] [] [] [] fun n (a0,a1,_)=>dp_ n (TRow.of a0) a1
def cu_.e:FE:=mkE rd0 234 6 1 [.s] [.tmp 2] [] [] [] (un1 cu_)
def cK_.e:FE:=mkE rd0 219 17 1 [.s,.s] [.tmp 4] [] [] [] (un2 cK_)
def b5_.e:FE:=mkE rd0 220 6 1 [.s] [.tmp 2] [] [] [] (un1 b5_)
def od67:OD:=⟨[(0,.view .str),(1,.k),(6,.k),(7,.k),(8,.k)],[.sl .v .str,.s,.i .i64,.i .i64,.i .i64],[.ext]⟩
def od68:OD:=⟨[(0,.view .str),(1,.k),(6,.k),(7,.k)],[.sl .v .str,.s,.i .i64,.i .i64],[.ext]⟩
def rd31:RD:=⟨Int × Bool,[.i .i64,.b],fun (a0,a1,_)=>(a0,a1),fun (a0,a1)=>(a0,a1,())⟩
def ak_.e:FE:=mkE rd31 199 54 1 [.sl .v .str,.s] [.tmp 4,.tmp 5] [] [(4,od67)] [(0,od68)] (un2 ak_)
def rd32:RD:=⟨(List Bs),[.sl .d .str],fun (a0,_)=>a0,fun r=>(r,())⟩
def cm_.e:FE:=mkE rd32 200 95 1 [.sl .d .str,.i .i64,.sl .d .str] [.tmp 6] [] [] [] (un3 cm_)
def rd33:RD:=⟨(List aa_),[.sl .d .iJson],fun (a0,_)=>a0,fun r=>(r,())⟩
def cw_.e:FE:=mkE rd33 201 95 1 [.sl .d .iJson,.i .i64,.sl .d .iJson] [.tmp 6] [] [] [] (un3 cw_)
def od69:OD:=⟨[(1,.view .int),(4,.box [.k,.k,.k,.k,.k]),(5,.box [.k,.k,.k,.own .d .iJson,.own .d .str]),(11,.view .str),(12,.k),(13,.k)],[.sl .v .int,.pb 1 0,.pb 2 0,.sl .v .str,.i .i64,.i .i64],[.ext,.box [.i .i64,.i .i64,.s,.nils,.nils],.box [.i .i64,.i .i64,.s,.rt 3,.rt 4],.arr .d .iJson 2,.arr .d .str 2]⟩
def od70:OD:=⟨[(4,.box [.k,.k,.k,.k,.k]),(5,.box [.k,.k,.k,.own .d .iJson,.own .d .str])],[.pb 1 0,.pb 2 0],[.ext,.box [.i .i64,.i .i64,.s,.nils,.nils],.box [.i .i64,.i .i64,.s,.rt 3,.rt 4],.arr .d .iJson 2,.arr .d .str 2]⟩
def bL_.e:FE:=mkE rd28 190 45 1 [.sl .v .str,.sl .v .int] [.cell 4 46] [] [(4,od69)] [(0,od70)] (un2 bL_)
def od71:OD:=⟨[(2,.k),(3,.box [.k,.view .iCond,.k,.k,.k,.view .int,.k,.k,.k]),(4,.box [.k,.view .int]),(6,.box [.k,.k,.k,.k,.k]),(7,.own .d .str),(8,.own .d .int),(16,.view .int),(17,.k),(18,.k)],[.i .i64,.pb 1 0,.pb 2 0,.pb 3 0,.rt 4,.rt 5,.sl .v .int,.i .i64,.i .i64],[.ext,.box (an_.p .v),.box (TRow.p .v),.box [.i .i64,.i .i64,.s,.nils,.nils],.arr .d .str 2,.arr .d .int 2]⟩
def od72:OD:=⟨[(2,.k),(3,.box [.k,.view .iCond,.k,.k,.k,.view .int,.k,.k,.k]),(6,.box [.k,.k,.k,.k,.k]),(7,.own .d .str),(8,.own .d .int)],[.i .i64,.pb 1 0,.pb 2 0,.rt 3,.rt 4],[.ext,.box (an_.p .v),.box [.i .i64,.i .i64,.s,.nils,.nils],.arr .d .str 2,.arr .d .int 2]⟩
def bB_.e:FE:=mkE rd28 136 55 1 [.ag (an_.p .v),.ag (TRow.p .v),.i .i64] [.cell 6 46] [] [(4,od71)] [(0,od72)] fun n (a0,a1,a2,_)=>bB_ n (an_.of a0) (TRow.of a1) a2
def od73:OD:=⟨[(2,.view .int),(3,.box [.k,.view .iCond,.k,.k,.k,.view .int,.k,.k,.k]),(7,.own .d .iJson),(17,.view .iRow),(18,.k),(19,.k)],[.sl .v .int,.pb 1 0,.rt 2,.sl .v .iRow,.i .i64,.i .i64],[.ext,.box (an_.p .v),.arr .d .iJson 2]⟩
def od74:OD:=⟨[(7,.own .d .iJson)],[.rt 1],[.ext,.arr .d .iJson 2]⟩
def bf_.e:FE:=mkE rd33 73 41 1 [.ag (an_.p .v),.sl .v .iRow,.sl .v .int] [.tmp 6] [] [(4,od73)] [(0,od74)] fun n (a0,a1,a2,_)=>bf_ n (an_.of a0) a1 a2
def od75:OD:=⟨[(4,.own .d .iJson),(5,.own .d .int),(20,.view .iRow),(21,.k),(22,.k)],[.rt 1,.rt 2,.sl .v .iRow,.i .i64,.i .i64],[.ext,.arr .d .iJson 2,.arr .d .int 2]⟩
def od76:OD:=⟨[(4,.own .d .iJson),(5,.own .d .int)],[.rt 1,.rt 2],[.ext,.arr .d .iJson 2,.arr .d .int 2]⟩
def rd34:RD:=⟨(List aa_) × (List Int),[.sl .d .iJson,.sl .d .int],fun (a0,a1,_)=>(a0,a1),fun (a0,a1)=>(a0,a1,())⟩
def bO_.e:FE:=mkE rd34 28 34 1 [.ag (aD_.p .v)] [.tmp 2,.tmp 3] [] [(5,od75)] [(0,od76)] fun n (a0,_)=>bO_ n (aD_.of a0)
def od77:OD:=⟨[(1,.view .int),(6,.own .s .ikeyed),(15,.view .iJson),(16,.k),(17,.k)],[.sl .v .int,.rt 1,.sl .v .iJson,.i .i64,.i .i64],[.ext,.arr .s .ikeyed 2]⟩
def od78:OD:=⟨[(6,.own .s .ikeyed)],[.rt 1],[.ext,.arr .s .ikeyed 2]⟩
def rd35:RD:=⟨(List aq_) × Bool,[.sl .s .ikeyed,.b],fun (a0,a1,_)=>(a0,a1),fun (a0,a1)=>(a0,a1,())⟩
def bk_.e:FE:=mkE rd35 75 46 1 [.sl .v .iJson,.sl .v .int] [.tmp 4,.tmp 5] [] [(7,od77)] [(0,od78)] (un2 bk_)
def df_.e:FE:=mkE rd0 139 8 1 [.ag (aq_.p .v),.pc [.i .i64] 0] [.tmp 3] [] [] [] fun n (a0,(a1,_),_)=>df_ n (aq_.of a0) a1
def od79:OD:=⟨[(0,.view .ikeyed),(1,.k),(7,.k),(8,.k)],[.sl .v .ikeyed,.clo 139 [.pc [.i .i64] 0],.i .i64,.i .i64],[.ext]⟩
def ad_.e:FE:=mkE rd7 138 19 1 [.sl .v .ikeyed,.clo 139 [.pc [.i .i64] 0]] [.tmp 4] [] [(3,od79)] [(0,od9)] fun n (a0,((a1,_),_),_)=>ad_ n a0 a1
def dY_.e:FE:=mkE rd7 76 8 1 [.sl .v .ikeyed,.i .i64] [.tmp 4] [] [] [] (un2 dY_)
def dn_.e:FE:=mkE rd32 77 6 1 [.i .i64] [.tmp 2] [] [] [] (un1 dn_)
def rd36:RD:=⟨(List aq_),[.sl .s .ikeyed],fun (a0,_)=>a0,fun r=>(r,())⟩
def bZ_.e:FE:=mkE rd36 78 33 1 [.sl .s .ikeyed,.i .i64,.i .i64] [.tmp 6] [] [] [] (un3 bZ_)
def od80:OD:=⟨[(0,.view .str),(1,.view .str),(12,.k),(13,.k)],[.sl .v .str,.sl .v .str,.i .i64,.i .i64],[.ext]⟩
def aF_.e:FE:=mkE rd0 120 26 1 [.sl .v .str,.sl .v .str] [.tmp 4] [] [(6,od80)] [(0,od9)] (un2 aF_)
def od81:OD:=⟨[(1,.view .iJson),(2,.k),(15,.view .iJson),(16,.k),(17,.k)],[.sl .v .iJson,.clo 62 [],.sl .v .iJson,.i .i64,.i .i64],[.ext]⟩
def ag_.e:FE:=mkE rd0 121 32 1 [.sl .v .iJson,.sl .v .iJson,.clo 62 []] [.tmp 6] [] [(6,od81)] [(0,od9)] fun n (a0,a1,_,_)=>ag_ n a0 a1
def ds_.e:FE:=mkE rd0 62 38 1 [.ag (aa_.p .v),.ag (aa_.p .v)] [.tmp 4] [] [] [] fun n (a0,a1,_)=>ds_ n (aa_.of a0) (aa_.of a1)
def cz_.e:FE:=mkE rd32 122 6 1 [.sl .v .str] [.tmp 2] [] [] [] (un1 cz_)
def od82:OD:=⟨[(2,.box [.k,.k,.k,.k,.k]),(3,.box [.k,.k,.k,.own .d .iJson,.own .d .str]),(17,.view .iJson),(18,.k),(19,.k)],[.pb 1 0,.pb 2 0,.sl .v .iJson,.i .i64,.i .i64],[.ext,.box [.i .i64,.i .i64,.s,.nils,.nils],.box [.i .i64,.i .i64,.s,.rt 3,.rt 4],.arr .d .iJson 2,.arr .d .str 2]⟩
def od83:OD:=⟨[(2,.box [.k,.k,.k,.k,.k]),(3,.box [.k,.k,.k,.own .d .iJson,.own .d .str])],[.pb 1 0,.pb 2 0],[.ext,.box [.i .i64,.i .i64,.s,.nils,.nils],.box [.i .i64,.i .i64,.s,.rt 3,.rt 4],.arr .d .iJson 2,.arr .d .str 2]⟩
def aS_.e:FE:=mkE rd28 63 32 1 [.ag (aa_.p .v)] [.cell 2 46] [] [(4,od82)] [(0,od83)] fun n (a0,_)=>aS_ n (aa_.of a0)
def bY_.e:FE:=mkE rd36 79 95 1 [.sl .s .ikeyed,.i .i64,.sl .s .ikeyed] [.tmp 6] [] [] [] (un3 bY_)
def od84:OD:=⟨[(9,.own .s .ikeyed),(11,.own .s .ikeyed),(13,.own .d .iOp),(14,.k)],[.rt 1,.rt 2,.rt 3,.i .i64],[.ext,.arr .s .ikeyed 2,.arr .s .ikeyed 2,.arr .d .iOp 2]⟩
def od85:OD:=⟨[(9,.own .s .ikeyed),(13,.own .d .iOp),(64,.own .s .ikeyed),(65,.k),(66,.k)],[.rt 1,.rt 2,.rt 3,.i .i64,.i .i64],[.ext,.arr .s .ikeyed 2,.arr .d .iOp 2,.arr .s .ikeyed 2]⟩
def od86:OD:=⟨[(9,.own .s .ikeyed),(11,.own .s .ikeyed),(13,.own .d .iOp)],[.rt 1,.rt 2,.rt 3],[.ext,.arr .s .ikeyed 2,.arr .s .ikeyed 2,.arr .d .iOp 2]⟩
def od87:OD:=⟨[(13,.own .d .iOp)],[.rt 1],[.ext,.arr .d .iOp 2]⟩
def rd37:RD:=⟨(List TOp),[.sl .d .iOp],fun (a0,_)=>a0,fun r=>(r,())⟩
def a3_.e:FE:=mkE rd37 30 126 1 [.sl .v .iJson,.sl .v .int,.sl .v .iJson,.sl .v .int] [.tmp 8] [] [(9,od84),(17,od85)] [(0,od86),(2,od87)] (un4 a3_)
def rd38:RD:=⟨TOp,[.ag (TOp.p .d)],fun (a0,_)=>(TOp.of a0),fun r=>(TOp.to r,())⟩
def dM_.e:FE:=mkE rd38 74 12 1 [.ag (TOp.p .v)] [.cell 2 62] [] [] [] fun n (a0,_)=>dM_ n (TOp.of a0)
def od88:OD:=⟨[(0,.k),(5,.own .d .iOp),(9,.view .iOp),(10,.k),(11,.k)],[.s,.rt 1,.sl .v .iOp,.i .i64,.i .i64],[.ext,.arr .d .iOp 2]⟩
def od89:OD:=⟨[(5,.own .d .iOp)],[.rt 1],[.ext,.arr .d .iOp 2]⟩
def bV_.e:FE:=mkE rd37 29 29 1 [.s,.sl .v .iOp] [.tmp 4] [] [(4,od88)] [(0,od89)] (un2 bV_)
def cF_.e:FE:=mkE rd37 8 52 1 [.ag (aD_.p .v),.ag (aD_.p .v)] [.tmp 4] [] [] [] fun n (a0,a1,_)=>cF_ n (aD_.of a0) (aD_.of a1)
def dB_.e:FE:=mkE rd0 168 28 1 [.ag (aa_.p .v)] [.tmp 2] [] [] [] fun n (a0,_)=>dB_ n (aa_.of a0)
def od90:OD:=⟨[(1,.box [.k,.view .str,.k,.k,.k,.view .iJson,.view .str]),(6,.view .str),(7,.k),(8,.k)],[.pb 1 0,.sl .v .str,.i .i64,.i .i64],[.ext,.box (TOp.p .v)]⟩
def od91:OD:=⟨[(1,.box [.k,.view .str,.k,.k,.k,.view .iJson,.view .str])],[.pb 1 0],[.ext,.box (TOp.p .v)]⟩
def cg_.e:FE:=mkE rd0 123 40 1 [.ag (TOp.p .v)] [.tmp 2] [] [(3,od90)] [(0,od91)] fun n (a0,_)=>cg_ n (TOp.of a0)
def dx_.e:FE:=mkE rd32 142 2 1 [] [.tmp 0] [] [] [] fun n _=>dx_ n ()
def strings_ReplaceAll.e:FE:=mkE pR_ 193 11 1 [.s,.s,.s] [.tmp 6] [] [] [] (un3 strings_ReplaceAll)
def od92:OD:=⟨[(3,.k),(6,.view .str),(7,.k),(8,.k)],[.s,.sl .v .str,.i .i64,.i .i64],[.ext]⟩
def od93:OD:=⟨[(3,.k)],[.s],[.ext]⟩
def bF_.e:FE:=mkE pR_ 143 20 1 [.sl .v .str] [.tmp 2] [] [(4,od92)] [(0,od93)] (un1 bF_)
def dO_.e:FE:=mkE rd28 80 41 1 [.ag (TOp.p .v)] [.cell 2 46] [] [] [] fun n (a0,_)=>dO_ n (TOp.of a0)
def od94:OD:=⟨[(2,.box [.k,.k,.k,.k,.k]),(4,.box [.k,.k,.k,.own .d .iJson,.k]),(9,.view .iOp),(10,.k),(11,.k)],[.pb 1 0,.pb 2 0,.sl .v .iOp,.i .i64,.i .i64],[.ext,.box [.i .i64,.i .i64,.s,.nils,.nils],.box [.i .i64,.i .i64,.s,.rt 3,.nils],.arr .d .iJson 2]⟩
def od95:OD:=⟨[(2,.box [.k,.k,.k,.k,.k]),(4,.box [.k,.k,.k,.own .d .iJson,.k])],[.pb 1 0,.pb 2 0],[.ext,.box [.i .i64,.i .i64,.s,.nils,.nils],.box [.i .i64,.i .i64,.s,.rt 3,.nils],.arr .d .iJson 2]⟩
def rd39:RD:=⟨aa_ × Bool,[.ag (aa_.p .d),.b],fun (a0,a1,_)=>((aa_.of a0),a1),fun (a0,a1)=>(aa_.to a0,a1,())⟩
def bg_.e:FE:=mkE rd39 31 29 1 [.sl .v .iOp] [.cell 2 46,.tmp 3] [] [(4,od94)] [(0,od95)] (un1 bg_)
def od96:OD:=⟨[(0,.k),(3,.own .d .u8),(7,.k),(8,.k)],[.s,.rt 1,.i .i64,.i .i64],[.ext,.arr .d .u8 2]⟩
def od97:OD:=⟨[(3,.own .d .u8)],[.rt 1],[.ext,.arr .d .u8 2]⟩
def bD_.e:FE:=mkE pR_ 107 35 1 [.s] [.tmp 2] [] [(4,od96)] [(0,od97)] (un1 bD_)
def strings_Join.e:FE:=mkE pR_ 109 75 1 [.sl .v .str,.s] [.tmp 4] [] [] [] (un2 strings_Join)
def od98:OD:=⟨[(1,.box [.k,.k,.k,.view .iJson,.view .str]),(3,.own .d .str),(9,.view .iJson),(10,.k),(11,.k)],[.pb 1 0,.rt 2,.sl .v .iJson,.i .i64,.i .i64],[.ext,.box (aa_.p .v),.arr .d .str 2]⟩
def od99:OD:=⟨[(1,.box [.k,.k,.k,.view .iJson,.view .str]),(3,.own .d .str)],[.pb 1 0,.rt 2],[.ext,.box (aa_.p .v),.arr .d .str 2]⟩
def a2_.e:FE:=mkE pR_ 50 66 1 [.ag (aa_.p .v)] [.tmp 2] [] [(4,od98)] [(0,od99)] fun n (a0,_)=>a2_ n (aa_.of a0)
def dc_.e:FE:=mkE pR_ 15 13 1 [.ag (aa_.p .v)] [.tmp 2] [] [] [] fun n (a0,_)=>dc_ n (aa_.of a0)
def cG_.e:FE:=mkE rd7 9 21 1 [.sl .v .iOp] [.tmp 2] [] [] [] (un1 cG_)
def dh_.e:FE:=mkE rd0 111 6 1 [.ag (aa_.p .v)] [.tmp 2] [] [] [] fun n (a0,_)=>dh_ n (aa_.of a0)
def od100:OD:=⟨[(0,.view .iJson),(1,.k),(7,.k),(8,.k)],[.sl .v .iJson,.clo 111 [],.i .i64,.i .i64],[.ext]⟩
def ae_.e:FE:=mkE rd7 161 19 1 [.sl .v .iJson,.clo 111 []] [.tmp 4] [] [(3,od100)] [(0,od9)] fun n (a0,_,_)=>ae_ n a0
def a1_.e:FE:=mkE rd0 110 9 1 [.sl .v .iJson,.clo 111 []] [.tmp 4] [] [] [] fun n (a0,_,_)=>a1_ n a0
def ec_.e:FE:=mkE rd28 51 26 1 [.ag (an_.p .v),.sl .v .iRow,.sl .v .int] [.cell 6 46] [] [] [] fun n (a0,a1,a2,_)=>ec_ n (an_.of a0) a1 a2
def c8_.e:FE:=mkE rd28 16 10 1 [.ag (aD_.p .v)] [.cell 2 46] [] [] [] fun n (a0,_)=>c8_ n (aD_.of a0)
def dz_.e:FE:=mkE rd0 7 27 1 [.ag (aD_.p .v),.ag (aD_.p .v)] [.tmp 4] [] [] [] fun n (a0,a1,_)=>dz_ n (aD_.of a0) (aD_.of a1)
def od101:OD:=⟨[(0,.view .iCond),(1,.view .iCond),(5,.k)],[.sl .v .iCond,.sl .v .iCond,.i .i64],[.ext]⟩
def od102:OD:=⟨[(0,.view .iCond),(1,.view .iCond)],[.sl .v .iCond,.sl .v .iCond],[.ext]⟩
def bq_.e:FE:=mkE rd0 85 32 1 [.sl .v .iCond,.sl .v .iCond] [.tmp 4] [] [(3,od101)] [(0,od102)] (un2 bq_)
def od103:OD:=⟨[(0,.view .int),(1,.view .int),(5,.k)],[.sl .v .int,.sl .v .int,.i .i64],[.ext]⟩
def od104:OD:=⟨[(0,.view .int),(1,.view .int)],[.sl .v .int,.sl .v .int],[.ext]⟩
def bI_.e:FE:=mkE rd0 86 32 1 [.sl .v .int,.sl .v .int] [.tmp 4] [] [(3,od103)] [(0,od104)] (un2 bI_)
def c5_.e:FE:=mkE rd0 34 66 1 [.ag (an_.p .v),.ag (an_.p .v)] [.tmp 4] [] [] [] fun n (a0,a1,_)=>c5_ n (an_.of a0) (an_.of a1)
def od105:OD:=⟨[(0,.k),(3,.k)],[.s,.i .i64],[.ext]⟩
def bM_.e:FE:=mkE rd0 155 23 1 [.s] [.tmp 2] [] [(3,od105)] [(0,od59)] (un1 bM_)
def od106:OD:=⟨[(1,.box [.k,.k,.k,.view .iJson,.view .str]),(3,.k)],[.pb 1 0,.i .i64],[.ext,.box (aa_.p .v)]⟩
def od107:OD:=⟨[(1,.box [.k,.k,.k,.view .iJson,.view .str])],[.pb 1 0],[.ext,.box (aa_.p .v)]⟩
def ac_.e:FE:=mkE rd0 194 50 1 [.ag (aa_.p .v)] [.tmp 2] [] [(6,od106)] [(0,od107)] fun n (a0,_)=>ac_ n (aa_.of a0)
def od108:OD:=⟨[(1,.k),(2,.box [.k,.k,.k,.view .iJson,.view .str]),(5,.k),(6,.k),(7,.k)],[.i .i64,.pb 1 0,.i .i64,.i .i64,.i .i64],[.ext,.box (aa_.p .v)]⟩
def od109:OD:=⟨[(2,.box [.k,.k,.k,.view .iJson,.view .str]),(5,.k),(6,.k)],[.pb 1 0,.i .i64,.i .i64],[.ext,.box (aa_.p .v)]⟩
def aM_.e:FE:=mkE rd7 144 106 1 [.ag (aa_.p .v),.i .i64] [.tmp 4] [] [(23,od108)] [(1,od109)] fun n (a0,a1,_)=>aM_ n (aa_.of a0) a1
def cM_.e:FE:=mkE rd0 81 6 1 [.ag (aa_.p .v)] [.tmp 2] [] [] [] fun n (a0,_)=>cM_ n (aa_.of a0)
def d8_.e:FE:=mkE rd28 35 11 1 [.i .i64] [.cell 2 46] [] [] [] (un1 d8_)
def d7_.e:FE:=mkE rd7 151 10 1 (TKid.p .v) [.tmp 4] [] [] [] (un2 d7_)
def c4_.e:FE:=mkE rd7 87 14 1 [.ag (an_.p .v),.i .i64] [.tmp 4] [] [] [] fun n (a0,a1,_)=>c4_ n (an_.of a0) a1
def od110:OD:=⟨[(1,.k),(2,.box [.k,.view .iCond,.k,.k,.k,.view .int,.k,.k,.k,.view .iRow,.view .iKid]),(5,.k)],[.i .i64,.pb 1 0,.i .i64],[.ext,.box (aD_.p .v)]⟩
def bP_.e:FE:=mkE rd7 89 27 1 [.ag (aD_.p .v),.i .i64] [.tmp 4] [] [(3,od110)] [(0,od9)] fun n (a0,a1,_)=>bP_ n (aD_.of a0) a1
def od111:OD:=⟨[(0,.k),(3,.k),(4,.k)],[.i .i64,.b,.s],[.ext]⟩
def od112:OD:=⟨[(3,.k),(4,.k)],[.b,.s],[.ext]⟩
def aV_.e:FE:=mkE pR_ 145 31 1 [.i .i64] [.tmp 2] [] [(7,od111)] [(0,od112)] (un1 aV_)
def cL_.e:FE:=mkE rd28 149 5 1 [.i .i64] [.cell 2 46] [] [] [] (un1 cL_)
def od113:OD:=⟨[(1,.k),(3,.box [.k,.k,.k,.view .iJson,.view .str]),(5,.box [.k,.k,.k,.view .iJson,.view .str]),(6,.box [.k,.k,.k,.k,.k]),(7,.box [.k,.k,.k,.own .s .iJson,.own .d .str]),(8,.k),(9,.k)],[.s,.pb 1 0,.pb 2 0,.pb 3 0,.pb 4 0,.b,.i .i64],[.ext,.box (aa_.p .v),.box (aa_.p .v),.box [.i .i64,.i .i64,.s,.nils,.nils],.box [.i .i64,.i .i64,.s,.rt 5,.rt 6],.arr .s .iJson 2,.arr .d .str 2]⟩
def od114:OD:=⟨[(1,.k),(5,.box [.k,.k,.k,.view .iJson,.view .str]),(6,.box [.k,.k,.k,.k,.k]),(7,.box [.k,.k,.k,.own .s .iJson,.own .d .str]),(8,.k)],[.s,.pb 1 0,.pb 2 0,.pb 3 0,.b],[.ext,.box (aa_.p .v),.box [.i .i64,.i .i64,.s,.nils,.nils],.box [.i .i64,.i .i64,.s,.rt 4,.rt 5],.arr .s .iJson 2,.arr .d .str 2]⟩
def rd40:RD:=⟨aa_,[.ag [.i .i64,.i .i64,.s,.sl .s .iJson,.sl .d .str]],fun (a0,_)=>(aa_.of a0),fun r=>(aa_.to r,())⟩
def bx_.e:FE:=mkE rd40 96 83 1 [.ag (aa_.p .v),.s,.ag (aa_.p .v)] [.cell 6 46] [] [(5,od113)] [(0,od114)] fun n (a0,a1,a2,_)=>bx_ n (aa_.of a0) a1 (aa_.of a2)
def od115:OD:=⟨[(2,.k),(3,.box [.k,.view .iCond,.k,.k,.k,.view .int,.k,.k,.k]),(4,.box [.k,.view .int]),(6,.box [.k,.k,.k,.k,.k]),(7,.box [.k,.k,.k,.own .s .iJson,.own .d .str]),(8,.k)],[.i .i64,.pb 1 0,.pb 2 0,.pb 3 0,.pb 4 0,.i .i64],[.ext,.box (an_.p .v),.box (TRow.p .v),.box [.i .i64,.i .i64,.s,.nils,.nils],.box [.i .i64,.i .i64,.s,.rt 5,.rt 6],.arr .s .iJson 2,.arr .d .str 2]⟩
def od116:OD:=⟨[(2,.k),(3,.box [.k,.view .iCond,.k,.k,.k,.view .int,.k,.k,.k]),(4,.box [.k,.view .int]),(6,.box [.k,.k,.k,.k,.k]),(7,.box [.k,.k,.k,.own .s .iJson,.own .d .str])],[.i .i64,.pb 1 0,.pb 2 0,.pb 3 0,.pb 4 0],[.ext,.box (an_.p .v),.box (TRow.p .v),.box [.i .i64,.i .i64,.s,.nils,.nils],.box [.i .i64,.i .i64,.s,.rt 5,.rt 6],.arr .s .iJson 2,.arr .d .str 2]⟩
def bv_.e:FE:=mkE rd40 147 46 1 [.ag (an_.p .v),.ag (TRow.p .v),.i .i64] [.cell 6 46] [] [(4,od115)] [(0,od116)] fun n (a0,a1,a2,_)=>bv_ n (an_.of a0) (TRow.of a1) a2
def rd41:RD:=⟨aa_,[.ag (aa_.p .v)],fun (a0,_)=>(aa_.of a0),fun r=>(aa_.to r,())⟩
def cQ_.e:FE:=mkE rd41 148 8 1 [.ag (aa_.p .v)] [.cell 2 46] [] [] [] fun n (a0,_)=>cQ_ n (aa_.of a0)
def dI_.e:FE:=mkE rd41 88 12 1 [.ag (an_.p .v),.ag (TRow.p .v),.i .i64] [.cell 6 46] [] [] [] fun n (a0,a1,a2,_)=>dI_ n (an_.of a0) (TRow.of a1) a2
def od117:OD:=⟨[(1,.box [.k,.view .iCond,.k,.k,.k,.view .int,.k,.k,.k,.view .iRow,.view .iKid]),(4,.own .s .iJson),(5,.own .d .int),(6,.k)],[.pb 1 0,.rt 2,.rt 3,.i .i64],[.ext,.box (aD_.p .v),.arr .s .iJson 2,.arr .d .int 2]⟩
def od118:OD:=⟨[(4,.own .s .iJson),(5,.own .d .int)],[.rt 1,.rt 2],[.ext,.arr .s .iJson 2,.arr .d .int 2]⟩
def rd42:RD:=⟨(List aa_) × (List Int),[.sl .s .iJson,.sl .d .int],fun (a0,a1,_)=>(a0,a1),fun (a0,a1)=>(a0,a1,())⟩
def bb_.e:FE:=mkE rd42 36 49 1 [.ag (aD_.p .v)] [.tmp 2,.tmp 3] [] [(5,od117)] [(0,od118)] fun n (a0,_)=>bb_ n (aD_.of a0)
def od119:OD:=⟨[(0,.view .int),(1,.k),(5,.k)],[.sl .v .int,.i .i64,.i .i64],[.ext]⟩
def ce_.e:FE:=mkE rd7 152 19 1 [.sl .v .int,.i .i64] [.tmp 4] [] [(3,od119)] [(0,od9)] (un2 ce_)
def od120:OD:=⟨[(0,.view .int),(1,.view .iJson),(5,.k)],[.sl .v .int,.sl .v .iJson,.i .i64],[.ext]⟩
def od121:OD:=⟨[(0,.view .int),(1,.view .iJson),(6,.k)],[.sl .v .int,.sl .v .iJson,.i .i64],[.ext]⟩
def od122:OD:=⟨[(0,.view .int),(1,.view .iJson)],[.sl .v .int,.sl .v .iJson],[.ext]⟩
def aH_.e:FE:=mkE rd0 91 39 1 [.sl .v .int,.sl .v .iJson] [.tmp 4] [] [(3,od120),(11,od121)] [(0,od122),(2,od122)] (un2 aH_)
def cP_.e:FE:=mkE rd29 153 15 1 [.sl .v .int,.i .i64] [.tmp 4] [] [] [] (un2 cP_)
def od123:OD:=⟨[(2,.box [.k,.k,.k,.view .iJson,.view .str]),(3,.box [.k,.k,.k,.view .iJson,.view .str]),(5,.k)],[.pb 1 0,.pb 2 0,.i .i64],[.ext,.box (aa_.p .v),.box (aa_.p .v)]⟩
def od124:OD:=⟨[(2,.box [.k,.k,.k,.view .iJson,.view .str]),(3,.box [.k,.k,.k,.view .iJson,.view .str]),(6,.k)],[.pb 1 0,.pb 2 0,.i .i64],[.ext,.box (aa_.p .v),.box (aa_.p .v)]⟩
def od125:OD:=⟨[(2,.box [.k,.k,.k,.view .iJson,.view .str]),(3,.box [.k,.k,.k,.view .iJson,.view .str])],[.pb 1 0,.pb 2 0],[.ext,.box (aa_.p .v),.box (aa_.p .v)]⟩
def av_.e:FE:=mkE rd0 119 81 1 [.ag (aa_.p .v),.ag (aa_.p .v)] [.tmp 4] [] [(6,od123),(14,od124)] [(0,od125),(2,od9)] fun n (a0,a1,_)=>av_ n (aa_.of a0) (aa_.of a1)
def od126:OD:=⟨[(1,.box [.k,.k,.k,.view .iJson,.view .str]),(2,.box [.k,.k,.k,.k,.k]),(3,.box [.k,.k,.k,.own .d .iJson,.own .d .str]),(4,.k)],[.pb 1 0,.pb 2 0,.pb 3 0,.i .i64],[.ext,.box (aa_.p .v),.box [.i .i64,.i .i64,.s,.nils,.nils],.box [.i .i64,.i .i64,.s,.rt 4,.rt 5],.arr .d .iJson 2,.arr .d .str 2]⟩
def bd_.e:FE:=mkE rd28 90 35 1 [.ag (aa_.p .v)] [.cell 2 46] [] [(4,od126)] [(0,od83)] fun n (a0,_)=>bd_ n (aa_.of a0)
def c3_.e:FE:=mkE rd29 154 22 1 [.sl .v .int,.i .i64,.i .i64] [.tmp 6] [] [] [] (un3 c3_)
def od127:OD:=⟨[(0,.view .iJson),(1,.view .int),(2,.view .iJson),(3,.view .int),(9,.own .d .iOp),(10,.own .d .int),(11,.k)],[.sl .v .iJson,.sl .v .int,.sl .v .iJson,.sl .v .int,.rt 1,.rt 2,.i .i64],[.ext,.arr .d .iOp 2,.arr .d .int 2]⟩
def od128:OD:=⟨[(0,.view .iJson),(1,.view .int),(2,.view .iJson),(3,.view .int),(9,.own .d .iOp),(10,.own .d .int),(12,.k)],[.sl .v .iJson,.sl .v .int,.sl .v .iJson,.sl .v .int,.rt 1,.rt 2,.i .i64],[.ext,.arr .d .iOp 2,.arr .d .int 2]⟩
def od129:OD:=⟨[(0,.view .iJson),(1,.view .int),(2,.view .iJson),(3,.view .int),(9,.own .d .iOp),(10,.own .d .int)],[.sl .v .iJson,.sl .v .int,.sl .v .iJson,.sl .v .int,.rt 1,.rt 2],[.ext,.arr .d .iOp 2,.arr .d .int 2]⟩
def od130:OD:=⟨[(9,.own .d .iOp)],[.rt 1],[.ext,.arr .d .iOp 2]⟩
def aE_.e:FE:=mkE rd37 92 116 1 [.sl .v .iJson,.sl .v .int,.sl .v .iJson,.sl .v .int] [.tmp 8] [] [(5,od127),(13,od128)] [(0,od129),(2,od130)] (un4 aE_)
def eg_.e:FE:=mkE rd37 38 25 1 [.sl .v .iJson,.sl .v .int,.sl .v .iJson,.sl .v .int] [.tmp 8] [] [] [] (un4 eg_)
def od131:OD:=⟨[(0,.k),(1,.view .iOp),(5,.own .d .iOp),(6,.k)],[.s,.sl .v .iOp,.rt 1,.i .i64],[.ext,.arr .d .iOp 2]⟩
def bT_.e:FE:=mkE rd37 37 38 1 [.s,.sl .v .iOp] [.tmp 4] [] [(4,od131)] [(0,od89)] (un2 bT_)
def cE_.e:FE:=mkE rd37 11 52 1 [.ag (aD_.p .v),.ag (aD_.p .v)] [.tmp 4] [] [] [] fun n (a0,a1,_)=>cE_ n (aD_.of a0) (aD_.of a1)
def od132:OD:=⟨[(1,.box [.k,.view .str,.k,.k,.k,.view .iJson,.view .str]),(3,.k)],[.pb 1 0,.i .i64],[.ext,.box (TOp.p .v)]⟩
def cb_.e:FE:=mkE rd0 93 43 1 [.ag (TOp.p .v)] [.tmp 2] [] [(6,od132)] [(0,od91)] fun n (a0,_)=>cb_ n (TOp.of a0)
def dt_.e:FE:=mkE rd32 94 2 1 [] [.tmp 0] [] [] [] fun n _=>dt_ n ()
def od133:OD:=⟨[(0,.view .str),(3,.own .d .u8),(4,.k)],[.sl .v .str,.rt 1,.i .i64],[.ext,.arr .d .u8 2]⟩
def od134:OD:=⟨[(0,.view .str),(3,.own .d .u8),(4,.k),(5,.k)],[.sl .v .str,.rt 1,.i .i64,.i .i64],[.ext,.arr .d .u8 2]⟩
def aC_.e:FE:=mkE pR_ 95 52 1 [.sl .v .str] [.tmp 2] [] [(10,od134),(4,od133)] [(0,od97),(2,od133)] (un1 aC_)
def dJ_.e:FE:=mkE rd40 39 34 1 [.ag (TOp.p .v)] [.cell 2 46] [] [] [] fun n (a0,_)=>dJ_ n (TOp.of a0)
def od135:OD:=⟨[(0,.k),(3,.own .d .u8),(4,.k)],[.s,.rt 1,.i .i64],[.ext,.arr .d .u8 2]⟩
def be_.e:FE:=mkE pR_ 146 35 1 [.s] [.tmp 2] [] [(4,od135)] [(0,od97)] (un1 be_)
def od136:OD:=⟨[(1,.box [.k,.k,.k,.view .iJson,.view .str]),(3,.k),(4,.k)],[.pb 1 0,.s,.i .i64],[.ext,.box (aa_.p .v)]⟩
def od137:OD:=⟨[(1,.box [.k,.k,.k,.view .iJson,.view .str]),(3,.k)],[.pb 1 0,.s],[.ext,.box (aa_.p .v)]⟩
def aJ_.e:FE:=mkE pR_ 82 64 1 [.ag (aa_.p .v)] [.tmp 2] [] [(17,od136)] [(1,od137)] fun n (a0,_)=>aJ_ n (aa_.of a0)
def do_.e:FE:=mkE pR_ 32 13 1 [.ag (aa_.p .v)] [.tmp 2] [] [] [] fun n (a0,_)=>do_ n (aa_.of a0)
def od138:OD:=⟨[(0,.view .iOp),(3,.box [.k,.k,.k,.own .s .iJson,.k]),(4,.k)],[.sl .v .iOp,.pb 1 0,.i .i64],[.ext,.box [.i .i64,.i .i64,.s,.rt 2,.nils],.arr .s .iJson 2]⟩
def od139:OD:=⟨[(3,.box [.k,.k,.k,.own .s .iJson,.k])],[.pb 1 0],[.ext,.box [.i .i64,.i .i64,.s,.rt 2,.nils],.arr .s .iJson 2]⟩
def aP_.e:FE:=mkE rd7 12 34 1 [.sl .v .iOp] [.tmp 2] [] [(4,od138)] [(0,od139)] (un1 aP_)
def od140:OD:=⟨[(1,.box [.k,.view .iCond,.k,.k,.k,.view .int,.k,.k,.k,.view .iRow,.view .iKid]),(3,.own .d .int),(4,.k)],[.pb 1 0,.rt 2,.i .i64],[.ext,.box (aD_.p .v),.arr .d .int 2]⟩
def a4_.e:FE:=mkE rd29 84 25 1 [.ag (aD_.p .v)] [.tmp 2] [] [(4,od140)] [(0,od65)] fun n (a0,_)=>a4_ n (aD_.of a0)
def od141:OD:=⟨[(1,.view .iRow),(2,.view .int),(3,.box [.k,.view .iCond,.k,.k,.k,.view .int,.k,.k,.k]),(6,.box [.k,.k,.k,.k,.k]),(7,.box [.k,.k,.k,.own .s .iJson,.k]),(8,.k)],[.sl .v .iRow,.sl .v .int,.pb 1 0,.pb 2 0,.pb 3 0,.i .i64],[.ext,.box (an_.p .v),.box [.i .i64,.i .i64,.s,.nils,.nils],.box [.i .i64,.i .i64,.s,.rt 4,.nils],.arr .s .iJson 2]⟩
def od142:OD:=⟨[(1,.view .iRow),(6,.box [.k,.k,.k,.k,.k]),(7,.box [.k,.k,.k,.own .s .iJson,.k])],[.sl .v .iRow,.pb 1 0,.pb 2 0],[.ext,.box [.i .i64,.i .i64,.s,.nils,.nils],.box [.i .i64,.i .i64,.s,.rt 3,.nils],.arr .s .iJson 2]⟩
def b1_.e:FE:=mkE rd41 83 47 1 [.ag (an_.p .v),.sl .v .iRow,.sl .v .int] [.cell 6 46] [] [(4,od141)] [(0,od142)] fun n (a0,a1,a2,_)=>b1_ n (an_.of a0) a1 a2
def dv_.e:FE:=mkE rd41 33 10 1 [.ag (aD_.p .v)] [.cell 2 46] [] [] [] fun n (a0,_)=>dv_ n (aD_.of a0)
def dw_.e:FE:=mkE rd0 10 27 1 [.ag (aD_.p .v),.ag (aD_.p .v)] [.tmp 4] [] [] [] fun n (a0,a1,_)=>dw_ n (aD_.of a0) (aD_.of a1)
def cv_.e:FE:=mkE rd37 13 26 1 [.sl .v .u8] [.tmp 2] [] [] [] (un1 cv_)
def od143:OD:=⟨[(1,.box [.view .int]),(6,.view .int),(7,.k),(8,.k)],[.pb 1 0,.sl .v .int,.i .i64,.i .i64],[.ext,.box [.sl .v .int]]⟩
def bG_.e:FE:=mkE rd0 98 20 1 [.ag [.sl .v .int]] [.tmp 2] [] [(3,od143)] [(0,od5)] fun n (a0,_)=>bG_ n (aA_.of a0)
def dg_.e:FE:=mkE rd0 99 11 1 [.ag [.sl .v .int],.i .i64] [.tmp 4] [] [] [] fun n (a0,a1,_)=>dg_ n (aA_.of a0) a1
def dE_.e:FE:=mkE rd0 101 32 1 [.ag [.sl .v .int],.ag (an_.p .v)] [.tmp 4] [] [] [] fun n (a0,a1,_)=>dE_ n (aA_.of a0) (an_.of a1)
def od144:OD:=⟨[(2,.box [.view .int]),(3,.box [.k,.view .iCond,.k,.k,.k,.view .int,.k,.k,.k]),(5,.k),(28,.view .iCond),(29,.k),(30,.k)],[.pb 1 0,.pb 2 0,.i .i64,.sl .v .iCond,.i .i64,.i .i64],[.ext,.box [.sl .v .int],.box (an_.p .v)]⟩
def od145:OD:=⟨[(2,.box [.view .int]),(3,.box [.k,.view .iCond,.k,.k,.k,.view .int,.k,.k,.k]),(5,.k),(54,.view .int),(55,.k),(56,.k)],[.pb 1 0,.pb 2 0,.i .i64,.sl .v .int,.i .i64,.i .i64],[.ext,.box [.sl .v .int],.box (an_.p .v)]⟩
def aZ_.e:FE:=mkE rd0 43 112 1 [.ag [.sl .v .int],.ag (an_.p .v)] [.tmp 4] [] [(7,od144),(16,od145)] [(0,od28),(2,od28)] fun n (a0,a1,_)=>aZ_ n (aA_.of a0) (an_.of a1)
def od146:OD:=⟨[(1,.k),(3,.box [.view .int]),(5,.box [.k,.view .int]),(10,.view .int),(11,.k),(12,.k)],[.i .i64,.pb 1 0,.pb 2 0,.sl .v .int,.i .i64,.i .i64],[.ext,.box [.sl .v .int],.box (TRow.p .v)]⟩
def od147:OD:=⟨[(1,.k),(3,.box [.view .int]),(5,.box [.k,.view .int])],[.i .i64,.pb 1 0,.pb 2 0],[.ext,.box [.sl .v .int],.box (TRow.p .v)]⟩
def co_.e:FE:=mkE rd0 44 43 1 [.ag [.sl .v .int],.i .i64,.ag (TRow.p .v)] [.tmp 6] [] [(3,od146)] [(0,od147)] fun n (a0,a1,a2,_)=>co_ n (aA_.of a0) a1 (TRow.of a2)
def impl_holds.e:FE:=mkE rd0 102 49 1 [.ag (a6_.p .v),.ag (TRow.p .v)] [.tmp 4] [] [] [] fun n (a0,a1,_)=>impl_holds n (a6_.of a0) (TRow.of a1)
def od148:OD:=⟨[(3,.box [.k,.view .int]),(8,.view .iCond),(9,.k),(10,.k)],[.pb 1 0,.sl .v .iCond,.i .i64,.i .i64],[.ext,.box (TRow.p .v)]⟩
def cd_.e:FE:=mkE rd0 45 19 1 [.ag (an_.p .v),.ag (TRow.p .v)] [.tmp 4] [] [(3,od148)] [(0,od9)] fun n (a0,a1,_)=>cd_ n (an_.of a0) (TRow.of a1)
def eO_.e:FE:=mkE rd0 46 45 1 [.ag (an_.p .v),.ag (TRow.p .v),.ag (TRow.p .v)] [.tmp 6] [] [] [] fun n (a0,a1,a2,_)=>eO_ n (an_.of a0) (TRow.of a1) (TRow.of a2)
def dN_.e:FE:=mkE rd0 105 8 1 [.ag (TRow.p .v),.pc [.i .i64] 0] [.tmp 3] [] [] [] fun n (a0,(a1,_),_)=>dN_ n (TRow.of a0) a1
def od149:OD:=⟨[(0,.view .iRow),(1,.k),(7,.k),(8,.k)],[.sl .v .iRow,.clo 105 [.pc [.i .i64] 0],.i .i64,.i .i64],[.ext]⟩
def ap_.e:FE:=mkE rd7 104 19 1 [.sl .v .iRow,.clo 105 [.pc [.i .i64] 0]] [.tmp 4] [] [(3,od149)] [(0,od9)] fun n (a0,((a1,_),_),_)=>ap_ n a0 a1
def eq_.e:FE:=mkE rd7 47 8 1 [.sl .v .iRow,.i .i64] [.tmp 4] [] [] [] (un2 eq_)
def od150:OD:=⟨[(2,.box [.view .int]),(3,.box [.k,.view .iCond,.k,.k,.k,.view .int,.k,.k,.k,.view .iRow,.view .iKid]),(33,.view .iRow),(34,.k),(35,.k)],[.pb 1 0,.pb 2 0,.sl .v .iRow,.i .i64,.i .i64],[.ext,.box [.sl .v .int],.box (aD_.p .v)]⟩
def od151:OD:=⟨[(3,.box [.k,.view .iCond,.k,.k,.k,.view .int,.k,.k,.k,.view .iRow,.view .iKid]),(82,.view .iKid),(83,.k),(84,.k)],[.pb 1 0,.sl .v .iKid,.i .i64,.i .i64],[.ext,.box (aD_.p .v)]⟩
def od152:OD:=⟨[(3,.box [.k,.view .iCond,.k,.k,.k,.view .int,.k,.k,.k,.view .iRow,.view .iKid])],[.pb 1 0],[.ext,.box (aD_.p .v)]⟩
def ba_.e:FE:=mkE rd0 14 110 1 [.ag [.sl .v .int],.ag (aD_.p .v)] [.tmp 4] [] [(6,od150),(15,od151)] [(0,od152),(2,od9)] fun n (a0,a1,_)=>ba_ n (aA_.of a0) (aD_.of a1)
def laws_FnShort.e:FE:=mkE rd0 3 79 1 [.sl .v .u8] [.tmp 2] [] [] [] (un1 laws_FnShort)
def ents:List FE:=[laws_FnShort.e,ff_.e,cI_.e,dz_.e,cF_.e,cG_.e,dw_.e,cE_.e,aP_.e,cv_.e,ba_.e,dc_.e,c8_.e,c6_.e,aG_.e,eb_.e,bO_.e,bV_.e,a3_.e,bg_.e,do_.e,dv_.e,c5_.e,d8_.e,bb_.e,bT_.e,eg_.e,dJ_.e,bS_.e,cn_.e,am_.e,aZ_.e,co_.e,cd_.e,eO_.e,eq_.e,az_.e,cZ_.e,a2_.e,ec_.e,aQ_.e,dk_.e,ds_.e,aS_.e,aO_.e,aY_.e,b2_.e,bs_.e,aB_.e,aN_.e,du_.e,cD_.e,bf_.e,dM_.e,bk_.e,dY_.e,dn_.e,bZ_.e,bY_.e,dO_.e,cM_.e,aJ_.e,b1_.e,a4_.e,bq_.e,bI_.e,c4_.e,dI_.e,bP_.e,bd_.e,aH_.e,aE_.e,cb_.e,dt_.e,aC_.e,bx_.e,cX_.e,bG_.e,dg_.e,a7_.e,dE_.e,impl_holds.e,dp_.e,ap_.e,dN_.e,bp_.e,bD_.e,strconv_Itoa.e,strings_Join.e,a1_.e,dh_.e,bW_.e,bE_.e,dA_.e,bC_.e,av_.e,aF_.e,ag_.e,cz_.e,cg_.e,aK_.e,bJ_.e,ai_.e,bj_.e,bX_.e,bh_.e,dV_.e,c2_.e,cR_.e,dH_.e,dy_.e,bB_.e,b6_.e,ad_.e,df_.e,dx_.e,bF_.e,aM_.e,aV_.e,be_.e,bv_.e,cQ_.e,cL_.e,cp_.e,d7_.e,ce_.e,cP_.e,c3_.e,bM_.e,ea_.e,ae_.e,ci_.e,ax_.e,dB_.e,de_.e,aI_.e,aU_.e,ay_.e,br_.e,aL_.e,aW_.e,bK_.e,c1_.e,d9_.e,ew_.e,a0_.e,a9_.e,bw_.e,bA_.e,bz_.e,dL_.e,bL_.e,aX_.e,strings_ReplaceAll.e,ac_.e,au_.e,ak_.e,cm_.e,cw_.e,bo_.e,b3_.e,b0_.e,dj_.e,dX_.e,cK_.e,b5_.e,cu_.e]
def fzL:List Nat:=[6,26,33,36,39,40,41,42,67,68,69,70,71,75,78,79,83,88,96,97,114,125,126,127,131,132,133,134,147,148,174,175,177,183,184,187,206]
def cx (n nt:Nat):Cx:=⟨nt,tt,sigE ents,KE n ents,fun f=>fzL.any (Nat.beq f)⟩
theorem okk {n:Nat} {e:FE} {fn:Func} (s:Stps e.R e.d.cut) (hfn:E.P.funcs[e.d.fid]?=some fn) (h:e.L (cx n e.d.nt) fn n s=e.Q (cx n e.d.nt) fn (e.F (n+1)) s):e.Oks E (cx n) n:=FE.ok s mixedOk hfn h
end Go.Pi
end
section
namespace Go.Pi
open Go.Proofs
theorem ff_.ok (n:Nat):ff_.e.Oks E (cx n) n:=okk () Tryz.func5 (by kernel_rfl)
theorem bS_.ok (n:Nat):bS_.e.Oks E (cx n) n:=okk (.lp fun κe=>bS_.step4 n (od1.k (κe 0)),()) Tryz.func40 (by kernel_rfl)
theorem cX_.ok (n:Nat):cX_.e.Oks E (cx n) n:=okk () Tryz.func97 (by kernel_rfl)
theorem am_.ok (n:Nat):am_.e.Oks E (cx n) n:=okk () Tryz.func42 (by kernel_rfl)
theorem aI_.ok (n:Nat):aI_.e.Oks E (cx n) n:=okk (.lp fun κe=>aI_.step4 n (od3.k (κe 0)),()) Tryz.func174 (by kernel_rfl)
theorem bX_.ok (n:Nat):bX_.e.Oks E (cx n) n:=okk () Tryz.func129 (by kernel_rfl)
theorem aW_.ok (n:Nat):aW_.e.Oks E (cx n) n:=okk (.lp fun κe=>aW_.step3 n (od5.k (κe 0)),()) Tryz.func179 (by kernel_rfl)
theorem c1_.ok (n:Nat):c1_.e.Oks E (cx n) n:=okk () Tryz.func181 (by kernel_rfl)
theorem de_.ok (n:Nat):de_.e.Oks E (cx n) n:=okk () Tryz.func173 (by kernel_rfl)
theorem a0_.ok (n:Nat):a0_.e.Oks E (cx n) n:=okk (.lp fun κe=>a0_.step4 n (od7.k (κe 0)),()) Tryz.func184 (by kernel_rfl)
theorem b0_.ok (n:Nat):b0_.e.Oks E (cx n) n:=okk (.lp fun κe=>b0_.step3 n (od9.k (κe 0)),()) Tryz.func208 (by kernel_rfl)
theorem ci_.ok (n:Nat):ci_.e.Oks E (cx n) n:=okk () Tryz.func166 (by kernel_rfl)
theorem a9_.ok (n:Nat):a9_.e.Oks E (cx n) n:=okk (.lp fun κe=>a9_.step5 n (od11.k (κe 0)),()) Tryz.func185 (by kernel_rfl)
theorem bo_.ok (n:Nat):bo_.e.Oks E (cx n) n:=okk (.lp fun κe=>bo_.step6 n (od13.k (κe 0)),()) Tryz.func206 (by kernel_rfl)
theorem aU_.ok (n:Nat):aU_.e.Oks E (cx n) n:=okk (.lp fun κe=>aU_.step4 n (od15.k (κe 0)),()) Tryz.func175 (by kernel_rfl)
theorem aK_.ok (n:Nat):aK_.e.Oks E (cx n) n:=okk (.lp fun κe=>aK_.step4 n (od17.k (κe 0)),()) Tryz.func125 (by kernel_rfl)
theorem cp_.ok (n:Nat):cp_.e.Oks E (cx n) n:=okk () Tryz.func150 (by kernel_rfl)
theorem cn_.ok (n:Nat):cn_.e.Oks E (cx n) n:=okk () Tryz.func41 (by kernel_rfl)
theorem bE_.ok (n:Nat):bE_.e.Oks E (cx n) n:=okk () Tryz.func114 (by kernel_rfl)
theorem ai_.ok (n:Nat):ai_.e.Oks E (cx n) n:=okk (.lp fun κe=>ai_.step7 n (od20.k (κe 0)),.lp fun κe=>ai_.step16 n (od21.k (κe 2)),()) Tryz.func127 (by kernel_rfl)
theorem b3_.ok (n:Nat):b3_.e.Oks E (cx n) n:=okk (.lp fun κe=>b3_.step6 n (od9.k (κe 0)),()) Tryz.func207 (by kernel_rfl)
theorem bK_.ok (n:Nat):bK_.e.Oks E (cx n) n:=okk (.lp fun κe=>bK_.step3 n (od24.k (κe 0)),()) Tryz.func180 (by kernel_rfl)
theorem bj_.ok (n:Nat):bj_.e.Oks E (cx n) n:=okk (.lp fun κe=>bj_.step6 n (od9.k (κe 0)),()) Tryz.func128 (by kernel_rfl)
theorem ay_.ok (n:Nat):ay_.e.Oks E (cx n) n:=okk (.lp fun κe=>ay_.step7 n (od28.k (κe 0)),.lp fun κe=>ay_.step16 n (od28.k (κe 2)),()) Tryz.func176 (by kernel_rfl)
theorem dA_.ok (n:Nat):dA_.e.Oks E (cx n) n:=okk () Tryz.func117 (by kernel_rfl)
theorem dj_.ok (n:Nat):dj_.e.Oks E (cx n) n:=okk () Tryz.func209 (by kernel_rfl)
theorem bw_.ok (n:Nat):bw_.e.Oks E (cx n) n:=okk (.lp fun κe=>bw_.step3 n (od9.k (κe 0)),()) Tryz.func186 (by kernel_rfl)
theorem bz_.ok (n:Nat):bz_.e.Oks E (cx n) n:=okk () Tryz.func188 (by kernel_rfl)
theorem dX_.ok (n:Nat):dX_.e.Oks E (cx n) n:=okk () Tryz.func210 (by kernel_rfl)
theorem bA_.ok (n:Nat):bA_.e.Oks E (cx n) n:=okk (.lp fun κe=>bA_.step5 n (od31.k (κe 0)),()) Tryz.func187 (by kernel_rfl)
theorem br_.ok (n:Nat):br_.e.Oks E (cx n) n:=okk (.lp fun κe=>br_.step8 n (od33.k (κe 0)),()) Tryz.func177 (by kernel_rfl)
theorem aL_.ok (n:Nat):aL_.e.Oks E (cx n) n:=okk (.lp fun κe=>aL_.step5 n (od35.k (κe 0)),()) Tryz.func178 (by kernel_rfl)
theorem bJ_.ok (n:Nat):bJ_.e.Oks E (cx n) n:=okk (.lp fun κe=>bJ_.step8 n (od37.k (κe 0)),()) Tryz.func126 (by kernel_rfl)
theorem b2_.ok (n:Nat):b2_.e.Oks E (cx n) n:=okk (.tl fun _ _=>b2_.tail1 n,()) Tryz.func67 (by kernel_rfl)
theorem c2_.ok (n:Nat):c2_.e.Oks E (cx n) n:=okk () Tryz.func132 (by kernel_rfl)
theorem d9_.ok (n:Nat):d9_.e.Oks E (cx n) n:=okk () Tryz.func182 (by kernel_rfl)
theorem bC_.ok (n:Nat):bC_.e.Oks E (cx n) n:=okk (.lp fun κe=>bC_.step4 n (od40.k (κe 0)),()) Tryz.func118 (by kernel_rfl)
theorem bh_.ok (n:Nat):bh_.e.Oks E (cx n) n:=okk (.lp fun κe=>bh_.step4 n (od42.k (κe 0)),()) Tryz.func130 (by kernel_rfl)
theorem ew_.ok (n:Nat):ew_.e.Oks E (cx n) n:=okk () Tryz.func183 (by kernel_rfl)
theorem dV_.ok (n:Nat):dV_.e.Oks E (cx n) n:=okk () Tryz.func131 (by kernel_rfl)
theorem aB_.ok (n:Nat):aB_.e.Oks E (cx n) n:=okk (.tl fun κd _=>aB_.tail9 n (od43.k κd),.lp fun κe=>aB_.step5 n (od45.k (κe 0)),()) Tryz.func69 (by kernel_rfl)
theorem bs_.ok (n:Nat):bs_.e.Oks E (cx n) n:=okk (.lp fun κe=>bs_.step12 n (od47.k (κe 0)),()) Tryz.func68 (by kernel_rfl)
theorem dk_.ok (n:Nat):dk_.e.Oks E (cx n) n:=okk () Tryz.func57 (by kernel_rfl)
theorem cR_.ok (n:Nat):cR_.e.Oks E (cx n) n:=okk () Tryz.func133 (by kernel_rfl)
theorem aN_.ok (n:Nat):aN_.e.Oks E (cx n) n:=okk (.lp fun κe=>aN_.step4 n (od49.k (κe 0)),()) Tryz.func70 (by kernel_rfl)
theorem dH_.ok (n:Nat):dH_.e.Oks E (cx n) n:=okk () Tryz.func134 (by kernel_rfl)
theorem du_.ok (n:Nat):du_.e.Oks E (cx n) n:=okk () Tryz.func71 (by kernel_rfl)
theorem aG_.ok (n:Nat):aG_.e.Oks E (cx n) n:=okk (.tl fun κd _=>aG_.tail13 n (od54.k κd),.tl fun κd _=>aG_.tail12 n (od51.k κd),.tl fun κd _=>aG_.tail8 n (od51.k κd),.lp fun κe=>aG_.step7 n (od55.k (κe 0)),.tl fun _ _=>aG_.tail3 n,()) Tryz.func26 (by kernel_rfl)
theorem cI_.ok (n:Nat):cI_.e.Oks E (cx n) n:=okk () Tryz.func6 (by kernel_rfl)
theorem aO_.ok (n:Nat):aO_.e.Oks E (cx n) n:=okk (.lp fun κe=>aO_.step6 n (od9.k (κe 0)),()) Tryz.func65 (by kernel_rfl)
theorem aY_.ok (n:Nat):aY_.e.Oks E (cx n) n:=okk (.lp fun κe=>aY_.step6 n (od9.k (κe 0)),()) Tryz.func66 (by kernel_rfl)
theorem c6_.ok (n:Nat):c6_.e.Oks E (cx n) n:=okk () Tryz.func25 (by kernel_rfl)
theorem az_.ok (n:Nat):az_.e.Oks E (cx n) n:=okk () Tryz.func48 (by kernel_rfl)
theorem a7_.ok (n:Nat):a7_.e.Oks E (cx n) n:=okk () Tryz.func100 (by kernel_rfl)
theorem ax_.ok (n:Nat):ax_.e.Oks E (cx n) n:=okk (.lp fun κe=>ax_.step3 n (od59.k (κe 0)),()) Tryz.func167 (by kernel_rfl)
theorem au_.ok (n:Nat):au_.e.Oks E (cx n) n:=okk (.lp fun κe=>au_.step3 n (od9.k (κe 0)),()) Tryz.func195 (by kernel_rfl)
theorem ea_.ok (n:Nat):ea_.e.Oks E (cx n) n:=okk () Tryz.func156 (by kernel_rfl)
theorem bp_.ok (n:Nat):bp_.e.Oks E (cx n) n:=okk (.lp fun κe=>bp_.step7 n (bp_ n) (od62.k (κe 0)),()) Tryz.func106 (by kernel_rfl)
theorem cZ_.ok (n:Nat):cZ_.e.Oks E (cx n) n:=okk () Tryz.func49 (by kernel_rfl)
theorem cD_.ok (n:Nat):cD_.e.Oks E (cx n) n:=okk () Tryz.func72 (by kernel_rfl)
theorem eb_.ok (n:Nat):eb_.e.Oks E (cx n) n:=okk () Tryz.func27 (by kernel_rfl)
theorem bW_.ok (n:Nat):bW_.e.Oks E (cx n) n:=okk (.lp fun κe=>bW_.step3 n (od9.k (κe 0)),()) Tryz.func112 (by kernel_rfl)
theorem aQ_.ok (n:Nat):aQ_.e.Oks E (cx n) n:=okk (.lp fun κe=>aQ_.step4 n (od65.k (κe 0)),()) Tryz.func52 (by kernel_rfl)
theorem dy_.ok (n:Nat):dy_.e.Oks E (cx n) n:=okk () Tryz.func135 (by kernel_rfl)
theorem aX_.ok (n:Nat):aX_.e.Oks E (cx n) n:=okk (.lp fun κe=>aX_.step3 n (od9.k (κe 0)),()) Tryz.func191 (by kernel_rfl)
theorem b6_.ok (n:Nat):b6_.e.Oks E (cx n) n:=okk () Tryz.func137 (by kernel_rfl)
theorem dL_.ok (n:Nat):dL_.e.Oks E (cx n) n:=okk () Tryz.func189 (by kernel_rfl)
theorem dp_.ok (n:Nat):dp_.e.Oks E (cx n) n:=okk () Tryz.func103 (by kernel_rfl)
theorem cu_.ok (n:Nat):cu_.e.Oks E (cx n) n:=okk () Tryz.func234 (by kernel_rfl)
theorem cK_.ok (n:Nat):cK_.e.Oks E (cx n) n:=okk () Tryz.func219 (by kernel_rfl)
theorem b5_.ok (n:Nat):b5_.e.Oks E (cx n) n:=okk () Tryz.func220 (by kernel_rfl)
theorem ak_.ok (n:Nat):ak_.e.Oks E (cx n) n:=okk (.lp fun κe=>ak_.step4 n (od68.k (κe 0)),()) Tryz.func199 (by kernel_rfl)
theorem bL_.ok (n:Nat):bL_.e.Oks E (cx n) n:=okk (.lp fun κe=>bL_.step4 n (od70.k (κe 0)),()) Tryz.func190 (by kernel_rfl)
theorem bB_.ok (n:Nat):bB_.e.Oks E (cx n) n:=okk (.lp fun κe=>bB_.step4 n (od72.k (κe 0)),()) Tryz.func136 (by kernel_rfl)
theorem bf_.ok (n:Nat):bf_.e.Oks E (cx n) n:=okk (.lp fun κe=>bf_.step4 n (od74.k (κe 0)),()) Tryz.func73 (by kernel_rfl)
theorem bO_.ok (n:Nat):bO_.e.Oks E (cx n) n:=okk (.lp fun κe=>bO_.step5 n (od76.k (κe 0)),()) Tryz.func28 (by kernel_rfl)
theorem bk_.ok (n:Nat):bk_.e.Oks E (cx n) n:=okk (.lp fun κe=>bk_.step7 n (od78.k (κe 0)),()) Tryz.func75 (by kernel_rfl)
theorem df_.ok (n:Nat):df_.e.Oks E (cx n) n:=okk () Tryz.func139 (by kernel_rfl)
theorem ad_.ok (n:Nat):ad_.e.Oks E (cx n) n:=okk (.lp fun κe=>ad_.step3 n (od9.k (κe 0)),()) Tryz.func138 (by kernel_rfl)
theorem dY_.ok (n:Nat):dY_.e.Oks E (cx n) n:=okk () Tryz.func76 (by kernel_rfl)
theorem dn_.ok (n:Nat):dn_.e.Oks E (cx n) n:=okk () Tryz.func77 (by kernel_rfl)
theorem aF_.ok (n:Nat):aF_.e.Oks E (cx n) n:=okk (.lp fun κe=>aF_.step6 n (od9.k (κe 0)),()) Tryz.func120 (by kernel_rfl)
theorem ag_.ok (n:Nat):ag_.e.Oks E (cx n) n:=okk (.lp fun κe=>ag_.step6 n (ds_ n) (od9.k (κe 0)),()) Tryz.func121 (by kernel_rfl)
theorem ds_.ok (n:Nat):ds_.e.Oks E (cx n) n:=okk () Tryz.func62 (by kernel_rfl)
theorem cz_.ok (n:Nat):cz_.e.Oks E (cx n) n:=okk () Tryz.func122 (by kernel_rfl)
theorem aS_.ok (n:Nat):aS_.e.Oks E (cx n) n:=okk (.lp fun κe=>aS_.step4 n (aS_ n) (od83.k (κe 0)),()) Tryz.func63 (by kernel_rfl)
theorem a3_.ok (n:Nat):a3_.e.Oks E (cx n) n:=okk (.lp fun κe=>a3_.step9 n (od86.k (κe 0)),.lp fun κe=>a3_.step17 n (od87.k (κe 2)),()) Tryz.func30 (by kernel_rfl)
theorem dM_.ok (n:Nat):dM_.e.Oks E (cx n) n:=okk () Tryz.func74 (by kernel_rfl)
theorem bV_.ok (n:Nat):bV_.e.Oks E (cx n) n:=okk (.lp fun κe=>bV_.step4 n (od89.k (κe 0)),()) Tryz.func29 (by kernel_rfl)
theorem cF_.ok (n:Nat):cF_.e.Oks E (cx n) n:=okk () Tryz.func8 (by kernel_rfl)
theorem dB_.ok (n:Nat):dB_.e.Oks E (cx n) n:=okk () Tryz.func168 (by kernel_rfl)
theorem cg_.ok (n:Nat):cg_.e.Oks E (cx n) n:=okk (.lp fun κe=>cg_.step3 n (od91.k (κe 0)),()) Tryz.func123 (by kernel_rfl)
theorem dx_.ok (n:Nat):dx_.e.Oks E (cx n) n:=okk () Tryz.func142 (by kernel_rfl)
theorem bF_.ok (n:Nat):bF_.e.Oks E (cx n) n:=okk (.lp fun κe=>bF_.step4 n (od93.k (κe 0)),()) Tryz.func143 (by kernel_rfl)
theorem dO_.ok (n:Nat):dO_.e.Oks E (cx n) n:=okk () Tryz.func80 (by kernel_rfl)
theorem bg_.ok (n:Nat):bg_.e.Oks E (cx n) n:=okk (.lp fun κe=>bg_.step4 n (od95.k (κe 0)),()) Tryz.func31 (by kernel_rfl)
theorem bD_.ok (n:Nat):bD_.e.Oks E (cx n) n:=okk (.lp fun κe=>bD_.step4 n (od97.k (κe 0)),()) Tryz.func107 (by kernel_rfl)
theorem a2_.ok (n:Nat):a2_.e.Oks E (cx n) n:=okk (.lp fun κe=>a2_.step4 n (a2_ n) (od99.k (κe 0)),()) Tryz.func50 (by kernel_rfl)
theorem dc_.ok (n:Nat):dc_.e.Oks E (cx n) n:=okk () Tryz.func15 (by kernel_rfl)
theorem cG_.ok (n:Nat):cG_.e.Oks E (cx n) n:=okk () Tryz.func9 (by kernel_rfl)
theorem dh_.ok (n:Nat):dh_.e.Oks E (cx n) n:=okk () Tryz.func111 (by kernel_rfl)
theorem ae_.ok (n:Nat):ae_.e.Oks E (cx n) n:=okk (.lp fun κe=>ae_.step3 n (od9.k (κe 0)),()) Tryz.func161 (by kernel_rfl)
theorem a1_.ok (n:Nat):a1_.e.Oks E (cx n) n:=okk () Tryz.func110 (by kernel_rfl)
theorem ec_.ok (n:Nat):ec_.e.Oks E (cx n) n:=okk () Tryz.func51 (by kernel_rfl)
theorem c8_.ok (n:Nat):c8_.e.Oks E (cx n) n:=okk () Tryz.func16 (by kernel_rfl)
theorem dz_.ok (n:Nat):dz_.e.Oks E (cx n) n:=okk () Tryz.func7 (by kernel_rfl)
theorem bq_.ok (n:Nat):bq_.e.Oks E (cx n) n:=okk (.lp fun κe=>bq_.step3 n (od102.k (κe 0)),()) Tryz.func85 (by kernel_rfl)
theorem bI_.ok (n:Nat):bI_.e.Oks E (cx n) n:=okk (.lp fun κe=>bI_.step3 n (od104.k (κe 0)),()) Tryz.func86 (by kernel_rfl)
theorem c5_.ok (n:Nat):c5_.e.Oks E (cx n) n:=okk () Tryz.func34 (by kernel_rfl)
theorem bM_.ok (n:Nat):bM_.e.Oks E (cx n) n:=okk (.lp fun κe=>bM_.step3 n (od59.k (κe 0)),()) Tryz.func155 (by kernel_rfl)
theorem ac_.ok (n:Nat):ac_.e.Oks E (cx n) n:=okk (.lp fun κe=>ac_.step6 n (od107.k (κe 0)),()) Tryz.func194 (by kernel_rfl)
theorem aM_.ok (n:Nat):aM_.e.Oks E (cx n) n:=okk (.lp fun κe=>aM_.step23 n (aM_ n) (od109.k (κe 1)),()) Tryz.func144 (by kernel_rfl)
theorem cM_.ok (n:Nat):cM_.e.Oks E (cx n) n:=okk () Tryz.func81 (by kernel_rfl)
theorem d8_.ok (n:Nat):d8_.e.Oks E (cx n) n:=okk () Tryz.func35 (by kernel_rfl)
theorem d7_.ok (n:Nat):d7_.e.Oks E (cx n) n:=okk () Tryz.func151 (by kernel_rfl)
theorem c4_.ok (n:Nat):c4_.e.Oks E (cx n) n:=okk () Tryz.func87 (by kernel_rfl)
theorem bP_.ok (n:Nat):bP_.e.Oks E (cx n) n:=okk (.lp fun κe=>bP_.step3 n (od9.k (κe 0)),()) Tryz.func89 (by kernel_rfl)
theorem aV_.ok (n:Nat):aV_.e.Oks E (cx n) n:=okk (.lp fun κe=>aV_.step7 n (od112.k (κe 0)),()) Tryz.func145 (by kernel_rfl)
theorem cL_.ok (n:Nat):cL_.e.Oks E (cx n) n:=okk () Tryz.func149 (by kernel_rfl)
theorem bx_.ok (n:Nat):bx_.e.Oks E (cx n) n:=okk (.lp fun κe=>bx_.step5 n (od114.k (κe 0)),()) Tryz.func96 (by kernel_rfl)
theorem bv_.ok (n:Nat):bv_.e.Oks E (cx n) n:=okk (.lp fun κe=>bv_.step4 n (od116.k (κe 0)),()) Tryz.func147 (by kernel_rfl)
theorem cQ_.ok (n:Nat):cQ_.e.Oks E (cx n) n:=okk () Tryz.func148 (by kernel_rfl)
theorem dI_.ok (n:Nat):dI_.e.Oks E (cx n) n:=okk () Tryz.func88 (by kernel_rfl)
theorem bb_.ok (n:Nat):bb_.e.Oks E (cx n) n:=okk (.lp fun κe=>bb_.step5 n (od118.k (κe 0)),()) Tryz.func36 (by kernel_rfl)
theorem ce_.ok (n:Nat):ce_.e.Oks E (cx n) n:=okk (.lp fun κe=>ce_.step3 n (od9.k (κe 0)),()) Tryz.func152 (by kernel_rfl)
theorem aH_.ok (n:Nat):aH_.e.Oks E (cx n) n:=okk (.lp fun κe=>aH_.step3 n (od122.k (κe 0)),.lp fun κe=>aH_.step11 n (od122.k (κe 2)),()) Tryz.func91 (by kernel_rfl)
theorem cP_.ok (n:Nat):cP_.e.Oks E (cx n) n:=okk () Tryz.func153 (by kernel_rfl)
theorem av_.ok (n:Nat):av_.e.Oks E (cx n) n:=okk (.lp fun κe=>av_.step6 n (av_ n) (od125.k (κe 0)),.lp fun κe=>av_.step14 n (av_ n) (od9.k (κe 2)),()) Tryz.func119 (by kernel_rfl)
theorem bd_.ok (n:Nat):bd_.e.Oks E (cx n) n:=okk (.lp fun κe=>bd_.step4 n (bd_ n) (od83.k (κe 0)),()) Tryz.func90 (by kernel_rfl)
theorem c3_.ok (n:Nat):c3_.e.Oks E (cx n) n:=okk () Tryz.func154 (by kernel_rfl)
theorem aE_.ok (n:Nat):aE_.e.Oks E (cx n) n:=okk (.lp fun κe=>aE_.step5 n (od129.k (κe 0)),.lp fun κe=>aE_.step13 n (od130.k (κe 2)),()) Tryz.func92 (by kernel_rfl)
theorem eg_.ok (n:Nat):eg_.e.Oks E (cx n) n:=okk () Tryz.func38 (by kernel_rfl)
theorem bT_.ok (n:Nat):bT_.e.Oks E (cx n) n:=okk (.lp fun κe=>bT_.step4 n (od89.k (κe 0)),()) Tryz.func37 (by kernel_rfl)
theorem cE_.ok (n:Nat):cE_.e.Oks E (cx n) n:=okk () Tryz.func11 (by kernel_rfl)
theorem cb_.ok (n:Nat):cb_.e.Oks E (cx n) n:=okk (.lp fun κe=>cb_.step6 n (od91.k (κe 0)),()) Tryz.func93 (by kernel_rfl)
theorem dt_.ok (n:Nat):dt_.e.Oks E (cx n) n:=okk () Tryz.func94 (by kernel_rfl)
theorem aC_.ok (n:Nat):aC_.e.Oks E (cx n) n:=okk (.lp fun κe=>aC_.step10 n (od133.k (κe 2)),.lp fun κe=>aC_.step4 n (od97.k (κe 0)),()) Tryz.func95 (by kernel_rfl)
theorem dJ_.ok (n:Nat):dJ_.e.Oks E (cx n) n:=okk () Tryz.func39 (by kernel_rfl)
theorem be_.ok (n:Nat):be_.e.Oks E (cx n) n:=okk (.lp fun κe=>be_.step4 n (od97.k (κe 0)),()) Tryz.func146 (by kernel_rfl)
theorem aJ_.ok (n:Nat):aJ_.e.Oks E (cx n) n:=okk (.lp fun κe=>aJ_.step17 n (aJ_ n) (od137.k (κe 1)),()) Tryz.func82 (by kernel_rfl)
theorem do_.ok (n:Nat):do_.e.Oks E (cx n) n:=okk () Tryz.func32 (by kernel_rfl)
theorem aP_.ok (n:Nat):aP_.e.Oks E (cx n) n:=okk (.lp fun κe=>aP_.step4 n (od139.k (κe 0)),()) Tryz.func12 (by kernel_rfl)
theorem a4_.ok (n:Nat):a4_.e.Oks E (cx n) n:=okk (.lp fun κe=>a4_.step4 n (od65.k (κe 0)),()) Tryz.func84 (by kernel_rfl)
theorem b1_.ok (n:Nat):b1_.e.Oks E (cx n) n:=okk (.lp fun κe=>b1_.step4 n (od142.k (κe 0)),()) Tryz.func83 (by kernel_rfl)
theorem dv_.ok (n:Nat):dv_.e.Oks E (cx n) n:=okk () Tryz.func33 (by kernel_rfl)
theorem dw_.ok (n:Nat):dw_.e.Oks E (cx n) n:=okk () Tryz.func10 (by kernel_rfl)
theorem cv_.ok (n:Nat):cv_.e.Oks E (cx n) n:=okk () Tryz.func13 (by kernel_rfl)
theorem bG_.ok (n:Nat):bG_.e.Oks E (cx n) n:=okk (.lp fun κe=>bG_.step3 n (od5.k (κe 0)),()) Tryz.func98 (by kernel_rfl)
theorem dg_.ok (n:Nat):dg_.e.Oks E (cx n) n:=okk () Tryz.func99 (by kernel_rfl)
theorem dE_.ok (n:Nat):dE_.e.Oks E (cx n) n:=okk () Tryz.func101 (by kernel_rfl)
theorem aZ_.ok (n:Nat):aZ_.e.Oks E (cx n) n:=okk (.lp fun κe=>aZ_.step7 n (od28.k (κe 0)),.lp fun κe=>aZ_.step16 n (od28.k (κe 2)),()) Tryz.func43 (by kernel_rfl)
theorem co_.ok (n:Nat):co_.e.Oks E (cx n) n:=okk (.lp fun κe=>co_.step3 n (od147.k (κe 0)),()) Tryz.func44 (by kernel_rfl)
theorem impl_holds.ok (n:Nat):impl_holds.e.Oks E (cx n) n:=okk () Tryz.func102 (by kernel_rfl)
theorem cd_.ok (n:Nat):cd_.e.Oks E (cx n) n:=okk (.lp fun κe=>cd_.step3 n (od9.k (κe 0)),()) Tryz.func45 (by kernel_rfl)
theorem eO_.ok (n:Nat):eO_.e.Oks E (cx n) n:=okk () Tryz.func46 (by kernel_rfl)
theorem dN_.ok (n:Nat):dN_.e.Oks E (cx n) n:=okk () Tryz.func105 (by kernel_rfl)
theorem ap_.ok (n:Nat):ap_.e.Oks E (cx n) n:=okk (.lp fun κe=>ap_.step3 n (od9.k (κe 0)),()) Tryz.func104 (by kernel_rfl)
theorem eq_.ok (n:Nat):eq_.e.Oks E (cx n) n:=okk () Tryz.func47 (by kernel_rfl)
theorem ba_.ok (n:Nat):ba_.e.Oks E (cx n) n:=okk (.lp fun κe=>ba_.step6 n (od152.k (κe 0)),.lp fun κe=>ba_.step15 n (od9.k (κe 2)),()) Tryz.func14 (by kernel_rfl)
theorem laws_FnShort.ok (n:Nat):laws_FnShort.e.Oks E (cx n) n:=okk () Tryz.func3 (by kernel_rfl)
end Go.Pi
end
section
namespace Go.Pi
def InsM (P:Program) (f:FuncId) (e:TypeId) (K B:Nat):Prop :=
 ∀ (w:World) (S:Value) (n:Nat) (vals:List Value) (U:Value) (m:Nat) (us:List Value) (i:Nat),w.ownsRow 0 e K S n vals→w.ownsRow 0 e K U m us→(∀ b,cf_ S b≠0→cf_ U b=0)→i≤n →
   (∀ v ∈ vals,v.oneCell'=true)→(∀ v ∈ us,v.oneCell'=true)→(n+m)*B≤140737488355328 →
   Calls P f (List.toArray [S,.int .i64 i,U]) w fun e' w'=>∃ R,e' = .returned R∧w'.ownsRow 0 e K R (n+m) (vals.take (i*K)++us++vals.drop (i*K))∧h1_ w w' (fun b=>cf_ S b≠0) ∧
    ∀ b,cf_ R b≠0→(w.heap.size≤b∨cf_ S b≠0)∧b<w'.heap.size
def DelM (P:Program) (f:FuncId) (e:TypeId) (K:Nat):Prop :=
 ∀ (w:World) (S:Value) (n:Nat) (vals:List Value) (i j:Nat),w.ownsRow 0 e K S n vals→i≤j→j≤n→(∀ v ∈ vals,v.oneCell'=true) →
   Calls P f (List.toArray [S,.int .i64 i,.int .i64 j]) w fun e' w'=>∃ R,e' = .returned R∧w'.ownsRow 0 e K R (n - (j - i)) (vals.take (i*K)++vals.drop (j*K))∧h1_ w w' (fun b=>cf_ S b≠0) ∧
    ∀ b,cf_ R b≠0→(w.heap.size≤b∨cf_ S b≠0)∧b<w'.heap.size
def M.both:M→M→M
 |.d,.d=>.d
 |_,_=>.s
variable [ah_]
open ah_
variable {E:Env} {w w':World} {F F':Nat→Prop}
theorem RL.own_inv {m t xs v l vs φ} (hm:m ≠ .v) (h:RL E w F (.sl m t xs::l) (v::vs) φ):∃ vals φ₁ φ₂,w.ownsRow 0 (E.eid t) t.width v xs.length vals∧RL E w F (aR_ m.sub t xs) vals φ₁∧(∀ b,cf_ v b≠0→F b)∧RL E w F l vs φ₂∧∀ b,φ b=cf_ v b+φ₁ b+φ₂ b:=by
 cases h with
 |scal _ _ _ _ _ h=>exact h.elim
 |view=>exact absurd rfl hm
 |own m t xs v vals φ₁ l vs φ₂ φ h1 h2 h3 h4 h5 h6=>exact ⟨vals,φ₁,φ₂,h2,h3,h4,h5,h6⟩
theorem RL.len_inv {a l Vs φ} (h:RL E w F (a::l) Vs φ):∃ v vs,Vs=v::vs:=by
 obtain ⟨v,vs,_,_,h,_⟩:=RL.uncons h
 exact ⟨v,vs,h⟩
theorem o5_ [aj_] {φ:Nat→Nat} (h1:∀ b,φ b≤1) (low:∀ b,φ b≠0→F b∧b<w.heap.size) {S:Value} (hSF:∀ b,cf_ S b≠0→F b) {t:TC} {zs:List (El t)} {vals:List Value} {ψ:Nat→Nat}
  (hz:RL E w F (aR_ .d t zs) vals ψ) (eφ:∀ b,cf_ S b+ψ b≤φ b) {R:Value} (hR:w'.ownsRow 0 (E.eid t) t.width R zs.length vals) (hg:h1_ w w' (fun b=>cf_ S b≠0))
  (hRb:∀ b,cf_ R b≠0→(w.heap.size≤b∨cf_ S b≠0)∧b<w'.heap.size) :
  ∃ φ',RL E w' (fun b=>(F b∧φ b=0)∨φ' b≠0) [.sl .d t zs] [R] φ'∧(∀ b,φ' b≤1)∧(∀ b,φ' b≠0→φ b≠0∨w.heap.size≤b) ∧
    w'.os=w.os∧w'.tape=w.tape∧w'.output=w.output∧w.heap.size≤w'.heap.size∧∀ b,b<w.heap.size→φ b=0→w'.heap[b]?=w.heap[b]?:=by
 have key:∀ b,cf_ R b≠0→cf_ S b≠0∨w.heap.size≤b:=fun b hb=>(hRb b hb).1.symm
 have elt:∀ b,ψ b≠0→cf_ R b=0∧cf_ S b=0:=fun b hb=>by
  have q1:=eφ b;have q2:=h1 b
  have s0:cf_ S b=0:=by omega
  refine ⟨Classical.byContradiction fun hr => ?_,s0⟩
  rcases key b hr with hs|hs
  · exact hs s0
  · have:=(low b (by omega)).2;omega
 refine ⟨fun b=>cf_ R b+ψ b,?_,fun b => ?_,fun b hb => ?_,hg.os,hg.tape,hg.output,hg.size,fun b hb h0=>hg.heap b hb fun hc=>hc (by have:=eφ b;omega)⟩
 · refine .own .d t zs R vals ψ [] _ (fun _=>0) _ (by decide) hR ?_ (fun b hb=>.inr (by show cf_ R b+_≠0;omega)) (.nil _ fun _=>rfl) (fun b=>rfl)
   refine hz.frame hg.size (fun b hb=>⟨hg.heap b (hz.low b hb).2 fun hc=>hc (elt b hb).2,.inr (by show cf_ R b+ψ b≠0;omega)⟩) fun b hb hn=>⟨hg.heap b hb fun hc=>hn (hSF b hc),fun hc => ?_⟩
   rcases hc with ⟨hf,-⟩|hc
   · exact hn hf
   · have hc:cf_ R b+ψ b≠0:=hc
     by_cases hr0:cf_ R b=0
     · exact hn (hz.low b (by omega)).1
     · rcases key b hr0 with hs|hs
       · exact hn (hSF b hs)
       · omega
 · show cf_ R b+ψ b≤1
   have q1:=eφ b;have q2:=h1 b;have:=l2_ R b
   by_cases h0:ψ b=0
   · omega
   · have:=elt b h0;omega
 · have hb:cf_ R b+ψ b≠0:=hb
   by_cases h0:ψ b=0
   · rcases key b (by omega) with hs|hs
     · exact .inl (by have:=eφ b;omega)
     · exact .inr hs
   · exact .inl (by have:=eφ b;omega)
theorem la_ [aj_] {φ:Nat→Nat} (h1:∀ b,φ b≤1) (low:∀ b,φ b≠0→F b∧b<w.heap.size) {S:Value} (hSF:∀ b,cf_ S b≠0→F b) {t:TC} {zs:List (El t)} {L:List AV} {vals:List Value} {ψ:Nat→Nat}
  (hz:RL E w F L vals ψ) (hL:L.map AV.asView=aR_ .v t zs) (eφ:∀ b,cf_ S b+ψ b≤φ b) {R:Value} (hR:w'.ownsRow 0 (E.eid t) t.width R zs.length vals) (hg:h1_ w w' (fun b=>cf_ S b≠0))
  (hRb:∀ b,cf_ R b≠0→(w.heap.size≤b∨cf_ S b≠0)∧b<w'.heap.size) :
  ∃ φ',RL E w' (fun b=>(F b∧φ b=0)∨φ' b≠0) [.sl .s t zs] [R] φ'∧(∀ b,φ' b≤1)∧(∀ b,φ' b≠0→φ b≠0∨w.heap.size≤b) ∧
    w'.os=w.os∧w'.tape=w.tape∧w'.output=w.output∧w.heap.size≤w'.heap.size∧∀ b,b<w.heap.size→φ b=0→w'.heap[b]?=w.heap[b]?:=by
 have key:∀ b,cf_ R b≠0→cf_ S b≠0∨w.heap.size≤b:=fun b hb=>(hRb b hb).1.symm
 have hv:=hz.seen (F':=fun b=>F b∧ψ b=0) (fun b hb hc=>hb hc.2) (fun b _ hn hc=>hn hc.1)
 rw [hL] at hv
 refine ⟨cf_ R,?_,l2_ R,fun b hb => ?_,hg.os,hg.tape,hg.output,hg.size,fun b hb h0=>hg.heap b hb fun hc=>hc (by have:=eφ b;omega)⟩
 · refine .own .s t zs R vals (fun _=>0) [] _ (fun _=>0) _ (by decide) hR ?_ (fun b hb=>.inr hb) (.nil _ fun _=>rfl) (fun b=>rfl)
   refine hv.frame hg.size (fun b hb=>absurd rfl hb) fun b hb hn=>⟨hg.heap b hb fun hc=>hn ⟨hSF b hc,by have:=eφ b;have:=h1 b;omega⟩,fun hc => ?_⟩
   rcases hc with ⟨hf,h0⟩|hc
   · exact hn ⟨hf,by have:=eφ b;omega⟩
   · rcases key b hc with hs|hs
     · exact hn ⟨hSF b hs,by have:=eφ b;have:=h1 b;omega⟩
     · omega
 · rcases key b hb with hs|hs
   · exact .inl (by have:=eφ b;omega)
   · exact .inr hs
theorem RL.int_inv {k n l v vs φ} (h:RL E w F (.i k n::l) (v::vs) φ):v = .int k n∧RL E w F l vs φ:=by
 cases h with
 |scal _ _ _ _ _ h1 h2=>exact ⟨h1,h2⟩
theorem codedD [aj_] {m:M} {t:TC} (zs:List (El t)):∀ a ∈ aR_ m t zs,∃ m,a.coded m:=fun a ha=>⟨m,dr_ a ha⟩
theorem p2_ [aj_] {f:FuncId} {t:TC} {m1 m2:M} (hm1:m1 ≠ .v) (hm2:m2 ≠ .v) (h:InsM E.P f (E.eid t) t.width t.bytes) {xs ys:List (El t)} {i:Nat} (hi:i≤xs.length) (hb:(xs.length+ys.length)*t.bytes≤140737488355328) :
  ei_ E f [.sl m1 t xs,.i .i64 i,.sl m2 t ys] (.sl (M.both m1 m2) t (xs.take i++ys++xs.drop i)) [] [.o,.v,.o]:=by
 intro w F Vs φ hrl h1 hlow _
 have low:∀ b,φ b≠0→F b∧b<w.heap.size:=hrl.low
 obtain ⟨S,_,rfl⟩:=hrl.len_inv
 replace hrl:=hrl.own_inv hm1
 obtain ⟨vals,φx,φ2,hS,hx,hSF,hrl,e1⟩:=hrl
 obtain ⟨I,_,rfl⟩:=hrl.len_inv
 replace hrl:=hrl.int_inv
 obtain ⟨rfl,hrl⟩:=hrl
 obtain ⟨U,_,rfl⟩:=hrl.len_inv
 replace hrl:=hrl.own_inv hm2
 obtain ⟨us,φy,φ4,hU,hy,hUF,hrl,e3⟩:=hrl
 obtain ⟨rfl,e4⟩:=RL.nil_inv hrl
 have eφ:∀ b,φ b=cf_ S b+φx b+(cf_ U b+φy b):=fun b=>by rw [e1,e3,e4];omega
 refine (h w S xs.length vals U ys.length us i hS hU (fun b hb=>by have:=h1 b;have:=eφ b;omega) hi (hx.one (codedD _)) (hy.one (codedD _)) hb).mono ?_
 rintro e' w' ⟨R,rfl,hR,hg,hRb⟩
 have hx':RL E w F (aR_ m1.sub t (xs.take i)++aR_ m1.sub t (xs.drop i)) vals φx:=by rw [←cj_,List.take_append_drop];exact hx
 obtain ⟨va,vb,φa,φb,rfl,ha,hb',e6⟩:=hx'.split
 have hla:va.length=i*t.width:=by rw [←ha.length,c7_,List.length_take,Nat.min_eq_left hi]
 rw [←hla,List.take_left,List.drop_left] at hR
 have hz:RL E w F (aR_ m1.sub t (xs.take i)++aR_ m2.sub t ys++aR_ m1.sub t (xs.drop i)) (va++us++vb) (fun b=>φa b+φy b+φb b) :=
  (ha.append hy (ψ:=fun b=>φa b+φy b) (fun b=>rfl)).append hb' (fun b=>rfl)
 have hl:(xs.take i++ys++xs.drop i).length=xs.length+ys.length:=by simp;omega
 have he:∀ b,cf_ S b+(φa b+φy b+φb b)≤φ b:=fun b=>by have:=eφ b;have:=e6 b;omega
 by_cases hd:m1 = .d∧m2 = .d
 · obtain ⟨rfl,rfl⟩:=hd
   have hz':RL E w F (aR_ .d t (xs.take i++ys++xs.drop i)) (va++us++vb) (fun b=>φa b+φy b+φb b):=by
    rw [cj_,cj_];exact hz
   obtain ⟨φ',k1,k2⟩:=o5_ (S:=S) (R:=R) h1 low hSF hz' he (by rw [hl];exact hR) hg hRb
   exact ⟨R,φ',rfl,k1,k2⟩
 · have hb2:M.both m1 m2 = .s:=by cases m1<;>cases m2<;>first|rfl|exact absurd rfl hm1|exact absurd rfl hm2|exact absurd ⟨rfl,rfl⟩ hd
   rw [hb2]
   obtain ⟨φ',k1,k2⟩:=la_ (S:=S) (R:=R) (t:=t) (zs:=xs.take i++ys++xs.drop i) h1 low hSF hz (by rw [List.map_append,List.map_append,eQ_,eQ_,eQ_,cj_,cj_]) he (by rw [hl];exact hR) hg hRb
   exact ⟨R,φ',rfl,k1,k2⟩
theorem qi_ [aj_] {f:FuncId} {t:TC} {m:M} (hm0:m ≠ .v) (h:DelM E.P f (E.eid t) t.width) {xs:List (El t)} {i j:Nat} (hij:i≤j) (hj:j≤xs.length) :
  ei_ E f [.sl m t xs,.i .i64 i,.i .i64 j] (.sl (M.both m m) t (xs.take i++xs.drop j)) [] [.o,.v,.v]:=by
 intro w F Vs φ hrl h1 hlow _
 have low:∀ b,φ b≠0→F b∧b<w.heap.size:=hrl.low
 obtain ⟨S,_,rfl⟩:=hrl.len_inv
 replace hrl:=hrl.own_inv hm0
 obtain ⟨vals,φx,φ2,hS,hx,hSF,hrl,e1⟩:=hrl
 obtain ⟨I,_,rfl⟩:=hrl.len_inv
 replace hrl:=hrl.int_inv
 obtain ⟨rfl,hrl⟩:=hrl
 obtain ⟨J,_,rfl⟩:=hrl.len_inv
 replace hrl:=hrl.int_inv
 obtain ⟨rfl,hrl⟩:=hrl
 obtain ⟨rfl,e4⟩:=RL.nil_inv hrl
 have eφ:∀ b,φ b=cf_ S b+φx b:=fun b=>by rw [e1,e4];omega
 refine (h w S xs.length vals i j hS hij hj (hx.one (codedD _))).mono ?_
 rintro e' w' ⟨R,rfl,hR,hg,hRb⟩
 have hx':RL E w F (aR_ m.sub t (xs.take i)++(aR_ m.sub t ((xs.drop i).take (j - i))++aR_ m.sub t (xs.drop j))) vals φx:=by
  rw [←cj_,←cj_]
  have:xs.drop j=(xs.drop i).drop (j - i):=by rw [List.drop_drop];congr 1;omega
  rw [this,List.take_append_drop,List.take_append_drop];exact hx
 obtain ⟨va,vc,φa,φc,rfl,ha,hc,e6⟩:=hx'.split
 obtain ⟨vm,vb,φm,φb,rfl,hm,hb',e7⟩:=hc.split
 have hla:va.length=i*t.width:=by rw [←ha.length,c7_,List.length_take,Nat.min_eq_left (by omega)]
 have hlm:vm.length=(j - i)*t.width:=by rw [←hm.length,c7_,List.length_take,List.length_drop,Nat.min_eq_left (by omega)]
 have hlj:(va++vm).length=j*t.width:=by rw [List.length_append,hla,hlm,←Nat.add_mul];congr 1;omega
 rw [←hla,List.take_left,←hlj,←List.append_assoc,List.drop_left] at hR
 have hz:RL E w F (aR_ m.sub t (xs.take i)++aR_ m.sub t (xs.drop j)) (va++vb) (fun b=>φa b+φb b):=ha.append hb' (fun b=>rfl)
 have hl:(xs.take i++xs.drop j).length=xs.length - (j - i):=by simp;omega
 have he:∀ b,cf_ S b+(φa b+φb b)≤φ b:=fun b=>by have:=eφ b;have:=e6 b;have:=e7 b;omega
 cases m with
 |v=>exact absurd rfl hm0
 |d=>
  have hz':RL E w F (aR_ .d t (xs.take i++xs.drop j)) (va++vb) (fun b=>φa b+φb b):=by
   rw [cj_];exact hz
  obtain ⟨φ',k1,k2⟩:=o5_ (S:=S) (R:=R) h1 low hSF hz' he (by rw [hl];exact hR) hg hRb
  exact ⟨R,φ',rfl,k1,k2⟩
 |s=>
  obtain ⟨φ',k1,k2⟩:=la_ (S:=S) (R:=R) (t:=t) (zs:=xs.take i++xs.drop j) h1 low hSF hz (by rw [List.map_append,eQ_,eQ_,cj_]) he (by rw [hl];exact hR) hg hRb
  exact ⟨R,φ',rfl,k1,k2⟩
theorem nDel_ok [aj_] {f:FuncId} {t:TC} {m:M} (hm0:m ≠ .v) (h:DelM E.P f (E.eid t) t.width) {xs r:List (El t)} {i j:Int} (hr:l7_ xs i j=some r) :
  ei_ E f [.sl m t xs,.i .i64 i,.i .i64 j] (.sl (M.both m m) t r) [] [.o,.v,.v]:=by
 unfold l7_ at hr
 by_cases hc:0≤i∧i≤j∧j≤(xs.length:Int)
 · obtain ⟨h1,h2,h3⟩:=hc
   obtain ⟨i,rfl⟩:=Int.eq_ofNat_of_zero_le h1
   obtain ⟨j,rfl⟩:=Int.eq_ofNat_of_zero_le (Int.le_trans h1 h2)
   simp only [h1,h2,h3,decide_true,Bool.and_true,cond_true,Option.some.injEq] at hr
   subst hr
   exact qi_ hm0 h (by omega) (by omega)
 · have:(decide (0≤i)&&(decide (i≤j)&&decide (j≤(xs.length:Int))))=false:=by
    rw [Bool.eq_false_iff];intro h;simp only [Bool.and_eq_true,decide_eq_true_eq] at h;exact hc h
   rw [this] at hr;cases hr
theorem n5_ [aj_] {f:FuncId} {t:TC} {m1 m2:M} (hm1:m1 ≠ .v) (hm2:m2 ≠ .v) (h:InsM E.P f (E.eid t) t.width t.bytes) {xs ys r:List (El t)} {i:Int} (hr:gU_ t.bytes xs i ys=some r) :
  ei_ E f [.sl m1 t xs,.i .i64 i,.sl m2 t ys] (.sl (M.both m1 m2) t r) [] [.o,.v,.o]:=by
 unfold gU_ at hr
 by_cases hc:0≤i∧i≤(xs.length:Int)
 · obtain ⟨h1,h2⟩:=hc
   obtain ⟨i,rfl⟩:=Int.eq_ofNat_of_zero_le h1
   by_cases hb:(xs.length+ys.length)*t.bytes≤140737488355328
   · simp only [h1,h2,hb,decide_true,Bool.and_true,cond_true,Option.some.injEq] at hr
     subst hr
     exact p2_ hm1 hm2 h (by omega) hb
   · simp [h1,h2,hb] at hr
 · have:(decide (0≤i)&&decide (i≤(xs.length:Int)))=false:=by
    rw [Bool.eq_false_iff];intro h;simp only [Bool.and_eq_true,decide_eq_true_eq] at h;exact hc h
   rw [this] at hr;cases hr
end Go.Pi
end
section
namespace Go.Proofs
open Go.Shelf Go.RowKit Go.Lib Go.Pi
section
variable {P:Program}
theorem jn_ {ops:Array Oper} {o:Oper} {a:Act} {w:World} {K:Act→World→Prop} {Q:Exit→Act→World→Prop} {E:Prop}
  (hg:o.guard=none) (d x:Operand) (dT sT:TypeId) (hop:o.op=Op.call { callee:=Callee.builtin Builtin.append,args:=#[d,x],argTypes:=#[dT,sT] })
  (v u:Value) (hd:a.eval d=v) (hx:a.eval x=u) {v':Value} {w':World} (hr:(Builtin.append_ #[dT,sT] o.type #[v,u]).run P w = .ok v' w') (hK:K (a.put o.dst v') w') :
  if Region.wanted o (yielded ops a.tmps)=true then Oper.wp P o a w K Q else E:=by
 have hw:Region.wanted o (yielded ops a.tmps)=true:=by simp [Region.wanted,hg]
 rw [if_pos hw]
 unfold Oper.wp
 simp [execOp,hop,resolve,invoke,builtin,hd,hx,hr,Result.andThen]
 exact hK
theorem pK_ (w:World) {ops:Array Oper} {h6_:List Oper} {o:Oper} {a:Act} {Q:Exit→Act→World→Prop} (hgd:o.guard=none) (d:Operand) (t:TypeId)
  (ho:o.op = .call { callee:=.builtin .clear,args:=#[d],argTypes:=#[t] }) (v:Value) (hd:a.eval d=v) {v':Value} {w':World}
  (hr:(Builtin.clear_ #[t] o.type #[v]).run P w = .ok v' w') (h:wpList P ops Q h6_ (a.put o.dst v') w'):wpList P ops Q (o::h6_) a w :=
 wpList_plain hgd fun _ hK=>by
  unfold Oper.wp execOp
  simp only [ho,resolve,invoke,builtin,Sem.run_bind,Sem.run_pure,Result.andThen_ok,List.map_toArray,List.map_cons,List.map_nil,hd,hr]
  exact hK _ _ h
theorem n1_ (w:World) (t e ty:TypeId) (z:Value) (ht:P.underlying t=some (.slice e)) (hv:∀ w,(zeroValue e).run P w = .ok z w) (g o n c:Nat) (hn:0<n) (cur:Array Value) (T:TypeId) (hg:w.heap[g]?=some (.cells cur T (0,0)))
  (hfit:o+(Builtin.zeroCells z.cells n).toList.length≤cur.size) (h1:∀ v ∈ (Builtin.zeroCells z.cells n).toList,v.oneCell'=true) :
  (Builtin.clear_ #[t] ty #[.slice (some ⟨g,o,none⟩) n c]).run P w = .ok (.tuple #[]) (w.setRow g (cur.toList.take o++(Builtin.zeroCells z.cells n).toList++cur.toList.drop (o+(Builtin.zeroCells z.cells n).toList.length)).toArray):=by
 have hst:=run_storeCells_at P g o T (Builtin.zeroCells z.cells n).toList 0 cur w hg (by simpa using hfit) h1
 obtain ⟨m,rfl⟩:∃ m,n=m+1:=⟨n - 1,by omega⟩
 simp only [Builtin.clear_,run_underlying ht,Sem.run_bind,Result.andThen_ok,hv]
 simp only [List.getElem?_toArray,List.getElem?_cons_zero,Sem.run_bind,run_underlying ht,Result.andThen_ok,hv,hst,Nat.add_zero,Sem.run_pure]
end
theorem e4_ (w:World) {P:Program} {ops:Array Oper} {h6_:List Oper} {o:Oper} {a:Act} {Q:Exit→Act→World→Prop} (hgd:o.guard=none) (d s:Operand) (t t':TypeId)
  (ho:o.op = .call { callee:=.builtin .copy,args:=#[d,s],argTypes:=#[t,t'] }) (v u:Value) (hd:a.eval d=v) (hs:a.eval s=u) {v':Value} {w':World}
  (hr:(Builtin.copy_ #[t,t'] o.type #[v,u]).run P w = .ok v' w') (h:wpList P ops Q h6_ (a.put o.dst v') w'):wpList P ops Q (o::h6_) a w :=
 wpList_plain hgd fun _ hK=>by
  unfold Oper.wp execOp
  simp only [ho,resolve,invoke,builtin,Sem.run_bind,Sem.run_pure,Result.andThen_ok,List.map_toArray,List.map_cons,List.map_nil,hd,hs,hr]
  exact hK _ _ h
theorem dU_ {P:Program} {ops:Array Oper} {o:Oper} {a:Act} {w:World} {K:Act→World→Prop} {Q:Exit→Act→World→Prop} {E:Prop}
  (hg:o.guard=none) (d x:Operand) (dT sT:TypeId) (hop:o.op=Op.call { callee:=Callee.builtin Builtin.copy,args:=#[d,x],argTypes:=#[dT,sT] })
  (v u:Value) (hd:a.eval d=v) (hx:a.eval x=u) {v':Value} {w':World} (hr:(Builtin.copy_ #[dT,sT] o.type #[v,u]).run P w = .ok v' w') (hK:K (a.put o.dst v') w') :
  if Region.wanted o (yielded ops a.tmps)=true then Oper.wp P o a w K Q else E:=by
 have hw:Region.wanted o (yielded ops a.tmps)=true:=by simp [Region.wanted,hg]
 rw [if_pos hw]
 unfold Oper.wp
 simp [execOp,hop,resolve,invoke,builtin,hd,hx,hr,Result.andThen]
 exact hK
theorem cJ_ {P:Program} (w:World) (dT sT ty elem:TypeId) (k:Nat) (g o dLen dCap:Nat) (a:Addr) (sLen sCap:Nat) (cur:Array Value) (t:TypeId) (cs:List Value)
  (hu:P.underlying dT=some (.slice elem)) (hs:(P.info? elem).map (·.size)=some k)
  (hg:w.heap[g]?=some (.cells cur t (0,0))) (hn:cs.length=Nat.min sLen dLen*k)
  (hsrc:∀ j v,cs[j]?=some v→w.cell? (a.add j)=some v) (hfit:o+cs.length≤cur.size) (h1:∀ v ∈ cs,v.oneCell'=true) :
  (Builtin.copy_ #[dT,sT] ty #[.slice (some ⟨g,o,none⟩) dLen dCap,.slice (some a) sLen sCap]).run P w =
   .ok (goInt (Nat.min sLen dLen)) (w.setRow g (cur.toList.take o++cs++cur.toList.drop (o+cs.length)).toArray):=by
 have hl:=run_loadCells_list (P:=P) w a cs hsrc
 have hst:=run_storeCells_at P g o t cs 0 cur w hg (by simpa using hfit) h1
 cases hq:P.info? elem with
 |none=>simp [hq] at hs
 |some i=>
  have hi:i.size=k:=by simpa [hq] using hs
  simp [Builtin.copy_,run_underlying hu,Builtin.lenOf,Builtin.firstCells,sizeOf,typeInfo,hq,hi,←hn,hl,hst]
theorem zc_one (cs:Array Value) (h:cs.toList.all Value.oneCell'=true) (n:Nat):∀ v ∈ (Builtin.zeroCells cs n).toList,v.oneCell'=true:=by
 intro v hv
 simp only [Builtin.zeroCells,Array.toList_map,List.mem_map,Array.toList_range,List.mem_range] at hv
 obtain ⟨x,hx,rfl⟩:=hv
 have h0:0<cs.size:=Nat.pos_of_mul_pos_left (by omega:0<n*cs.size)
 have:x % cs.size<cs.size:=Nat.mod_lt _ h0
 rw [getElem!_pos cs _ this]
 exact List.all_eq_true.1 h _ (by simp)
theorem l1_ {w:World} {e:TypeId} {K:Nat} {S:Value} {n:Nat} {vals:List Value} (h:w.ownsRow 0 e K S n vals):∀ b,cf_ S b≠0→b<w.heap.size:=by
 intro b hb
 rcases h.2 with ⟨rfl,_⟩|⟨g,cap,cur,rfl,_,hg,_⟩
 · simp [cf_] at hb
 · have:g=b:=by simp only [cf_] at hb;exact Classical.byContradiction fun h=>hb (if_neg h)
   subst this
   exact (Array.getElem?_eq_some_iff.1 hg).1
theorem iE_ (w:World) (g:Nat) (A:Array Value):w.heap.size≤(w.drew.setRow g A).heap.size:=by
 have:(w.drew.setRow g A).heap.size=w.drew.heap.size:=by simp [World.setRow]
 rw [this];exact Nat.le_refl _
theorem d3_ {w:World} {e:TypeId} {v:Value} {n:Nat} {xs:List Value}:w.ownsRow 0 e 1 v n xs ↔
  (xs.length=n∧(v = .slice none 0 0∧n=0∨∃ g cap cur,v = .slice (some ⟨g,0,none⟩) n cap∧0≤g∧w.heap[g]?=some (.cells cur e (0,0))∧n≤cap∧cap≤maxLen∧cur.size=cap∧cur.toList.take n=xs)):=by
 unfold World.ownsRow
 simp only [Nat.mul_one]
end Go.Proofs
end
section
namespace Go.Proofs
open Go.Shelf Go.RowKit Go.Lib Go.Pi
set_option maxRecDepth 1000000 in
theorem Delete78 (w:World) (g n c i j:Nat) (cur:Array Value) (hg:w.heap[g]?=some (.cells cur 119 (0,0))) (hs:cur.size=c*6) (hn:n≤c) (hc:c≤9223372036854775807) (hij:i<j) (hj:j≤n)
  (h1:∀ v ∈ cur.toList.take (n*6),v.oneCell'=true) :
  Calls Tryz.prog 78 #[.slice (some ⟨g,0,none⟩) n c,.int .i64 i,.int .i64 j] w fun e w'=>e = .returned (.slice (some ⟨g,0,none⟩) (n - (j - i)) c) ∧
   ∃ A,w'=w.drew.setRow g A∧A.size=cur.size∧A.toList.take ((n - (j - i))*6)=(cur.toList.take (n*6)).take (i*6)++(cur.toList.take (n*6)).drop (j*6):=by
 have hic:i≤c:=by omega
 have hjc:j≤c:=by omega
 obtain ⟨news,hnews⟩:∃ news,news=(cur.toList.take (n*6)).drop (j*6):=⟨_,rfl⟩
 have hlen:news.length=(n - j)*6:=by rw [hnews,List.length_drop,List.length_take,Array.length_toList,hs];omega
 have hgd:w.drew.heap[g]?=some (.cells cur 119 (0,0)):=hg
 obtain ⟨A,hA,hsrc⟩:∃ A:Addr,(if c=j then some (⟨g,0,none⟩:Addr) else some ⟨g,j*6,none⟩)=some A∧Hid (∀ t u,news[t]?=some u→w.drew.cell? (A.add t)=some u):=by
  by_cases h:c=j
  · refine ⟨⟨g,0,none⟩,by simp [h],fun t u hu => ?_⟩
    have h0:news.length=0:=by rw [hlen];omega
    rw [List.length_eq_zero_iff.1 h0] at hu
    simp at hu
  · refine ⟨⟨g,j*6,none⟩,by simp [h],fun t u hu => ?_⟩
    have ht:=(List.getElem?_eq_some_iff.1 hu).1
    rw [hlen] at ht
    rw [hnews,List.getElem?_drop,List.getElem?_take_of_lt (by omega),Array.getElem?_toList] at hu
    rw [Addr.add_lit]
    simp only [World.cell?,hgd]
    exact hu
 obtain ⟨i0,hi0⟩:=Option.isSome_iff_exists.1 (show (Tryz.prog.info? 119).isSome=true by kernel_rfl)
 have hz0:i0.size=6:=by
  have:(Tryz.prog.info? 119).map (·.size)=some 6:=by kernel_rfl
  rw [hi0] at this
  simpa using this
 have hr1:∀ ty,(Builtin.append_ #[114,114] ty #[.slice (some ⟨g,0,none⟩) i c,.slice (some A) (n - j) (c - j)]).run Tryz.prog w.drew = .ok (.slice (some ⟨g,0,none⟩) (i+(n - j)) c) (w.drew.setRow g (cur.toList.take (i*6)++news++cur.toList.drop (i*6+news.length)).toArray):=fun ty=>by
  have:=run_append_room (P:=Tryz.prog) w.drew 114 ty 119 i0 Tryz.underlying114 hi0 g i c cur hgd A (n - j) (c - j) news (by rw [hlen,hz0];try rw [Nat.mul_one]) hsrc.out (fun u hu=>h1 u (by rw [hnews] at hu;exact List.mem_of_mem_drop hu)) (by omega) (by rw [hz0,hlen,hs];omega)
  rw [hz0] at this
  first|exact this|(rw [Nat.mul_one] at this;exact this)
 obtain ⟨B,hB⟩:∃ B,B=(cur.toList.take (i*6)++news++cur.toList.drop (i*6+news.length)).toArray:=⟨_,rfl⟩
 have hBs:B.size=cur.size:=by rw [hB];simp [hlen,hs];omega
 have hBt:B.toList.take ((i+(n - j))*6)=(cur.toList.take (n*6)).take (i*6)++news:=by
  rw [hB]
  simp only [List.toList_toArray]
  rw [List.take_append_of_le_length (by simp [hlen,hs];omega),List.take_of_length_le (by simp [hlen,hs];omega),List.take_take,Nat.min_eq_left (by omega)]
 have hgB:(w.drew.setRow g B).heap[g]?=some (.cells B 119 (0,0)):=setRow_heap _ _ _ _ _ _ hgd
 obtain ⟨Z,hZ⟩:∃ Z,Z=(Builtin.zeroCells (Value.agg #[.int .i64 0,.int .i64 0,.int .i64 0,.string ByteArray.empty,.slice none 0 0,.slice none 0 0]).cells (n - (i+(n - j)))).toList:=⟨_,rfl⟩
 have hZl:Z.length=(n - (i+(n - j)))*6:=by rw [hZ];simp [Builtin.zeroCells,Value.cells]
 have hcl:∀ ty,(Builtin.clear_ #[114] ty #[.slice (some ⟨g,(i+(n - j))*6,none⟩) (n - (i+(n - j))) (c - (i+(n - j)))]).run Tryz.prog (w.drew.setRow g B) = .ok (.tuple #[]) ((w.drew.setRow g B).setRow g (B.toList.take ((i+(n - j))*6)++Z++B.toList.drop ((i+(n - j))*6+Z.length)).toArray):=fun ty=>by
  rw [hZ]
  refine n1_ _ 114 119 ty _ Tryz.underlying114 Tryz.zeroValue119 g _ _ _ (by omega) B 119 hgB (by
   have e:=hZl
   rw [hZ] at e
   exact Nat.le_trans (Nat.le_of_eq (congrArg (fun q=>(i+(n - j))*6+q) e)) (by first|(rw [hBs,hs,←Nat.add_mul];exact Nat.mul_le_mul_right _ (by omega))|(rw [hBs,hs];omega))) (fun v hv => ?_)
  exact zc_one _ (by kernel_rfl) _ v hv
 rw [←hB] at hr1
 obtain ⟨Z',hZ'⟩:∃ Z',Z'=(B.toList.take ((i+(n - j))*6)++Z++B.toList.drop ((i+(n - j))*6+Z.length)).toArray:=⟨_,rfl⟩
 have kZ:Hid (Z'.size=cur.size∧Z'.toList.take ((i+(n - j))*6)=(cur.toList.take (n*6)).take (i*6)++(cur.toList.take (n*6)).drop (j*6)):=by
  refine ⟨by rw [hZ'];simp [hZl,hBs,hs];omega,?_⟩
  rw [hZ',←hnews,←hBt]
  simp only [List.toList_toArray,List.append_assoc]
  rw [List.take_append_of_le_length (by simp [hBs,hs];omega),List.take_take,Nat.min_self]
 rw [←hZ'] at hcl
 clear hsrc h1 hB hBs hBt hgB hZ hZl hZ' hnews hlen hgd hg
 have hw1:¬ ((i:Int)=(j:Int)):=by omega
 have mixed:Tryz.prog.follows .mixedOrders=true:=by kernel_rfl
 go_enter Tryz.func78,Tryz.ntmps78
 go_wp2_with fail
 go_region_law_o (refine jn_ rfl (.tmp 22) (.tmp 25) 114 114 rfl _ _ (by simp [Act.eval,Act.put]) (by simp [Act.eval,Act.put,hA]) (hr1 _) ?_)
 go_wp2_with fail
 go_ret
 exact ⟨by rw [show n - (j - i)=i+(n - j) by omega];rfl,Z',by rw [setRow_setRow],kZ.out.1,by rw [show n - (j - i)=i+(n - j) by omega];exact kZ.out.2⟩
set_option maxRecDepth 1000000 in
theorem DelNone78 (w:World) (S:Value) (n i:Nat) (vals:List Value) (hS:w.ownsRow 0 119 6 S n vals) (hi:i≤n) :
  Calls Tryz.prog 78 #[S,.int .i64 i,.int .i64 i] w fun e w'=>e = .returned S∧w'=w:=by
 rcases hS.2 with ⟨rfl,rfl⟩|⟨g,c,cur,rfl,-,hg,hnc,hcm,hcs,htake⟩
 · have hi0:i=0:=by omega
   subst hi0
   clear hS
   go_enter Tryz.func78,Tryz.ntmps78
   go_wp2_with fail
   all_goals (go_ret;exact ⟨rfl,rfl⟩)
 · unfold maxLen at hcm
   have hic:i≤c:=by omega
   clear hS hg hcs htake
   go_enter Tryz.func78,Tryz.ntmps78
   go_wp2_with fail
   all_goals (go_ret;exact ⟨rfl,rfl⟩)
theorem delM78:DelM Tryz.prog 78 119 6:=by
 intro w S n vals i j hS hij hj h1
 by_cases e:i=j
 · subst e
   refine (DelNone78 w S n i vals hS hj).mono ?_
   rintro e w' ⟨rfl,rfl⟩
   refine ⟨S,rfl,by rw [Nat.sub_self,Nat.sub_zero,List.take_append_drop];exact hS,⟨rfl,rfl,rfl,Nat.le_refl _,fun _ _ _=>rfl⟩,fun b hb=>⟨.inr hb,l1_ hS b hb⟩⟩
 · rcases hS.2 with ⟨rfl,rfl⟩|⟨g,c,cur,rfl,-,hg,hnc,hcm,hcs,htake⟩
   · omega
   · refine (Delete78 w g n c i j cur hg hcs hnc (by unfold maxLen at hcm;omega) (by omega) hj (by rw [htake];exact h1)).mono ?_
     rintro e w' ⟨rfl,A,rfl,hA,ht⟩
     rw [htake] at ht
     have hgd:w.drew.heap[g]?=some (.cells cur 119 (0,0)):=hg
     have hA2:=setRow_heap w.drew g cur A _ _ hgd
     refine ⟨_,rfl,⟨by rw [←ht];simp [hA,hcs];omega,.inr ⟨g,c,A,rfl,Nat.zero_le _,hA2,by omega,hcm,by rw [hA,hcs],ht⟩⟩,⟨rfl,rfl,rfl,iE_ w g A,fun b _ hn => ?_⟩,fun b hb=>⟨.inr hb,?_⟩⟩
     · rw [setRow_other _ _ _ _ (fun e=>hn (by subst e;simp [cf_]))];rfl
     · have:g=b:=by simp only [cf_] at hb;exact Classical.byContradiction fun h=>hb (if_neg h)
       subst this
       exact (Array.getElem?_eq_some_iff.1 hA2).1
end Go.Proofs
namespace Go.Pi
open Go.Proofs
theorem bZ_.ok (n:Nat):bZ_.e.Oks E (cx n) n:=fun _ _ _ _ h=>nDel_ok (t:=.ikeyed) (m:=.s) (by decide) delM78 h
end Go.Pi
end
section
namespace Go.Proofs
open Go.Shelf Go.RowKit Go.Lib Go.Pi
section
variable {P:Program}
theorem insGrow79 (TS TE:TypeId) (TI:TypeId) (Z:Value) (i0:TypeInfo) (uS:P.underlying TS=some (.slice TE)) (uI:P.underlying TI=some (.int .i64)) (hi0:P.info? TE=some i0) (hz2:i0.zero=some Z) (hz0:i0.size=6) (hz1:i0.bytes=88) (hZK:Z.cells.size=6)
  (w:World) (g n c i:Nat) (cur:Array Value) (hg:w.heap[g]?=some (.cells cur TE (0,0))) (hs:cur.size=c*6) (hnc:n≤c) (hi:i<n)
  (gv m vc:Nat) (curv:Array Value) (Tv:TypeId) (hgv:w.heap[gv]?=some (.cells curv Tv (0,0))) (hmv:m*6≤curv.size) (us:List Value) (hul:us=curv.toList.take (m*6)) (h1u:∀ v ∈ us,v.oneCell'=true) (hm:0<m) (hroom:c<n+m)
  (hbig:(n+m)*88≤140737488355328) (h1:∀ v ∈ cur.toList.take (n*6),v.oneCell'=true) :
  ∃ G N W1 R1 W2 A,Hid (N=w.heap.size)∧n+m≤G∧G≤maxLen ∧
    (∀ ty,(Builtin.append_ #[TS,TI] ty #[.slice (some ⟨g,0,none⟩) i c,.int .i64 ((n:Int)+(m:Int) - (i:Int))]).run P w = .ok (.slice (some ⟨N,0,none⟩) (n+m) G) W1) ∧
    (∀ ty dc,(Builtin.copy_ #[TS,TS] ty #[.slice (some ⟨N,i*6,none⟩) (n+m - i) dc,.slice (some ⟨gv,0,none⟩) m vc]).run P W1 = .ok (goInt m) (W1.setRow N R1)) ∧
    (W1.setRow N R1).drew=W2 ∧
    (∀ ty dc sc,(Builtin.copy_ #[TS,TS] ty #[.slice (some ⟨N,(i+m)*6,none⟩) (n+m - (i+m)) dc,.slice (some ⟨g,i*6,none⟩) (n - i) sc]).run P W2 = .ok (goInt (n - i)) (W2.setRow N A)) ∧
    Hid (n+m≤G∧G≤maxLen∧(W2.setRow N A).heap[w.heap.size]?=some (.cells A TE (0,0))∧A.size=G*6∧A.toList.take ((n+m)*6)=(cur.toList.take (n*6)).take (i*6)++us++(cur.toList.take (n*6)).drop (i*6)∧w.grownBy (W2.setRow N A) none):=by
 have hul2:us.length=m*6:=by rw [hul,List.length_take,Array.length_toList];omega
 have hsz:(P.info? TE).map (·.size)=some 6:=by rw [hi0];simp [hz0]
 have hgd:w.drew.heap[g]?=some (.cells cur TE (0,0)):=hg
 have hgl:g<w.heap.size:=(Array.getElem?_eq_some_iff.1 hg).1
 have hgvl:gv<w.heap.size:=(Array.getElem?_eq_some_iff.1 hgv).1
 obtain ⟨olds,holds⟩:∃ olds,olds=(cur.toList.take (n*6)).take (i*6):=⟨_,rfl⟩
 have hol:olds.length=i*6:=by rw [holds];simp [hs];omega
 obtain ⟨G,hG⟩:∃ G,G=grownCap w (n+m) c TE:=⟨_,rfl⟩
 have hGn:n+m≤G:=by rw [hG];exact grownCap_ge w _ _ _
 have hGm:G≤maxLen:=by rw [hG];exact grownCap_le_maxLen w (n+m) c TE (by unfold maxLen;omega)
 obtain ⟨ROW,hROW⟩:∃ ROW:Array Value,ROW=olds.toArray++Builtin.zeroCells Z.cells (n+m - i)++Builtin.zeroCells Z.cells (G - (n+m)):=⟨_,rfl⟩
 have hRl:ROW.size=G*6:=by rw [hROW];simp [Builtin.zeroCells,hol,hZK];omega
 have hRt:ROW.toList.take (i*6)=olds:=by
  rw [hROW];simp only [Array.toList_append,List.append_assoc]
  rw [List.take_append_of_le_length (by simp [hol]),List.take_of_length_le (by simp [hol])]
 have hkk:(n:Int)+(m:Int) - (i:Int)=((n+m - i:Nat):Int):=by omega
 have hrz:∀ ty,(Builtin.append_ #[TS,TI] ty #[.slice (some ⟨g,0,none⟩) i c,.int .i64 ((n:Int)+(m:Int) - (i:Int))]).run P w =
   .ok (.slice (some ⟨w.heap.size,0,none⟩) (n+m) G) (w.drew.alloc (.cells ROW TE)):=fun ty=>by
  have h:=Lib.run_append_grow_zeros (P:=P) w TS TI ty TE i0 _ .i64 .i64 uS uI hi0 hz2 (some ⟨g,0,none⟩) i c olds (by
   rw [hz0]
   exact run_firstCells_some w.drew 6 i ⟨g,0,none⟩ i c olds hol (fun j v hj=>by
    have hj2:=(List.getElem?_eq_some_iff.1 hj).1
    rw [holds,List.getElem?_take_of_lt (by omega),List.getElem?_take_of_lt (by omega),Array.getElem?_toList] at hj
    rw [Addr.add_lit,Nat.zero_add]
    simp only [World.cell?,hgd]
    exact hj)) (n+m - i) (by omega) (by omega) (by omega) (by omega) (by rw [hz1];omega) (by rw [hz1,show i+(n+m - i)=n+m by omega];exact growslice_fits hroom hbig)
  rw [show i+(n+m - i)=n+m by omega,←hG,←hROW] at h
  rw [hkk]
  exact h
 obtain ⟨N,hN⟩:∃ N,N=w.heap.size:=⟨_,rfl⟩
 rw [←hN] at hrz
 obtain ⟨W1,hW1⟩:∃ W1,W1=w.drew.alloc (.cells ROW TE):=⟨_,rfl⟩
 rw [←hW1] at hrz
 have hN1:W1.heap[N]?=some (.cells ROW TE (0,0)):=by rw [hW1,hN];exact heap_alloc_new w.drew _
 have hold:∀ b,b<w.heap.size→W1.heap[b]?=w.heap[b]?:=fun b hb=>by rw [hW1];exact heap_alloc_old w.drew _ hb
 have hgr1:w.grownBy W1 none:=by rw [hW1];exact ⟨rfl,rfl,rfl,by simp,fun k hk _=>heap_alloc_old w.drew _ hk⟩
 obtain ⟨R1,hR1⟩:∃ R1,R1=(ROW.toList.take (i*6)++us++ROW.toList.drop (i*6+us.length)).toArray:=⟨_,rfl⟩
 have hR1s:R1.size=G*6:=by rw [hR1];simp [hul2,hRl];omega
 have hcp1:∀ ty dc,(Builtin.copy_ #[TS,TS] ty #[.slice (some ⟨N,i*6,none⟩) (n+m - i) dc,.slice (some ⟨gv,0,none⟩) m vc]).run P W1 = .ok (goInt m) (W1.setRow N R1):=fun ty dc=>by
  have:=cJ_ (P:=P) W1 TS TS ty TE 6 N (i*6) (n+m - i) dc ⟨gv,0,none⟩ m vc ROW TE us uS hsz hN1 (by rw [hul2];simp only [Nat.min_def];split<;>omega)
   (fun j v hj=>by
     have hj2:=(List.getElem?_eq_some_iff.1 hj).1
     rw [hul,List.getElem?_take_of_lt (by omega),Array.getElem?_toList] at hj
     rw [Addr.add_lit,Nat.zero_add]
     simp only [World.cell?,hold gv hgvl,hgv]
     exact hj) (by rw [hul2,hRl];omega) h1u
  rw [this,hR1]
  congr 2
  simp only [Nat.min_def];split<;>omega
 obtain ⟨W2,hW2⟩:∃ W2,W2=(W1.setRow N R1).drew:=⟨_,rfl⟩
 have hN2:W2.heap[N]?=some (.cells R1 TE (0,0)):=by rw [hW2];exact setRow_heap _ _ _ _ _ _ hN1
 have hg2:W2.heap[g]?=some (.cells cur TE (0,0)):=by
  rw [hW2];show (W1.setRow N R1).heap[g]?=_
  rw [setRow_other _ _ _ _ (by omega),hold g hgl];exact hg
 obtain ⟨mv,hmv2⟩:∃ mv,mv=(cur.toList.take (n*6)).drop (i*6):=⟨_,rfl⟩
 have hml:mv.length=(n - i)*6:=by rw [hmv2];simp [hs];omega
 obtain ⟨A,hA⟩:∃ A,A=(R1.toList.take ((i+m)*6)++mv++R1.toList.drop ((i+m)*6+mv.length)).toArray:=⟨_,rfl⟩
 have hcp2:∀ ty dc sc,(Builtin.copy_ #[TS,TS] ty #[.slice (some ⟨N,(i+m)*6,none⟩) (n+m - (i+m)) dc,.slice (some ⟨g,i*6,none⟩) (n - i) sc]).run P W2 = .ok (goInt (n - i)) (W2.setRow N A):=fun ty dc sc=>by
  have:=cJ_ (P:=P) W2 TS TS ty TE 6 N ((i+m)*6) (n+m - (i+m)) dc ⟨g,i*6,none⟩ (n - i) sc R1 TE mv uS hsz hN2 (by rw [hml];simp only [Nat.min_def];split<;>omega)
   (fun j v hj=>by
     have hj2:=(List.getElem?_eq_some_iff.1 hj).1
     rw [hmv2,List.getElem?_drop,List.getElem?_take_of_lt (by omega),Array.getElem?_toList] at hj
     rw [Addr.add_lit]
     simp only [World.cell?,hg2]
     exact hj) (by rw [hml,hR1s];omega) (fun v hv=>h1 v (by rw [hmv2] at hv;exact List.mem_of_mem_drop hv))
  rw [this,hA]
  congr 2
  simp only [Nat.min_def];split<;>omega
 have kA:Hid (n+m≤G∧G≤maxLen∧(W2.setRow N A).heap[w.heap.size]?=some (.cells A TE (0,0))∧A.size=G*6∧A.toList.take ((n+m)*6)=(cur.toList.take (n*6)).take (i*6)++us++(cur.toList.take (n*6)).drop (i*6)∧w.grownBy (W2.setRow N A) none):=by
  refine ⟨hGn,hGm,by rw [←hN];exact setRow_heap _ _ _ _ _ _ hN2,by rw [hA];simp [hml,hR1s];omega,?_,?_⟩
  · have e1:R1.toList.take ((i+m)*6)=olds++us:=by
     rw [hR1];simp only [List.toList_toArray]
     rw [List.take_append_of_le_length (by simp [hul2,hRl];omega),List.take_of_length_le (by simp [hul2,hRl];omega),hRt]
    rw [hA];simp only [List.toList_toArray]
    rw [e1,List.take_append_of_le_length (by simp [hol,hul2,hml];omega),List.take_of_length_le (by simp [hol,hul2,hml];omega),holds,hmv2]
  · refine ⟨by rw [hW2];exact hgr1.os,by rw [hW2];exact hgr1.tape,by rw [hW2];exact hgr1.output,?_,fun k hk hne => ?_⟩
    · have:(W2.setRow N A).heap.size=W1.heap.size:=by rw [hW2];simp [World.setRow,World.drew]
      rw [this];exact hgr1.size
    · rw [setRow_other _ _ _ _ (by omega),hW2]
      show (W1.setRow N R1).heap[k]?=_
      rw [setRow_other _ _ _ _ (by omega)];exact hold k hk
 exact ⟨G,N,W1,R1,W2,A,hN,hGn,hGm,hrz,hcp1,hW2.symm,hcp2,kA⟩
end
set_option maxRecDepth 1000000 in
theorem InsEnd79 (w:World) (S:Value) (n:Nat) (vals:List Value) (hS:w.ownsRow 0 119 6 S n vals) (gv m vc:Nat) (us:List Value) (hul:us.length=m*6) (hus:∀ j u,us[j]?=some u→w.cell? ⟨gv,j,none⟩=some u) (h1u:∀ v ∈ us,v.oneCell'=true) (hm:0<m) (hb:(n+m)*88≤140737488355328) :
  Calls Tryz.prog 79 #[S,.int .i64 n,.slice (some ⟨gv,0,none⟩) m vc] w fun e w'=>∃ R,e = .returned R∧w'.ownsRow 0 119 6 R (n+m) (vals++us)∧h1_ w w' (fun b=>cf_ S b≠0) ∧
   ∀ b,cf_ R b≠0→(w.heap.size≤b∨cf_ S b≠0)∧b<w'.heap.size:=by
 obtain ⟨i0,hi0⟩:=Option.isSome_iff_exists.1 (show (Tryz.prog.info? 119).isSome=true by kernel_rfl)
 have hz0:i0.size=6:=by
  have:(Tryz.prog.info? 119).map (·.size)=some 6:=by kernel_rfl
  rw [hi0] at this;simpa using this
 have hz1:i0.bytes=88:=by
  have:(Tryz.prog.info? 119).map (·.bytes)=some 88:=by kernel_rfl
  rw [hi0] at this;simpa using this
 have hz2:i0.zero=some (.agg #[.int .i64 0,.int .i64 0,.int .i64 0,.string ByteArray.empty,.slice none 0 0,.slice none 0 0]):=by
  have:(Tryz.prog.info? 119).bind (·.zero)=some (.agg #[.int .i64 0,.int .i64 0,.int .i64 0,.string ByteArray.empty,.slice none 0 0,.slice none 0 0]):=by kernel_rfl
  rw [hi0] at this;simpa using this
 have hz3:¬ ((m:Int)=0):=by omega
 have mixed:Tryz.prog.follows .mixedOrders=true:=by kernel_rfl
 have key:∀ ty,∃ v' w',(Builtin.append_ #[114,114] ty #[S,.slice (some ⟨gv,0,none⟩) m vc]).run Tryz.prog w = .ok v' w'∧w'.ownsRow 0 119 6 v' (n+m) (vals++us)∧h1_ w w' (fun b=>cf_ S b≠0) ∧
   ∀ b,cf_ v' b≠0→(w.heap.size≤b∨cf_ S b≠0)∧b<w'.heap.size:=fun ty=>by
  have:=ey_ (P:=Tryz.prog) w 114 ty 119 i0 _ Tryz.underlying114 hi0 hz2 (by rw [hz0];rfl) (by rw [hz0];decide) S n vals (by rw [hz0];exact hS) (.slice (some ⟨gv,0,none⟩) m vc) m us (by rw [hz0];exact hul) (.inl ⟨_,_,rfl,fun j u h=>by rw [Addr.add_lit,Nat.zero_add];exact hus j u h⟩) h1u (by unfold maxLen;omega) (by rw [hz1];exact hb)
  rw [hz0] at this
  exact this
 obtain ⟨v',w',k1,k2,k3⟩:=key 114
 rcases hS.2 with ⟨rfl,rfl⟩|⟨g,c,cur,rfl,-,hg,hnc,hcm,hcs,htake⟩
 · clear key hS hus hz2 hi0 hz0 hz1
   go_enter Tryz.func79,Tryz.ntmps79
   go_wp2_with (at_builtin;refine Lib.wpList_append_run _ rfl _ _ 114 114 rfl _ _ rfl rfl _ _ k1 ?_)
   go_ret
   exact ⟨_,rfl,k2,k3⟩
 · clear key hS hus hz2 hg htake hcs hi0 hz0 hz1
   unfold maxLen at hcm
   go_enter Tryz.func79,Tryz.ntmps79
   go_wp2_with (at_builtin;refine Lib.wpList_append_run _ rfl _ _ 114 114 rfl _ _ rfl rfl _ _ k1 ?_)
   all_goals (go_ret;exact ⟨_,rfl,k2,k3⟩)
set_option maxRecDepth 1000000 in
theorem InsNone79 (w:World) (S:Value) (n i:Nat) (vals:List Value) (hS:w.ownsRow 0 119 6 S n vals) (U:Value) (us:List Value) (hU:w.ownsRow 0 119 6 U 0 us) (hi:i≤n) :
  Calls Tryz.prog 79 #[S,.int .i64 i,U] w fun e w'=>e = .returned S∧w'=w:=by
 rcases hS.2 with ⟨rfl,rfl⟩|⟨g,c,cur,rfl,-,hg,hnc,hcm,hcs,htake⟩
 · have hi0:i=0:=by omega
   subst hi0
   rcases hU.2 with ⟨rfl,-⟩|⟨gv,vc,curv,rfl,-,hgv,hmc,hcm,hcs,htake⟩
   · clear hS hU
     go_enter Tryz.func79,Tryz.ntmps79
     go_wp2_with fail
     go_ret
     exact ⟨rfl,rfl⟩
   · clear hS hU hgv hcs htake
     go_enter Tryz.func79,Tryz.ntmps79
     go_wp2_with fail
     go_ret
     exact ⟨rfl,rfl⟩
 · unfold maxLen at hcm
   have hic:i≤c:=by omega
   rcases hU.2 with ⟨rfl,-⟩|⟨gv,vc,curv,rfl,-,hgv,hmc,hcm2,hcs2,htake2⟩
   · clear hS hU hg hcs htake
     go_enter Tryz.func79,Tryz.ntmps79
     go_wp2_with fail
     all_goals (go_ret;exact ⟨rfl,rfl⟩)
   · clear hS hU hg hcs htake hgv hcs2 htake2
     go_enter Tryz.func79,Tryz.ntmps79
     go_wp2_with fail
     all_goals (go_ret;exact ⟨rfl,rfl⟩)
set_option maxRecDepth 1000000 in
theorem qp_ (w:World) (g n c i:Nat) (cur:Array Value) (hg:w.heap[g]?=some (.cells cur 119 (0,0))) (hs:cur.size=c*6) (hc:c≤9223372036854775807) (hi:i<n)
  (gv m vc:Nat) (curv:Array Value) (Tv:TypeId) (hgv:w.heap[gv]?=some (.cells curv Tv (0,0))) (hmv:m*6≤curv.size) (hne:gv≠g) (us:List Value) (hul:us=curv.toList.take (m*6)) (h1u:∀ v ∈ us,v.oneCell'=true) (hm:0<m) (hroom:n+m≤c)
  (h1:∀ v ∈ cur.toList.take (n*6),v.oneCell'=true) :
  Calls Tryz.prog 79 #[.slice (some ⟨g,0,none⟩) n c,.int .i64 i,.slice (some ⟨gv,0,none⟩) m vc] w fun e w'=>e = .returned (.slice (some ⟨g,0,none⟩) (n+m) c) ∧
   ∃ A,w'=w.drew.setRow g A∧A.size=cur.size∧A.toList.take ((n+m)*6)=(cur.toList.take (n*6)).take (i*6)++us++(cur.toList.take (n*6)).drop (i*6):=by
 have hsz:(Tryz.prog.info? 119).map (·.size)=some 6:=by kernel_rfl
 have hul2:us.length=m*6:=by rw [hul,List.length_take,Array.length_toList];omega
 have hov:∀ lb cb,(callFunc 140 #[.slice (some ⟨gv,0,none⟩) m vc,.slice (some ⟨g,(i+m)*6,none⟩) lb cb]).run Tryz.prog w = .ok (.value (.bool false)) w:=fun lb cb=>by
  rw [run_callFunc_extern Tryz.func140 (by kernel_rfl) (by kernel_rfl) (by kernel_rfl) (e:=Extern.SlicesOverlaps.overlaps #[114,114] #[4]) (by kernel_rfl),
   Lib.run_overlaps_apart w 114 4 119 Tryz.underlying114 6 Tryz.sizeOf119 ⟨gv,0,none⟩ ⟨g,(i+m)*6,none⟩ m vc lb cb hne Tv 119 curv.size cur.size (by simp [World.shape?,hgv]) (by simp [World.shape?,hg]) (by omega) (by simp [World.frozen?,hgv]) (by simp [World.frozen?,hgv])]
  rfl
 obtain ⟨mv,hmv2⟩:∃ mv,mv=(cur.toList.take (n*6)).drop (i*6):=⟨_,rfl⟩
 have hml:mv.length=(n - i)*6:=by rw [hmv2];simp [hs];omega
 have hgd:w.drew.heap[g]?=some (.cells cur 119 (0,0)):=hg
 obtain ⟨B,hB⟩:∃ B,B=(cur.toList.take ((i+m)*6)++mv++cur.toList.drop ((i+m)*6+mv.length)).toArray:=⟨_,rfl⟩
 have hcp1:∀ ty dc sc,(Builtin.copy_ #[114,114] ty #[.slice (some ⟨g,(i+m)*6,none⟩) (n+m - (i+m)) dc,.slice (some ⟨g,i*6,none⟩) (n+m - i) sc]).run Tryz.prog w.drew = .ok (goInt (n - i)) (w.drew.setRow g B):=fun ty dc sc=>by
  have:=cJ_ (P:=Tryz.prog) w.drew 114 114 ty 119 6 g ((i+m)*6) (n+m - (i+m)) dc ⟨g,i*6,none⟩ (n+m - i) sc cur 119 mv Tryz.underlying114 hsz hgd (by rw [hml];simp only [Nat.min_def];split<;>omega)
   (fun j v hj=>by
     have hj2:=(List.getElem?_eq_some_iff.1 hj).1
     rw [hmv2,List.getElem?_drop,List.getElem?_take_of_lt (by omega),Array.getElem?_toList] at hj
     rw [Addr.add_lit]
     simp only [World.cell?,hgd]
     exact hj) (by rw [hml,hs];omega) (fun v hv=>h1 v (by rw [hmv2] at hv;exact List.mem_of_mem_drop hv))
  rw [this,hB]
  congr 2
  simp only [Nat.min_def];split<;>omega
 have hBs:B.size=cur.size:=by rw [hB];simp [hml,hs];omega
 have hgB:(w.drew.setRow g B).heap[g]?=some (.cells B 119 (0,0)):=setRow_heap _ _ _ _ _ _ hgd
 obtain ⟨A,hA⟩:∃ A,A=(B.toList.take (i*6)++us++B.toList.drop (i*6+us.length)).toArray:=⟨_,rfl⟩
 have hcp2:∀ ty dc,(Builtin.copy_ #[114,114] ty #[.slice (some ⟨g,i*6,none⟩) (n+m - i) dc,.slice (some ⟨gv,0,none⟩) m vc]).run Tryz.prog (w.drew.setRow g B) = .ok (goInt m) (w.drew.setRow g A):=fun ty dc=>by
  have:=cJ_ (P:=Tryz.prog) (w.drew.setRow g B) 114 114 ty 119 6 g (i*6) (n+m - i) dc ⟨gv,0,none⟩ m vc B 119 us Tryz.underlying114 hsz hgB (by rw [hul2];simp only [Nat.min_def];split<;>omega)
   (fun j v hj=>by
     have hj2:=(List.getElem?_eq_some_iff.1 hj).1
     rw [hul,List.getElem?_take_of_lt (by omega),Array.getElem?_toList] at hj
     rw [Addr.add_lit,Nat.zero_add]
     have e:(w.drew.setRow g B).heap[gv]?=some (.cells curv Tv (0,0)):=by rw [setRow_other _ _ _ _ hne];exact hgv
     simp only [World.cell?,e]
     exact hj) (by rw [hul2,hBs,hs];omega) h1u
  rw [this,hA,setRow_setRow]
  congr 2
  simp only [Nat.min_def];split<;>omega
 have kA:Hid (A.size=cur.size∧A.toList.take ((n+m)*6)=(cur.toList.take (n*6)).take (i*6)++us++mv):=by
  have e1:B.toList.take (i*6)=(cur.toList.take (n*6)).take (i*6):=by
   rw [hB];simp only [List.toList_toArray,List.append_assoc]
   rw [List.take_append_of_le_length (by simp [hs];omega),List.take_take,List.take_take]
   congr 1;omega
  have e2:(B.toList.drop (i*6+us.length)).take mv.length=mv:=by
   rw [hB];simp only [List.toList_toArray,List.append_assoc]
   rw [List.drop_append,List.drop_eq_nil_of_le (by simp [hul2,hs];omega),List.nil_append,List.length_take,show i*6+us.length - min ((i+m)*6) cur.toList.length=0 by simp [hul2,hs];omega,List.drop_zero,List.take_append_of_le_length (Nat.le_refl _),List.take_of_length_le (Nat.le_refl _)]
  refine ⟨by rw [hA];simp [hul2,hBs,hs];omega,?_⟩
  rw [hA];simp only [List.toList_toArray]
  rw [List.take_append,List.take_of_length_le (by simp [hul2,hBs,hs];omega),e1]
  congr 1
  rw [show (n+m)*6 - (List.take (i*6) (List.take (n*6) cur.toList)++us).length=mv.length by simp [hul2,hml,hs];omega]
  exact e2
 rw [hmv2] at kA
 have hnc:n≤c:=by omega
 have hic:i≤c:=by omega
 have hz1:¬ ((m:Int)=0):=by omega
 have hz2:¬ ((i:Int)=(n:Int)):=by omega
 have mixed:Tryz.prog.follows .mixedOrders=true:=by kernel_rfl
 have hw1:IntKind.i64.wrap ((i:Int)+(m:Int))=(i:Int)+(m:Int):=by rw [IntKind.wrap_i64];omega
 have hb1:(0:Int)≤(i:Int)+(m:Int):=by omega
 have hin:i≤n:=by omega
 have htn:((i:Int)+(m:Int)).toNat=i+m:=by omega
 have hb2:¬ (c=i+m):=by omega
 have hb3:(i:Int)≤(n:Int)+(m:Int):=by omega
 have hb4:¬ (c=i):=by omega
 clear hB hBs hgB hA hmv2 hml hgd hg hgv hul hul2 h1 h1u hsz hs hmv
 go_enter Tryz.func79,Tryz.ntmps79
 go_wp2_with (simp only [hov])
 go_region_law_o (refine dU_ rfl _ _ 114 114 rfl _ _ (by simp [Act.eval,Act.put]) (by simp [Act.eval,Act.put]) (hcp1 _ _ _) ?_)
 go_wp2_with (at_builtin;refine e4_ _ rfl _ _ 114 114 rfl _ _ rfl rfl (hcp2 _ _) ?_)
 go_ret
 exact ⟨rfl,A,rfl,kA.out.1,kA.out.2⟩
set_option maxRecDepth 1000000 in
theorem InsGrow79 (w:World) (g n c i:Nat) (cur:Array Value) (hg:w.heap[g]?=some (.cells cur 119 (0,0))) (hs:cur.size=c*6) (hnc:n≤c) (hi:i<n)
  (gv m vc:Nat) (curv:Array Value) (Tv:TypeId) (hgv:w.heap[gv]?=some (.cells curv Tv (0,0))) (hmv:m*6≤curv.size) (us:List Value) (hul:us=curv.toList.take (m*6)) (h1u:∀ v ∈ us,v.oneCell'=true) (hm:0<m) (hroom:c<n+m)
  (hbig:(n+m)*88≤140737488355328) (h1:∀ v ∈ cur.toList.take (n*6),v.oneCell'=true) :
  Calls Tryz.prog 79 #[.slice (some ⟨g,0,none⟩) n c,.int .i64 i,.slice (some ⟨gv,0,none⟩) m vc] w fun e w'=>∃ C A,e = .returned (.slice (some ⟨w.heap.size,0,none⟩) (n+m) C)∧n+m≤C∧C≤maxLen ∧
   w'.heap[w.heap.size]?=some (.cells A 119 (0,0))∧A.size=C*6∧A.toList.take ((n+m)*6)=(cur.toList.take (n*6)).take (i*6)++us++(cur.toList.take (n*6)).drop (i*6)∧w.grownBy w' none:=by
 obtain ⟨i0,hi0⟩:=Option.isSome_iff_exists.1 (show (Tryz.prog.info? 119).isSome=true by kernel_rfl)
 have hz0:i0.size=6:=by
  have:(Tryz.prog.info? 119).map (·.size)=some 6:=by kernel_rfl
  rw [hi0] at this;simpa using this
 have hz1:i0.bytes=88:=by
  have:(Tryz.prog.info? 119).map (·.bytes)=some 88:=by kernel_rfl
  rw [hi0] at this;simpa using this
 have hz2:i0.zero=some (.agg #[.int .i64 0,.int .i64 0,.int .i64 0,.string ByteArray.empty,.slice none 0 0,.slice none 0 0]):=by
  have:(Tryz.prog.info? 119).bind (·.zero)=some (.agg #[.int .i64 0,.int .i64 0,.int .i64 0,.string ByteArray.empty,.slice none 0 0,.slice none 0 0]):=by kernel_rfl
  rw [hi0] at this;simpa using this
 obtain ⟨G,N,W1,R1,W2,A,hNN,hGn,hGm,hrz,hcp1,hW2',hcp2,kA⟩:=insGrow79 114 119 3 _ i0 Tryz.underlying114 Tryz.underlying3 hi0 hz2 hz0 hz1 rfl w g n c i cur hg hs hnc hi gv m vc curv Tv hgv hmv us hul h1u hm hroom hbig h1
 have hic:i≤c:=by omega
 have hz3:¬ ((m:Int)=0):=by omega
 have hz4:¬ ((i:Int)=(n:Int)):=by omega
 have hz5:(c:Int)<(n:Int)+(m:Int):=by omega
 have mixed:Tryz.prog.follows .mixedOrders=true:=by kernel_rfl
 have hG63:G≤9223372036854775807:=by unfold maxLen at hGm;omega
 have hw1:IntKind.i64.wrap ((n:Int)+(m:Int))=(n:Int)+(m:Int):=by rw [IntKind.wrap_i64];omega
 have hw2:IntKind.i64.wrap ((n:Int)+(m:Int) - (i:Int))=(n:Int)+(m:Int) - (i:Int):=by rw [IntKind.wrap_i64];omega
 have hw3:IntKind.i64.wrap ((i:Int)+(m:Int))=(i:Int)+(m:Int):=by rw [IntKind.wrap_i64];omega
 have hb1:(0:Int)≤(i:Int)+(m:Int):=by omega
 have htn:((i:Int)+(m:Int)).toNat=i+m:=by omega
 have hGi:¬ (G=i):=by omega
 have hGim:¬ (G=i+m):=by omega
 have hb3:(i:Int)≤(n:Int)+(m:Int):=by omega
 have hb4:¬ (c=i):=by omega
 have hinm:i≤n+m:=by omega
 have himn:i+m≤n+m:=by omega
 have hin:i≤n:=by omega
 clear hul h1 h1u hg hgv hs hmv hz0 hz1 hz2 hi0 hbig
 go_enter Tryz.func79,Tryz.ntmps79
 go_wp2_with (at_builtin;refine Lib.wpList_append_run _ rfl _ _ 114 3 rfl _ _ rfl rfl _ _ (hrz _) ?_)
 go_region_law_o (simp only [hW2'];refine dU_ rfl _ _ 114 114 rfl _ _ (by simp [Act.eval,Act.put]) (by simp [Act.eval,Act.put]) (hcp2 _ _ _) ?_)
 go_wp2_with fail
 go_ret
 exact ⟨G,A,by rw [hNN.out];rfl,kA.out⟩
theorem insM79:InsM Tryz.prog 79 119 6 88:=by
 intro w S n vals U m us i hS hU hdis hi h1 h1u hb
 have hvl:=hS.1
 by_cases hm:m=0
 · subst hm
   have hus:us=[]:=by have:=hU.1;rw [Nat.zero_mul] at this;exact List.eq_nil_of_length_eq_zero this
   subst hus
   refine (InsNone79 w S n i vals hS U [] hU hi).mono ?_
   rintro e w' ⟨rfl,rfl⟩
   refine ⟨S,rfl,by rw [List.append_nil,List.take_append_drop];exact hS,⟨rfl,rfl,rfl,Nat.le_refl _,fun _ _ _=>rfl⟩,fun b hb=>⟨.inr hb,l1_ hS b hb⟩⟩
 · rcases hU.2 with ⟨rfl,h0⟩|⟨gv,vc,curv,rfl,-,hgv,hmc,hcm,hcs,htake⟩
   · exact absurd h0 hm
   · by_cases hin:i=n
     · subst hin
       rw [List.take_of_length_le (by omega),List.drop_eq_nil_of_le (by omega),List.append_nil]
       exact InsEnd79 w S i vals hS gv m vc us hU.1 (fun j u h=>by have:=hU.cells (g:=gv) rfl j u h;rwa [Addr.add_lit,Nat.zero_add] at this) h1u (by omega) hb
     · rcases hS.2 with ⟨rfl,h0⟩|⟨g,c,cur,rfl,-,hg,hnc,hcm',hcs',htake'⟩
       · omega
       · have hne:gv≠g:=fun e=>by subst e;have:=hdis gv (by simp [cf_]);simp [cf_] at this
         have hmv:m*6≤curv.size:=by rw [hcs];exact Nat.mul_le_mul_right _ hmc
         by_cases hroom:n+m≤c
         · refine (qp_ w g n c i cur hg hcs' (by unfold maxLen at hcm';omega) (by omega) gv m vc curv 119 hgv hmv hne us htake.symm h1u (by omega) hroom (by rw [htake'];exact h1)).mono ?_
           rintro e w' ⟨rfl,A,rfl,hA,ht⟩
           rw [htake'] at ht
           have hgd:w.drew.heap[g]?=some (.cells cur 119 (0,0)):=hg
           have hA2:=setRow_heap w.drew g cur A _ _ hgd
           refine ⟨_,rfl,⟨by rw [←ht];simp [hA,hcs'];omega,.inr ⟨g,c,A,rfl,Nat.zero_le _,hA2,hroom,hcm',by rw [hA,hcs'],ht⟩⟩,⟨rfl,rfl,rfl,iE_ w g A,fun b _ hn => ?_⟩,fun b hb=>⟨.inr hb,?_⟩⟩
           · rw [setRow_other _ _ _ _ (fun e=>hn (by subst e;simp [cf_]))];rfl
           · have:g=b:=by simp only [cf_] at hb;exact Classical.byContradiction fun h=>hb (if_neg h)
             subst this
             exact (Array.getElem?_eq_some_iff.1 hA2).1
         · refine (InsGrow79 w g n c i cur hg hcs' hnc (by omega) gv m vc curv 119 hgv hmv us htake.symm h1u (by omega) (by omega) hb (by rw [htake'];exact h1)).mono ?_
           rintro e w' ⟨C,A,rfl,hC,hCm,hN,hA,ht,hgr⟩
           rw [htake'] at ht
           refine ⟨_,rfl,⟨by rw [←ht];simp [hA];omega,.inr ⟨_,C,A,rfl,Nat.zero_le _,hN,hC,hCm,hA,ht⟩⟩,⟨hgr.os,hgr.tape,hgr.output,hgr.size,fun b hb _=>hgr.block b hb (by simp)⟩,fun b hb => ?_⟩
           have:w.heap.size=b:=by simp only [cf_] at hb;exact Classical.byContradiction fun h=>hb (if_neg h)
           subst this
           exact ⟨.inl (Nat.le_refl _),(Array.getElem?_eq_some_iff.1 hN).1⟩
end Go.Proofs
namespace Go.Pi
open Go.Proofs
theorem bY_.ok (n:Nat):bY_.e.Oks E (cx n) n:=fun _ _ _ _ h=>n5_ (t:=.ikeyed) (m1:=.s) (m2:=.s) (by decide) (by decide) insM79 h
end Go.Pi
end
section
namespace Go.Proofs
open Go.Shelf
def Tryz.laysM171_ren:Go.Shelf.Ren:=⟨fun|171=>108|243=>157|246=>196|283=>213|284=>214|285=>215|286=>216|129=>230|317=>229|318=>231|319=>232|320=>233|337=>243|338=>244|n=>n,fun|3=>3|9=>9|2=>2|4=>4|171=>224|0=>0|53=>225|37=>22|5=>5|173=>228|212=>242|51=>243|20=>20|213=>244|46=>177|232=>261|233=>262|n=>n,fun|17=>0|18=>4|19=>5|n=>n⟩
theorem Tryz.laysM171:Go.Proofs.LaysM.n171 Tryz.prog Tryz.laysM171_ren:={
 mixed:=by kernel_rfl
 f129:=Tryz.func230.trans (congrArg some (by kernel_rfl))
 f171:=Tryz.func108.trans (congrArg some (by kernel_rfl))
 f243:=Tryz.func157.trans (congrArg some (by kernel_rfl))
 f246:=Tryz.func196.trans (congrArg some (by kernel_rfl))
 f283:=Tryz.func213.trans (congrArg some (by kernel_rfl))
 f284:=Tryz.func214.trans (congrArg some (by kernel_rfl))
 f285:=Tryz.func215.trans (congrArg some (by kernel_rfl))
 f286:=Tryz.func216.trans (congrArg some (by kernel_rfl))
 f317:=Tryz.func229.trans (congrArg some (by kernel_rfl))
 f318:=Tryz.func231.trans (congrArg some (by kernel_rfl))
 f319:=Tryz.func232.trans (congrArg some (by kernel_rfl))
 f320:=Tryz.func233.trans (congrArg some (by kernel_rfl))
 f337:=Tryz.func243.trans (congrArg some (by kernel_rfl))
 f338:=Tryz.func244.trans (congrArg some (by kernel_rfl))
 t0:=Tryz.underlying0
 a0:=Tryz.isAgg0
 z0:=Tryz.sizeOf0
 v0:=Tryz.zeroValue0
 t2:=Tryz.underlying2
 a2:=Tryz.isAgg2
 z2:=Tryz.sizeOf2
 v2:=Tryz.zeroValue2
 t3:=Tryz.underlying3
 a3:=Tryz.isAgg3
 z3:=Tryz.sizeOf3
 v3:=Tryz.zeroValue3
 t4:=Tryz.underlying4
 a4:=Tryz.isAgg4
 z4:=Tryz.sizeOf4
 v4:=Tryz.zeroValue4
 t5:=Tryz.underlying5
 a5:=Tryz.isAgg5
 z5:=Tryz.sizeOf5
 v5:=Tryz.zeroValue5
 t9:=Tryz.underlying9
 a9:=Tryz.isAgg9
 z9:=Tryz.sizeOf9
 v9:=Tryz.zeroValue9
 t20:=Tryz.underlying20
 a20:=Tryz.isAgg20
 z20:=Tryz.sizeOf20
 v20:=Tryz.zeroValue20
 t37:=Tryz.underlying22
 a37:=Tryz.isAgg22
 z37:=Tryz.sizeOf22
 v37:=Tryz.zeroValue22
 t46:=Tryz.underlying177
 a46:=Tryz.isAgg177
 z46:=Tryz.sizeOf177
 v46:=Tryz.zeroValue177
 t51:=Tryz.underlying243
 a51:=Tryz.isAgg243
 z51:=Tryz.sizeOf243
 v51:=Tryz.zeroValue243
 t53:=Tryz.underlying225
 a53:=Tryz.isAgg225
 z53:=Tryz.sizeOf225
 v53:=Tryz.zeroValue225
 t171:=Tryz.underlying224
 a171:=Tryz.isAgg224
 z171:=Tryz.sizeOf224
 v171:=Tryz.zeroValue224
 t173:=Tryz.underlying228
 a173:=Tryz.isAgg228
 z173:=Tryz.sizeOf228
 v173:=Tryz.zeroValue228
 t212:=Tryz.underlying242
 a212:=Tryz.isAgg242
 z212:=Tryz.sizeOf242
 v212:=Tryz.zeroValue242
 t213:=Tryz.underlying244
 a213:=Tryz.isAgg244
 z213:=Tryz.sizeOf244
 t232:=Tryz.underlying261
 a232:=Tryz.isAgg261
 z232:=Tryz.sizeOf261
 v232:=Tryz.zeroValue261
 t233:=Tryz.underlying262
 a233:=Tryz.isAgg262
 z233:=Tryz.sizeOf262
 v233:=Tryz.zeroValue262
 g17:=by kernel_rfl
 g18:=by kernel_rfl
 g19:=by kernel_rfl
 i0:=by kernel_rfl
 i2:=by kernel_rfl
 i3:=by kernel_rfl
 i4:=by kernel_rfl
 i5:=by kernel_rfl
 i9:=by kernel_rfl
 i20:=by kernel_rfl
 i37:=by kernel_rfl
 i46:=by kernel_rfl
 i51:=by kernel_rfl
 i53:=by kernel_rfl
 i171:=by kernel_rfl
 i173:=by kernel_rfl
 i212:=by kernel_rfl
 i232:=by kernel_rfl
 i233:=by kernel_rfl
 m17:=by kernel_rfl
 m18:=by kernel_rfl
 m19:=by kernel_rfl }
open Go.RowKit Go.Sort Go.Lib in
theorem Tryz.strconv_Itoa (n:Int) (h0 : -9223372036854775808≤n) (h1:n≤9223372036854775807) (w:World) (htab:Lib.TabIs Tryz.prog w "internal/strconv.uint64pow10" .u64 Lib.pow10Tab) :
  Calls Tryz.prog 108 #[.int .i64 n] w fun e w'=>e = .returned (.string ⟨(Lib.itoa n).toArray⟩)∧∃ k os,w'=grow (w.drewN k) os:=Any.strconv_Itoa Tryz.laysM171 n h0 h1 w htab
end Go.Proofs
namespace Go.Pi
open Go.Proofs
theorem ks_:E.P.globalNamed "internal/strconv.uint64pow10" = some 0:=by kernel_rfl
theorem strconv_Itoa.ok (n:Nat):strconv_Itoa.e.Oks E (cx n) n:=fun _ _ _ _ h=>nItoa_ok (fun n h0 h1 w ht=>Tryz.strconv_Itoa n h0 h1 w ht) (.head _) ks_ h
end Go.Pi
end
section
namespace Go.Pi
open Go.RowKit
def JoinM (P:Program) (f:FuncId):Prop :=
 (∀ (a:Option Addr) (c:Nat) (sep:ByteArray) (w:World),Calls P f #[.slice a 0 c,.string sep] w fun e w'=>e = .returned (.string ⟨#[]⟩)∧w'=w) ∧
 ∀ (bk o c:Nat) (xs:List ByteArray) (sep:ByteArray) (w:World),(∀ (j:Nat) x,xs[j]?=some x→w.cell? ⟨bk,o+j,none⟩=some (.string x))→bk<w.heap.size→xs.length≤140737488355328→xs.length≤c →
   (Lib.join (xs.map (·.data.toList)) sep.data.toList).length≤140737488355328→Calls P f #[.slice (some ⟨bk,o,none⟩) xs.length c,.string sep] w fun e w'=>e = .returned (.string ⟨(Lib.join (xs.map (·.data.toList)) sep.data.toList).toArray⟩)∧Below w.heap.size w w'
def ReplM (P:Program) (f:FuncId) (g:Nat):Prop:=∀ (s old new:ByteArray) (m:Int) (w:World),s.size<4294967281→w.cell? ⟨g,0,none⟩=some (.int .i64 m)→1≤old.size→s.size+Lib.count s.data.toList old.data.toList*new.size≤140737488355328 →
 Calls P f #[.string s,.string old,.string new] w fun e w'=>e = .returned (.string ⟨(Lib.replaceAll s.data.toList old.data.toList new.data.toList).toArray⟩)∧Below w.heap.size w w'
variable [ah_]
open ah_
variable {E:Env}
theorem mI_ {w:World} {F:Nat→Prop} (hs:∀ x:El .str,enc .v .str x=[.s x]):∀ (xs:List (El .str)) (vals:List Value) (z:Nat→Nat),RL E w F (aR_ .v .str xs) vals z→vals=List.map (fun x:Bs=>Value.string ⟨x.toArray⟩) xs
 |[],vals,z,h=>(RL.nil_inv (show RL E w F [] vals z from h)).1
 |x::xs,vals,z,h=>by
  have h:RL E w F (enc .v .str x++aR_ .v .str xs) vals z:=by simpa [aR_] using h
  rw [hs,List.singleton_append] at h
  obtain ⟨v,vs,φ₁,φ₂,rfl,k1,k2,_⟩:=RL.uncons h
  have e:=mI_ hs xs vs φ₂ k2
  have e1:v = .string ⟨x.toArray⟩:=by
   cases k1 with
   |scal _ _ _ _ _ h1 h2=>exact h1
  subst e1
  exact congrArg (List.cons _) e
omit [ah_] in
theorem data_toList (x:Bs):(⟨x.toArray⟩:ByteArray).data.toList=x:=rfl
theorem l3_ [aj_] {w w':World} {F:Nat→Prop} {φ:Nat→Nat} {r:Bs} {ps:List PS} {Vs:List Value} (hp:PS.outsAll ps Vs=[]) (h:Below w.heap.size w w') :
  ∃ V φ',Ending.returned (.string ⟨r.toArray⟩) = .returned V∧RL E w' (fun b=>(F b∧φ b=0)∨φ' b≠0) (.s r::[]) (V::PS.outsAll ps Vs) φ'∧(∀ b,φ' b≤1)∧(∀ b,φ' b≠0→φ b≠0∨w.heap.size≤b) ∧
    w'.os=w.os∧w'.tape=w.tape∧w'.output=w.output∧w.heap.size≤w'.heap.size∧∀ b,b<w.heap.size→φ b=0→w'.heap[b]?=w.heap[b]? :=
 ⟨_,fun _=>0,rfl,by rw [hp];exact .scal _ _ _ _ _ rfl (.nil _ fun _=>rfl),fun _=>Nat.zero_le _,fun b hb=>absurd rfl hb,h.os,h.tape,h.output,h.size,fun b hb _=>h.block b hb⟩
omit [ah_] in
theorem pX_ {xs:List Bs} {sep r:Bs} (hr:nJoin xs sep=some r):xs.length≤140737488355328∧(Lib.join xs sep).length≤140737488355328∧r=Lib.join xs sep:=by
 unfold nJoin at hr
 by_cases h1:xs.length≤140737488355328
 · by_cases h2:(Lib.join xs sep).length≤140737488355328
   · rw [decide_eq_true h1,decide_eq_true h2] at hr
     exact ⟨h1,h2,(Option.some.inj hr).symm⟩
   · rw [decide_eq_false h2,Bool.and_false] at hr;cases hr
 · rw [decide_eq_false h1,Bool.false_and] at hr;cases hr
omit [ah_] in
theorem join_view {P:Program} {f:FuncId} (h:JoinM P f) {xs:List Bs} {sep:Bs} {w:World} {b o cap:Nat} (hra:w.rangeAt b o (xs.map fun x=>Value.string ⟨x.toArray⟩)) (hlt:b<w.heap.size) (h1:xs.length≤140737488355328) (hcap:xs.length≤cap) (h2:(Lib.join xs sep).length≤140737488355328) :
  Calls P f #[.slice (some ⟨b,o,none⟩) xs.length cap,.string ⟨sep.toArray⟩] w fun e w'=>e = .returned (.string ⟨(Lib.join xs sep).toArray⟩)∧Below w.heap.size w w':=by
 have hm:(xs.map (fun x:Bs=>(⟨x.toArray⟩:ByteArray))).map (·.data.toList)=xs:=by
  rw [List.map_map];exact List.map_id _
 have hlen:(xs.map (fun x:Bs=>(⟨x.toArray⟩:ByteArray))).length=xs.length:=List.length_map _
 have:=h.2 b o cap (xs.map (fun x:Bs=>(⟨x.toArray⟩:ByteArray))) ⟨sep.toArray⟩ w (fun j x hj=>hra j _ (by
  rw [List.getElem?_map]
  rw [List.getElem?_map] at hj
  cases hx:xs[j]? with
  |none=>rw [hx] at hj;cases hj
  |some y=>rw [hx] at hj;cases hj;rfl)) hlt (by rw [hlen];exact h1) (by rw [hlen];exact hcap) (by rw [hm];exact h2)
 rw [hm,hlen] at this
 exact this
theorem nJoin_ok [aj_] {f:FuncId} (h:JoinM E.P f) (hs:∀ x:El .str,enc .v .str x=[.s x]) {xs:List (El .str)} {sep r:Bs} (hr:nJoin xs sep=some r):ei_ E f [.sl .v .str xs,.s sep] (.s r) [] [.v,.v]:=by
 obtain ⟨hc1,hc2,rfl⟩:=pX_ hr
 intro w F Vs φ hrl h1 hlow hgl
 obtain ⟨v,vs,φ₁,φ₂,rfl,k1,k2,e⟩:=RL.uncons hrl
 obtain ⟨v2,vs2,φ₃,φ₄,rfl,k3,k4,e'⟩:=RL.uncons k2
 obtain ⟨rfl,e2⟩:=RL.nil_inv k4
 have e3:v2 = .string ⟨sep.toArray⟩:=by
  cases k3 with
  |scal _ _ _ _ _ h1 h2=>exact h1
 subst e3
 cases k1 with
 |scal _ _ _ _ _ hsc _=>exact hsc.elim
 |own m t xs v vals φ₁ l vs φ₂ φ hm=>exact absurd rfl hm
 |view t xs a n cap vals z l vs φ hn hel hz hb _=>
  obtain ⟨rfl,hcap⟩:=hn
  by_cases h0:0<xs.length
  · obtain ⟨b,o,rfl,hra,hlt,hF⟩:=hb h0
    have hv:=mI_ hs xs vals z hel
    subst hv
    have:=join_view h (xs:=xs) (sep:=sep) hra hlt hc1 hcap hc2
    refine this.mono ?_
    rintro e w' ⟨rfl,hbel⟩
    exact l3_ rfl hbel
  · have hx:xs=[]:=List.eq_nil_of_length_eq_zero (by omega)
    subst hx
    refine (h.1 a cap ⟨sep.toArray⟩ w).mono ?_
    rintro e w' ⟨rfl,rfl⟩
    exact l3_ rfl (Below.refl _ _)
omit [ah_] in
theorem glob_int {w:World} {F:Nat→Prop} (h:Glob E w F) {g:Nat} (hm:(g,fun cs=>∃ m,cs[0]?=some (Value.int .i64 m)) ∈ E.globs):∃ m,w.cell? ⟨g,0,none⟩=some (.int .i64 m):=by
 obtain ⟨⟨cs,T,fr,h1,hc⟩,_⟩:=h _ hm
 obtain ⟨m,hm⟩:∃ m,cs[0]?=some (Value.int .i64 m):=hc
 refine ⟨m,?_⟩
 unfold World.cell?
 simp only [h1]
 exact hm
omit [ah_] in
theorem int_glob {w:World} {g:Nat} {m:Int} (h:w.cell? ⟨g,0,none⟩=some (.int .i64 m)):∃ cs T fr,w.heap[g]?=some (.cells cs T fr)∧∃ m,cs[0]?=some (Value.int .i64 m):=by
 unfold World.cell? at h
 split at h
 · rename_i cs T fr hh
   exact ⟨cs,T,fr,hh,m,h⟩
 · cases h
theorem nRepl_ok [aj_] {f:FuncId} {g:Nat} (h:ReplM E.P f g) (hm:(g,fun cs=>∃ m,cs[0]?=some (Value.int .i64 m)) ∈ E.globs) {s old new r:Bs} (hr:gg_ s old new=some r):ei_ E f [.s s,.s old,.s new] (.s r) [] [.v,.v,.v]:=by
 unfold gg_ at hr
 by_cases hc:s.length<4294967281∧1≤old.length∧s.length+Lib.count s old*new.length≤140737488355328
 · rw [decide_eq_true hc.1,decide_eq_true hc.2.1,decide_eq_true hc.2.2] at hr
   simp only [Bool.and_self,cond_true,Option.some.injEq] at hr
   subst hr
   intro w F Vs φ hrl h1 hlow hgl
   obtain ⟨v,vs,φ₁,φ₂,rfl,k1,k2,e⟩:=RL.uncons hrl
   obtain ⟨v2,vs2,φ₃,φ₄,rfl,k3,k4,e'⟩:=RL.uncons k2
   obtain ⟨v3,vs3,φ₅,φ₆,rfl,k5,k6,e''⟩:=RL.uncons k4
   obtain ⟨rfl,e2⟩:=RL.nil_inv k6
   have e1:v = .string ⟨s.toArray⟩:=by
    cases k1 with
    |scal _ _ _ _ _ h1 h2=>exact h1
   have e3:v2 = .string ⟨old.toArray⟩:=by
    cases k3 with
    |scal _ _ _ _ _ h1 h2=>exact h1
   have e4:v3 = .string ⟨new.toArray⟩:=by
    cases k5 with
    |scal _ _ _ _ _ h1 h2=>exact h1
   subst e1 e3 e4
   obtain ⟨m,hmv⟩:=glob_int hgl hm
   refine (h ⟨s.toArray⟩ ⟨old.toArray⟩ ⟨new.toArray⟩ m w hc.1 hmv hc.2.1 hc.2.2).mono ?_
   rintro e w' ⟨rfl,hbel⟩
   exact l3_ rfl hbel
 · have:(decide (s.length<4294967281)&&(decide (1≤old.length)&&decide (s.length+Lib.count s old*new.length≤140737488355328)))=false:=by
    rw [Bool.eq_false_iff];intro h;simp only [Bool.and_eq_true,decide_eq_true_eq] at h;exact hc h
   rw [this] at hr;cases hr
end Go.Pi
end
section
namespace Go.Proofs
open Go.Shelf
def Tryz.lays156_ren:Go.Shelf.Ren:=⟨fun|156=>109|165=>158|166=>159|169=>160|240=>197|241=>198|276=>217|277=>218|n=>n,fun|31=>44|9=>9|3=>3|4=>4|0=>0|20=>20|72=>180|76=>184|70=>178|37=>22|75=>183|127=>212|164=>230|5=>5|80=>186|n=>n,fun|n=>n⟩
theorem Tryz.lays156:Go.Proofs.Lays.n156 Tryz.prog Tryz.lays156_ren:={
 mixed:=by kernel_rfl
 f156:=Tryz.func109.trans (congrArg some (by kernel_rfl))
 f165:=Tryz.func158.trans (congrArg some (by kernel_rfl))
 f166:=Tryz.func159.trans (congrArg some (by kernel_rfl))
 f169:=Tryz.func160.trans (congrArg some (by kernel_rfl))
 f240:=Tryz.func197.trans (congrArg some (by kernel_rfl))
 f241:=Tryz.func198.trans (congrArg some (by kernel_rfl))
 f276:=Tryz.func217.trans (congrArg some (by kernel_rfl))
 f277:=Tryz.func218.trans (congrArg some (by kernel_rfl))
 t0:=Tryz.underlying0
 a0:=Tryz.isAgg0
 z0:=Tryz.sizeOf0
 v0:=Tryz.zeroValue0
 t3:=Tryz.underlying3
 a3:=Tryz.isAgg3
 z3:=Tryz.sizeOf3
 v3:=Tryz.zeroValue3
 t4:=Tryz.underlying4
 a4:=Tryz.isAgg4
 z4:=Tryz.sizeOf4
 v4:=Tryz.zeroValue4
 t9:=Tryz.underlying9
 a9:=Tryz.isAgg9
 z9:=Tryz.sizeOf9
 v9:=Tryz.zeroValue9
 t20:=Tryz.underlying20
 a20:=Tryz.isAgg20
 z20:=Tryz.sizeOf20
 v20:=Tryz.zeroValue20
 t31:=Tryz.underlying44
 a31:=Tryz.isAgg44
 z31:=Tryz.sizeOf44
 v31:=Tryz.zeroValue44
 t37:=Tryz.underlying22
 a37:=Tryz.isAgg22
 z37:=Tryz.sizeOf22
 v37:=Tryz.zeroValue22
 t70:=Tryz.underlying178
 a70:=Tryz.isAgg178
 z70:=Tryz.sizeOf178
 v70:=Tryz.zeroValue178
 t72:=Tryz.underlying180
 a72:=Tryz.isAgg180
 z72:=Tryz.sizeOf180
 v72:=Tryz.zeroValue180
 t75:=Tryz.underlying183
 a75:=Tryz.isAgg183
 z75:=Tryz.sizeOf183
 v75:=Tryz.zeroValue183
 t76:=Tryz.underlying184
 a76:=Tryz.isAgg184
 z76:=Tryz.sizeOf184
 v76:=Tryz.zeroValue184
 t127:=Tryz.underlying212
 a127:=Tryz.isAgg212
 z127:=Tryz.sizeOf212
 v127:=Tryz.zeroValue212
 t164:=Tryz.underlying230
 a164:=Tryz.isAgg230
 z164:=Tryz.sizeOf230
 v164:=Tryz.zeroValue230 }
theorem Tryz.Builder_Extra_156:Builder.Extra Tryz.prog Tryz.lays156_ren:={
 sizeBuilder:=by kernel_rfl
 liesBuilder:=by kernel_rfl
 t5:=Tryz.underlying5
 a5:=Tryz.isAgg5
 z5:=Tryz.sizeOf5
 v5:=Tryz.zeroValue5
 infoByte:=by kernel_rfl
 cellsByte:=by kernel_rfl
 sizeByte:=by kernel_rfl
 neB5:=by decide }
open Go.RowKit Go.Sort Go.Lib in
theorem Tryz.strings_Join_none (a:Option Addr) (c:Nat) (sep:ByteArray) (w:World) :
  Calls Tryz.prog 109 #[.slice a 0 c,.string sep] w fun e w'=>e = .returned (.string ⟨#[]⟩)∧w'=w:=Any.strings_Join_none Tryz.lays156 Tryz.Builder_Extra_156 a c sep w
open Go.RowKit Go.Sort Go.Lib in
theorem Tryz.strings_Join (bk o c:Nat) (xs:List ByteArray) (sep:ByteArray) (w:World) (hcells:∀ (j:Nat) x,xs[j]?=some x→w.cell? ⟨bk,o+j,none⟩=some (.string x)) (hbk:bk<w.heap.size) (hN:xs.length≤140737488355328) (hcap:xs.length≤c) (hlen:(Lib.join (xs.map (·.data.toList)) sep.data.toList).length≤140737488355328) :
  Calls Tryz.prog 109 #[.slice (some ⟨bk,o,none⟩) xs.length c,.string sep] w fun e w'=>e = .returned (.string ⟨(Lib.join (xs.map (·.data.toList)) sep.data.toList).toArray⟩)∧Below w.heap.size w w':=Any.strings_Join Tryz.lays156 Tryz.Builder_Extra_156 bk o c xs sep w hcells hbk hN hcap hlen
end Go.Proofs
namespace Go.Pi
open Go.Proofs
theorem strings_Join.ok (n:Nat):strings_Join.e.Oks E (cx n) n:=fun _ _ _ _ h=>nJoin_ok ⟨fun a c sep w=>Tryz.strings_Join_none a c sep w,fun bk o c xs sep w h1 h2 h3 h4 h5=>Tryz.strings_Join bk o c xs sep w h1 h2 h3 h4 h5⟩ (fun _=>rfl) h
end Go.Pi
end
section
namespace Go.Proofs
open Go.Shelf
def Tryz.lays155_ren:Go.Shelf.Ren:=⟨fun|155=>193|154=>212|138=>226|165=>158|143=>227|166=>159|197=>228|169=>160|195=>239|218=>240|240=>197|241=>198|219=>241|260=>242|276=>217|277=>218|217=>252|225=>253|224=>254|267=>255|266=>259|314=>260|n=>n,fun|9=>9|3=>3|4=>4|72=>180|0=>0|76=>184|105=>238|21=>21|5=>5|70=>178|20=>20|37=>22|75=>183|127=>212|164=>230|46=>177|119=>257|139=>260|138=>259|146=>268|51=>243|80=>186|n=>n,fun|1=>1|3=>2|4=>3|n=>n⟩
theorem Tryz.lays155:Go.Proofs.Lays.n155 Tryz.prog Tryz.lays155_ren:={
 mixed:=by kernel_rfl
 f138:=Tryz.func226.trans (congrArg some (by kernel_rfl))
 f143:=Tryz.func227.trans (congrArg some (by kernel_rfl))
 f154:=Tryz.func212.trans (congrArg some (by kernel_rfl))
 f155:=Tryz.func193.trans (congrArg some (by kernel_rfl))
 f165:=Tryz.func158.trans (congrArg some (by kernel_rfl))
 f166:=Tryz.func159.trans (congrArg some (by kernel_rfl))
 f169:=Tryz.func160.trans (congrArg some (by kernel_rfl))
 f195:=Tryz.func239.trans (congrArg some (by kernel_rfl))
 f197:=Tryz.func228.trans (congrArg some (by kernel_rfl))
 f217:=Tryz.func252.trans (congrArg some (by kernel_rfl))
 f218:=Tryz.func240.trans (congrArg some (by kernel_rfl))
 f219:=Tryz.func241.trans (congrArg some (by kernel_rfl))
 f224:=Tryz.func254.trans (congrArg some (by kernel_rfl))
 f225:=Tryz.func253.trans (congrArg some (by kernel_rfl))
 f240:=Tryz.func197.trans (congrArg some (by kernel_rfl))
 f241:=Tryz.func198.trans (congrArg some (by kernel_rfl))
 f260:=Tryz.func242.trans (congrArg some (by kernel_rfl))
 f266:=Tryz.func259.trans (congrArg some (by kernel_rfl))
 f267:=Tryz.func255.trans (congrArg some (by kernel_rfl))
 f276:=Tryz.func217.trans (congrArg some (by kernel_rfl))
 f277:=Tryz.func218.trans (congrArg some (by kernel_rfl))
 f314:=Tryz.func260.trans (congrArg some (by kernel_rfl))
 t0:=Tryz.underlying0
 a0:=Tryz.isAgg0
 z0:=Tryz.sizeOf0
 v0:=Tryz.zeroValue0
 t3:=Tryz.underlying3
 a3:=Tryz.isAgg3
 z3:=Tryz.sizeOf3
 v3:=Tryz.zeroValue3
 t4:=Tryz.underlying4
 a4:=Tryz.isAgg4
 z4:=Tryz.sizeOf4
 v4:=Tryz.zeroValue4
 t5:=Tryz.underlying5
 a5:=Tryz.isAgg5
 z5:=Tryz.sizeOf5
 v5:=Tryz.zeroValue5
 t9:=Tryz.underlying9
 a9:=Tryz.isAgg9
 z9:=Tryz.sizeOf9
 v9:=Tryz.zeroValue9
 t20:=Tryz.underlying20
 a20:=Tryz.isAgg20
 z20:=Tryz.sizeOf20
 v20:=Tryz.zeroValue20
 t21:=Tryz.underlying21
 a21:=Tryz.isAgg21
 z21:=Tryz.sizeOf21
 v21:=Tryz.zeroValue21
 t37:=Tryz.underlying22
 a37:=Tryz.isAgg22
 z37:=Tryz.sizeOf22
 v37:=Tryz.zeroValue22
 t46:=Tryz.underlying177
 a46:=Tryz.isAgg177
 z46:=Tryz.sizeOf177
 v46:=Tryz.zeroValue177
 t51:=Tryz.underlying243
 a51:=Tryz.isAgg243
 z51:=Tryz.sizeOf243
 v51:=Tryz.zeroValue243
 t70:=Tryz.underlying178
 a70:=Tryz.isAgg178
 z70:=Tryz.sizeOf178
 v70:=Tryz.zeroValue178
 t72:=Tryz.underlying180
 a72:=Tryz.isAgg180
 z72:=Tryz.sizeOf180
 v72:=Tryz.zeroValue180
 t75:=Tryz.underlying183
 a75:=Tryz.isAgg183
 z75:=Tryz.sizeOf183
 v75:=Tryz.zeroValue183
 t76:=Tryz.underlying184
 a76:=Tryz.isAgg184
 z76:=Tryz.sizeOf184
 v76:=Tryz.zeroValue184
 t105:=Tryz.underlying238
 a105:=Tryz.isAgg238
 z105:=Tryz.sizeOf238
 v105:=Tryz.zeroValue238
 t119:=Tryz.underlying257
 a119:=Tryz.isAgg257
 z119:=Tryz.sizeOf257
 t127:=Tryz.underlying212
 a127:=Tryz.isAgg212
 z127:=Tryz.sizeOf212
 v127:=Tryz.zeroValue212
 t138:=Tryz.underlying259
 a138:=Tryz.isAgg259
 z138:=Tryz.sizeOf259
 v138:=Tryz.zeroValue259
 t139:=Tryz.underlying260
 a139:=Tryz.isAgg260
 z139:=Tryz.sizeOf260
 v139:=Tryz.zeroValue260
 t146:=Tryz.underlying268
 a146:=Tryz.isAgg268
 z146:=Tryz.sizeOf268
 v146:=Tryz.zeroValue268
 t164:=Tryz.underlying230
 a164:=Tryz.isAgg230
 z164:=Tryz.sizeOf230
 v164:=Tryz.zeroValue230
 g1:=by kernel_rfl
 g3:=by kernel_rfl
 g4:=by kernel_rfl }
theorem Tryz.Builder_Extra_155:Builder.Extra Tryz.prog Tryz.lays155_ren:={
 sizeBuilder:=by kernel_rfl
 liesBuilder:=by kernel_rfl
 t5:=Tryz.underlying5
 a5:=Tryz.isAgg5
 z5:=Tryz.sizeOf5
 v5:=Tryz.zeroValue5
 infoByte:=by kernel_rfl
 cellsByte:=by kernel_rfl
 sizeByte:=by kernel_rfl
 neB5:=by decide }
open Go.RowKit Go.Sort Go.Lib in
theorem Tryz.strings_ReplaceAll (s old new:ByteArray) (m:Int) (w:World) (hs:s.size<4294967281) (hm:w.cell? ⟨1,0,none⟩=some (.int .i64 m)) (h1:1≤old.size) (hlen:s.size+Lib.countB s old*new.size≤140737488355328) :
  Calls Tryz.prog 193 #[.string s,.string old,.string new] w fun e w'=>
   e = .returned (.string ⟨(Lib.replaceAll s.data.toList old.data.toList new.data.toList).toArray⟩)∧Below w.heap.size w w':=Any.strings_ReplaceAll Tryz.lays155 Tryz.Builder_Extra_155 s old new m w hs hm h1 hlen
end Go.Proofs
namespace Go.Pi
open Go.Proofs
theorem strings_ReplaceAll.ok (n:Nat):strings_ReplaceAll.e.Oks E (cx n) n:=fun _ _ _ _ h=>nRepl_ok (g:=1) (fun s old new m w h1 h2 h3 h4=>Tryz.strings_ReplaceAll s old new m w h1 h2 h3 h4) (.tail _ (.head _)) h
end Go.Pi
end
section
namespace Go.Proofs
open Go.Shelf Go.RowKit Go.Lib Go.Pi
section
variable {P:Program}
theorem p4_ (TS TE:TypeId) (TI:TypeId) (Z:Value) (i0:TypeInfo) (uS:P.underlying TS=some (.slice TE)) (uI:P.underlying TI=some (.int .i64)) (hi0:P.info? TE=some i0) (hz2:i0.zero=some Z) (hz0:i0.size=1) (hz1:i0.bytes=16) (hZK:Z.cells.size=1)
  (w:World) (g n c i:Nat) (cur:Array Value) (hg:w.heap[g]?=some (.cells cur TE (0,0))) (hs:cur.size=c) (hnc:n≤c) (hi:i<n)
  (gv m vc:Nat) (curv:Array Value) (Tv:TypeId) (hgv:w.heap[gv]?=some (.cells curv Tv (0,0))) (hmv:m≤curv.size) (us:List Value) (hul:us=curv.toList.take (m)) (h1u:∀ v ∈ us,v.oneCell'=true) (hm:0<m) (hroom:c<n+m)
  (hbig:(n+m)*16≤140737488355328) (h1:∀ v ∈ cur.toList.take (n),v.oneCell'=true) :
  ∃ G N W1 R1 W2 A,Hid (N=w.heap.size)∧n+m≤G∧G≤maxLen ∧
    (∀ ty,(Builtin.append_ #[TS,TI] ty #[.slice (some ⟨g,0,none⟩) i c,.int .i64 ((n:Int)+(m:Int) - (i:Int))]).run P w = .ok (.slice (some ⟨N,0,none⟩) (n+m) G) W1) ∧
    (∀ ty dc,(Builtin.copy_ #[TS,TS] ty #[.slice (some ⟨N,i,none⟩) (n+m - i) dc,.slice (some ⟨gv,0,none⟩) m vc]).run P W1 = .ok (goInt m) (W1.setRow N R1)) ∧
    (W1.setRow N R1).drew=W2 ∧
    (∀ ty dc sc,(Builtin.copy_ #[TS,TS] ty #[.slice (some ⟨N,(i+m),none⟩) (n+m - (i+m)) dc,.slice (some ⟨g,i,none⟩) (n - i) sc]).run P W2 = .ok (goInt (n - i)) (W2.setRow N A)) ∧
    Hid (n+m≤G∧G≤maxLen∧(W2.setRow N A).heap[w.heap.size]?=some (.cells A TE (0,0))∧A.size=G∧A.toList.take ((n+m))=(cur.toList.take (n)).take (i)++us++(cur.toList.take (n)).drop (i)∧w.grownBy (W2.setRow N A) none):=by
 have hul2:us.length=m:=by rw [hul,List.length_take,Array.length_toList];omega
 have hsz:(P.info? TE).map (·.size)=some 1:=by rw [hi0];simp [hz0]
 have hgd:w.drew.heap[g]?=some (.cells cur TE (0,0)):=hg
 have hgl:g<w.heap.size:=(Array.getElem?_eq_some_iff.1 hg).1
 have hgvl:gv<w.heap.size:=(Array.getElem?_eq_some_iff.1 hgv).1
 obtain ⟨olds,holds⟩:∃ olds,olds=(cur.toList.take (n)).take (i):=⟨_,rfl⟩
 have hol:olds.length=i:=by rw [holds];simp [hs];omega
 obtain ⟨G,hG⟩:∃ G,G=grownCap w (n+m) c TE:=⟨_,rfl⟩
 have hGn:n+m≤G:=by rw [hG];exact grownCap_ge w _ _ _
 have hGm:G≤maxLen:=by rw [hG];exact grownCap_le_maxLen w (n+m) c TE (by unfold maxLen;omega)
 obtain ⟨ROW,hROW⟩:∃ ROW:Array Value,ROW=olds.toArray++Builtin.zeroCells Z.cells (n+m - i)++Builtin.zeroCells Z.cells (G - (n+m)):=⟨_,rfl⟩
 have hRl:ROW.size=G:=by rw [hROW];simp [Builtin.zeroCells,hol,hZK];omega
 have hRt:ROW.toList.take (i)=olds:=by
  rw [hROW];simp only [Array.toList_append,List.append_assoc]
  rw [List.take_append_of_le_length (by simp [hol]),List.take_of_length_le (by simp [hol])]
 have hkk:(n:Int)+(m:Int) - (i:Int)=((n+m - i:Nat):Int):=by omega
 have hrz:∀ ty,(Builtin.append_ #[TS,TI] ty #[.slice (some ⟨g,0,none⟩) i c,.int .i64 ((n:Int)+(m:Int) - (i:Int))]).run P w =
   .ok (.slice (some ⟨w.heap.size,0,none⟩) (n+m) G) (w.drew.alloc (.cells ROW TE)):=fun ty=>by
  have h:=Lib.run_append_grow_zeros (P:=P) w TS TI ty TE i0 _ .i64 .i64 uS uI hi0 hz2 (some ⟨g,0,none⟩) i c olds (by
   rw [hz0]
   exact run_firstCells_some w.drew 1 i ⟨g,0,none⟩ i c olds (by rw [Nat.mul_one];exact hol) (fun j v hj=>by
    have hj2:=(List.getElem?_eq_some_iff.1 hj).1
    rw [holds,List.getElem?_take_of_lt (by omega),List.getElem?_take_of_lt (by omega),Array.getElem?_toList] at hj
    rw [Addr.add_lit,Nat.zero_add]
    simp only [World.cell?,hgd]
    exact hj)) (n+m - i) (by omega) (by omega) (by omega) (by omega) (by rw [hz1];omega) (by rw [hz1,show i+(n+m - i)=n+m by omega];exact growslice_fits hroom hbig)
  rw [show i+(n+m - i)=n+m by omega,←hG,←hROW] at h
  rw [hkk]
  exact h
 obtain ⟨N,hN⟩:∃ N,N=w.heap.size:=⟨_,rfl⟩
 rw [←hN] at hrz
 obtain ⟨W1,hW1⟩:∃ W1,W1=w.drew.alloc (.cells ROW TE):=⟨_,rfl⟩
 rw [←hW1] at hrz
 have hN1:W1.heap[N]?=some (.cells ROW TE (0,0)):=by rw [hW1,hN];exact heap_alloc_new w.drew _
 have hold:∀ b,b<w.heap.size→W1.heap[b]?=w.heap[b]?:=fun b hb=>by rw [hW1];exact heap_alloc_old w.drew _ hb
 have hgr1:w.grownBy W1 none:=by rw [hW1];exact ⟨rfl,rfl,rfl,by simp,fun k hk _=>heap_alloc_old w.drew _ hk⟩
 obtain ⟨R1,hR1⟩:∃ R1,R1=(ROW.toList.take (i)++us++ROW.toList.drop (i+us.length)).toArray:=⟨_,rfl⟩
 have hR1s:R1.size=G:=by rw [hR1];simp [hul2,hRl];omega
 have hcp1:∀ ty dc,(Builtin.copy_ #[TS,TS] ty #[.slice (some ⟨N,i,none⟩) (n+m - i) dc,.slice (some ⟨gv,0,none⟩) m vc]).run P W1 = .ok (goInt m) (W1.setRow N R1):=fun ty dc=>by
  have:=cJ_ (P:=P) W1 TS TS ty TE 1 N (i) (n+m - i) dc ⟨gv,0,none⟩ m vc ROW TE us uS hsz hN1 (by rw [hul2];simp only [Nat.min_def];split<;>omega)
   (fun j v hj=>by
     have hj2:=(List.getElem?_eq_some_iff.1 hj).1
     rw [hul,List.getElem?_take_of_lt (by omega),Array.getElem?_toList] at hj
     rw [Addr.add_lit,Nat.zero_add]
     simp only [World.cell?,hold gv hgvl,hgv]
     exact hj) (by rw [hul2,hRl];omega) h1u
  rw [this,hR1]
  congr 2
  simp only [Nat.min_def];split<;>omega
 obtain ⟨W2,hW2⟩:∃ W2,W2=(W1.setRow N R1).drew:=⟨_,rfl⟩
 have hN2:W2.heap[N]?=some (.cells R1 TE (0,0)):=by rw [hW2];exact setRow_heap _ _ _ _ _ _ hN1
 have hg2:W2.heap[g]?=some (.cells cur TE (0,0)):=by
  rw [hW2];show (W1.setRow N R1).heap[g]?=_
  rw [setRow_other _ _ _ _ (by omega),hold g hgl];exact hg
 obtain ⟨mv,hmv2⟩:∃ mv,mv=(cur.toList.take (n)).drop (i):=⟨_,rfl⟩
 have hml:mv.length=(n - i):=by rw [hmv2];simp [hs];omega
 obtain ⟨A,hA⟩:∃ A,A=(R1.toList.take ((i+m))++mv++R1.toList.drop ((i+m)+mv.length)).toArray:=⟨_,rfl⟩
 have hcp2:∀ ty dc sc,(Builtin.copy_ #[TS,TS] ty #[.slice (some ⟨N,(i+m),none⟩) (n+m - (i+m)) dc,.slice (some ⟨g,i,none⟩) (n - i) sc]).run P W2 = .ok (goInt (n - i)) (W2.setRow N A):=fun ty dc sc=>by
  have:=cJ_ (P:=P) W2 TS TS ty TE 1 N ((i+m)) (n+m - (i+m)) dc ⟨g,i,none⟩ (n - i) sc R1 TE mv uS hsz hN2 (by rw [hml];simp only [Nat.min_def];split<;>omega)
   (fun j v hj=>by
     have hj2:=(List.getElem?_eq_some_iff.1 hj).1
     rw [hmv2,List.getElem?_drop,List.getElem?_take_of_lt (by omega),Array.getElem?_toList] at hj
     rw [Addr.add_lit]
     simp only [World.cell?,hg2]
     exact hj) (by rw [hml,hR1s];omega) (fun v hv=>h1 v (by rw [hmv2] at hv;exact List.mem_of_mem_drop hv))
  rw [this,hA]
  congr 2
  simp only [Nat.min_def];split<;>omega
 have kA:Hid (n+m≤G∧G≤maxLen∧(W2.setRow N A).heap[w.heap.size]?=some (.cells A TE (0,0))∧A.size=G∧A.toList.take ((n+m))=(cur.toList.take (n)).take (i)++us++(cur.toList.take (n)).drop (i)∧w.grownBy (W2.setRow N A) none):=by
  refine ⟨hGn,hGm,by rw [←hN];exact setRow_heap _ _ _ _ _ _ hN2,by rw [hA];simp [hml,hR1s];omega,?_,?_⟩
  · have e1:R1.toList.take ((i+m))=olds++us:=by
     rw [hR1];simp only [List.toList_toArray]
     rw [List.take_append_of_le_length (by simp [hul2,hRl];omega),List.take_of_length_le (by simp [hul2,hRl];omega),hRt]
    rw [hA];simp only [List.toList_toArray]
    rw [e1,List.take_append_of_le_length (by simp [hol,hul2,hml];omega),List.take_of_length_le (by simp [hol,hul2,hml];omega),holds,hmv2]
  · refine ⟨by rw [hW2];exact hgr1.os,by rw [hW2];exact hgr1.tape,by rw [hW2];exact hgr1.output,?_,fun k hk hne => ?_⟩
    · have:(W2.setRow N A).heap.size=W1.heap.size:=by rw [hW2];simp [World.setRow,World.drew]
      rw [this];exact hgr1.size
    · rw [setRow_other _ _ _ _ (by omega),hW2]
      show (W1.setRow N R1).heap[k]?=_
      rw [setRow_other _ _ _ _ (by omega)];exact hold k hk
 exact ⟨G,N,W1,R1,W2,A,hN,hGn,hGm,hrz,hcp1,hW2.symm,hcp2,kA⟩
end
set_option maxRecDepth 1000000 in
theorem InsEnd200 (w:World) (S:Value) (n:Nat) (vals:List Value) (hS:w.ownsRow 0 9 1 S n vals) (gv m vc:Nat) (us:List Value) (hul:us.length=m) (hus:∀ j u,us[j]?=some u→w.cell? ⟨gv,j,none⟩=some u) (h1u:∀ v ∈ us,v.oneCell'=true) (hm:0<m) (hb:(n+m)*16≤140737488355328) :
  Calls Tryz.prog 200 #[S,.int .i64 n,.slice (some ⟨gv,0,none⟩) m vc] w fun e w'=>∃ R,e = .returned R∧w'.ownsRow 0 9 1 R (n+m) (vals++us)∧h1_ w w' (fun b=>cf_ S b≠0) ∧
   ∀ b,cf_ R b≠0→(w.heap.size≤b∨cf_ S b≠0)∧b<w'.heap.size:=by
 obtain ⟨i0,hi0⟩:=Option.isSome_iff_exists.1 (show (Tryz.prog.info? 9).isSome=true by kernel_rfl)
 have hz0:i0.size=1:=by
  have:(Tryz.prog.info? 9).map (·.size)=some 1:=by kernel_rfl
  rw [hi0] at this;simpa using this
 have hz1:i0.bytes=16:=by
  have:(Tryz.prog.info? 9).map (·.bytes)=some 16:=by kernel_rfl
  rw [hi0] at this;simpa using this
 have hz2:i0.zero=some (.string ByteArray.empty):=by
  have:(Tryz.prog.info? 9).bind (·.zero)=some (.string ByteArray.empty):=by kernel_rfl
  rw [hi0] at this;simpa using this
 have hz3:¬ ((m:Int)=0):=by omega
 have mixed:Tryz.prog.follows .mixedOrders=true:=by kernel_rfl
 have key:∀ ty,∃ v' w',(Builtin.append_ #[44,44] ty #[S,.slice (some ⟨gv,0,none⟩) m vc]).run Tryz.prog w = .ok v' w'∧w'.ownsRow 0 9 1 v' (n+m) (vals++us)∧h1_ w w' (fun b=>cf_ S b≠0) ∧
   ∀ b,cf_ v' b≠0→(w.heap.size≤b∨cf_ S b≠0)∧b<w'.heap.size:=fun ty=>by
  have:=ey_ (P:=Tryz.prog) w 44 ty 9 i0 _ Tryz.underlying44 hi0 hz2 (by rw [hz0];rfl) (by rw [hz0];decide) S n vals (by rw [hz0];exact hS) (.slice (some ⟨gv,0,none⟩) m vc) m us (by rw [hz0,Nat.mul_one];exact hul) (.inl ⟨_,_,rfl,fun j u h=>by rw [Addr.add_lit,Nat.zero_add];exact hus j u h⟩) h1u (by unfold maxLen;omega) (by rw [hz1];exact hb)
  rw [hz0] at this
  exact this
 obtain ⟨v',w',k1,k2,k3⟩:=key 44
 rcases (d3_.1 hS).2 with ⟨rfl,rfl⟩|⟨g,c,cur,rfl,-,hg,hnc,hcm,hcs,htake⟩
 · clear key hS hus hz2 hi0 hz0 hz1
   go_enter Tryz.func200,Tryz.ntmps200
   go_wp2_with (at_builtin;refine Lib.wpList_append_run _ rfl _ _ 44 44 rfl _ _ rfl rfl _ _ k1 ?_)
   go_ret
   exact ⟨_,rfl,k2,k3⟩
 · clear key hS hus hz2 hg htake hcs hi0 hz0 hz1
   unfold maxLen at hcm
   go_enter Tryz.func200,Tryz.ntmps200
   go_wp2_with (at_builtin;refine Lib.wpList_append_run _ rfl _ _ 44 44 rfl _ _ rfl rfl _ _ k1 ?_)
   all_goals (go_ret;exact ⟨_,rfl,k2,k3⟩)
set_option maxRecDepth 1000000 in
theorem qr_ (w:World) (S:Value) (n i:Nat) (vals:List Value) (hS:w.ownsRow 0 9 1 S n vals) (U:Value) (us:List Value) (hU:w.ownsRow 0 9 1 U 0 us) (hi:i≤n) :
  Calls Tryz.prog 200 #[S,.int .i64 i,U] w fun e w'=>e = .returned S∧w'=w:=by
 rcases (d3_.1 hS).2 with ⟨rfl,rfl⟩|⟨g,c,cur,rfl,-,hg,hnc,hcm,hcs,htake⟩
 · have hi0:i=0:=by omega
   subst hi0
   rcases (d3_.1 hU).2 with ⟨rfl,-⟩|⟨gv,vc,curv,rfl,-,hgv,hmc,hcm,hcs,htake⟩
   · clear hS hU
     go_enter Tryz.func200,Tryz.ntmps200
     go_wp2_with fail
     go_ret
     exact ⟨rfl,rfl⟩
   · clear hS hU hgv hcs htake
     go_enter Tryz.func200,Tryz.ntmps200
     go_wp2_with fail
     go_ret
     exact ⟨rfl,rfl⟩
 · unfold maxLen at hcm
   have hic:i≤c:=by omega
   rcases (d3_.1 hU).2 with ⟨rfl,-⟩|⟨gv,vc,curv,rfl,-,hgv,hmc,hcm2,hcs2,htake2⟩
   · clear hS hU hg hcs htake
     go_enter Tryz.func200,Tryz.ntmps200
     go_wp2_with fail
     all_goals (go_ret;exact ⟨rfl,rfl⟩)
   · clear hS hU hg hcs htake hgv hcs2 htake2
     go_enter Tryz.func200,Tryz.ntmps200
     go_wp2_with fail
     all_goals (go_ret;exact ⟨rfl,rfl⟩)
set_option maxRecDepth 1000000 in
theorem oH_ (w:World) (g n c i:Nat) (cur:Array Value) (hg:w.heap[g]?=some (.cells cur 9 (0,0))) (hs:cur.size=c) (hc:c≤9223372036854775807) (hi:i<n)
  (gv m vc:Nat) (curv:Array Value) (Tv:TypeId) (hgv:w.heap[gv]?=some (.cells curv Tv (0,0))) (hmv:m≤curv.size) (hne:gv≠g) (us:List Value) (hul:us=curv.toList.take (m)) (h1u:∀ v ∈ us,v.oneCell'=true) (hm:0<m) (hroom:n+m≤c)
  (h1:∀ v ∈ cur.toList.take (n),v.oneCell'=true) :
  Calls Tryz.prog 200 #[.slice (some ⟨g,0,none⟩) n c,.int .i64 i,.slice (some ⟨gv,0,none⟩) m vc] w fun e w'=>e = .returned (.slice (some ⟨g,0,none⟩) (n+m) c) ∧
   ∃ A,w'=w.drew.setRow g A∧A.size=cur.size∧A.toList.take ((n+m))=(cur.toList.take (n)).take (i)++us++(cur.toList.take (n)).drop (i):=by
 have hsz:(Tryz.prog.info? 9).map (·.size)=some 1:=by kernel_rfl
 have hul2:us.length=m:=by rw [hul,List.length_take,Array.length_toList];omega
 have hov:∀ lb cb,(callFunc 221 #[.slice (some ⟨gv,0,none⟩) m vc,.slice (some ⟨g,(i+m),none⟩) lb cb]).run Tryz.prog w = .ok (.value (.bool false)) w:=fun lb cb=>by
  rw [run_callFunc_extern Tryz.func221 (by kernel_rfl) (by kernel_rfl) (by kernel_rfl) (e:=Extern.SlicesOverlaps.overlaps #[44,44] #[4]) (by kernel_rfl),
   Lib.run_overlaps_apart w 44 4 9 Tryz.underlying44 1 Tryz.sizeOf9 ⟨gv,0,none⟩ ⟨g,(i+m),none⟩ m vc lb cb hne Tv 9 curv.size cur.size (by simp [World.shape?,hgv]) (by simp [World.shape?,hg]) (by omega) (by simp [World.frozen?,hgv]) (by simp [World.frozen?,hgv])]
  rfl
 obtain ⟨mv,hmv2⟩:∃ mv,mv=(cur.toList.take (n)).drop (i):=⟨_,rfl⟩
 have hml:mv.length=(n - i):=by rw [hmv2];simp [hs];omega
 have hgd:w.drew.heap[g]?=some (.cells cur 9 (0,0)):=hg
 obtain ⟨B,hB⟩:∃ B,B=(cur.toList.take ((i+m))++mv++cur.toList.drop ((i+m)+mv.length)).toArray:=⟨_,rfl⟩
 have hcp1:∀ ty dc sc,(Builtin.copy_ #[44,44] ty #[.slice (some ⟨g,(i+m),none⟩) (n+m - (i+m)) dc,.slice (some ⟨g,i,none⟩) (n+m - i) sc]).run Tryz.prog w.drew = .ok (goInt (n - i)) (w.drew.setRow g B):=fun ty dc sc=>by
  have:=cJ_ (P:=Tryz.prog) w.drew 44 44 ty 9 1 g ((i+m)) (n+m - (i+m)) dc ⟨g,i,none⟩ (n+m - i) sc cur 9 mv Tryz.underlying44 hsz hgd (by rw [hml];simp only [Nat.min_def];split<;>omega)
   (fun j v hj=>by
     have hj2:=(List.getElem?_eq_some_iff.1 hj).1
     rw [hmv2,List.getElem?_drop,List.getElem?_take_of_lt (by omega),Array.getElem?_toList] at hj
     rw [Addr.add_lit]
     simp only [World.cell?,hgd]
     exact hj) (by rw [hml,hs];omega) (fun v hv=>h1 v (by rw [hmv2] at hv;exact List.mem_of_mem_drop hv))
  rw [this,hB]
  congr 2
  simp only [Nat.min_def];split<;>omega
 have hBs:B.size=cur.size:=by rw [hB];simp [hml,hs];omega
 have hgB:(w.drew.setRow g B).heap[g]?=some (.cells B 9 (0,0)):=setRow_heap _ _ _ _ _ _ hgd
 obtain ⟨A,hA⟩:∃ A,A=(B.toList.take (i)++us++B.toList.drop (i+us.length)).toArray:=⟨_,rfl⟩
 have hcp2:∀ ty dc,(Builtin.copy_ #[44,44] ty #[.slice (some ⟨g,i,none⟩) (n+m - i) dc,.slice (some ⟨gv,0,none⟩) m vc]).run Tryz.prog (w.drew.setRow g B) = .ok (goInt m) (w.drew.setRow g A):=fun ty dc=>by
  have:=cJ_ (P:=Tryz.prog) (w.drew.setRow g B) 44 44 ty 9 1 g (i) (n+m - i) dc ⟨gv,0,none⟩ m vc B 9 us Tryz.underlying44 hsz hgB (by rw [hul2];simp only [Nat.min_def];split<;>omega)
   (fun j v hj=>by
     have hj2:=(List.getElem?_eq_some_iff.1 hj).1
     rw [hul,List.getElem?_take_of_lt (by omega),Array.getElem?_toList] at hj
     rw [Addr.add_lit,Nat.zero_add]
     have e:(w.drew.setRow g B).heap[gv]?=some (.cells curv Tv (0,0)):=by rw [setRow_other _ _ _ _ hne];exact hgv
     simp only [World.cell?,e]
     exact hj) (by rw [hul2,hBs,hs];omega) h1u
  rw [this,hA,setRow_setRow]
  congr 2
  simp only [Nat.min_def];split<;>omega
 have kA:Hid (A.size=cur.size∧A.toList.take ((n+m))=(cur.toList.take (n)).take (i)++us++mv):=by
  have e1:B.toList.take (i)=(cur.toList.take (n)).take (i):=by
   rw [hB];simp only [List.toList_toArray,List.append_assoc]
   rw [List.take_append_of_le_length (by simp [hs];omega),List.take_take,List.take_take]
   congr 1;omega
  have e2:(B.toList.drop (i+us.length)).take mv.length=mv:=by
   rw [hB];simp only [List.toList_toArray,List.append_assoc]
   rw [List.drop_append,List.drop_eq_nil_of_le (by simp [hul2,hs];omega),List.nil_append,List.length_take,show i+us.length - min ((i+m)) cur.toList.length=0 by simp [hul2,hs];omega,List.drop_zero,List.take_append_of_le_length (Nat.le_refl _),List.take_of_length_le (Nat.le_refl _)]
  refine ⟨by rw [hA];simp [hul2,hBs,hs];omega,?_⟩
  rw [hA];simp only [List.toList_toArray]
  rw [List.take_append,List.take_of_length_le (by simp [hul2,hBs,hs];omega),e1]
  congr 1
  rw [show (n+m) - (List.take (i) (List.take (n) cur.toList)++us).length=mv.length by simp [hul2,hml,hs];omega]
  exact e2
 rw [hmv2] at kA
 have hnc:n≤c:=by omega
 have hic:i≤c:=by omega
 have hz1:¬ ((m:Int)=0):=by omega
 have hz2:¬ ((i:Int)=(n:Int)):=by omega
 have mixed:Tryz.prog.follows .mixedOrders=true:=by kernel_rfl
 have hw1:IntKind.i64.wrap ((i:Int)+(m:Int))=(i:Int)+(m:Int):=by rw [IntKind.wrap_i64];omega
 have hb1:(0:Int)≤(i:Int)+(m:Int):=by omega
 have hin:i≤n:=by omega
 have htn:((i:Int)+(m:Int)).toNat=i+m:=by omega
 have hb2:¬ (c=i+m):=by omega
 have hb3:(i:Int)≤(n:Int)+(m:Int):=by omega
 have hb4:¬ (c=i):=by omega
 clear hB hBs hgB hA hmv2 hml hgd hg hgv hul hul2 h1 h1u hsz hs hmv
 go_enter Tryz.func200,Tryz.ntmps200
 go_wp2_with (simp only [hov])
 go_region_law_o (refine dU_ rfl _ _ 44 44 rfl _ _ (by simp [Act.eval,Act.put]) (by simp [Act.eval,Act.put]) (hcp1 _ _ _) ?_)
 go_wp2_with (at_builtin;refine e4_ _ rfl _ _ 44 44 rfl _ _ rfl rfl (hcp2 _ _) ?_)
 go_ret
 exact ⟨rfl,A,rfl,kA.out.1,kA.out.2⟩
set_option maxRecDepth 1000000 in
theorem qt_ (w:World) (g n c i:Nat) (cur:Array Value) (hg:w.heap[g]?=some (.cells cur 9 (0,0))) (hs:cur.size=c) (hnc:n≤c) (hi:i<n)
  (gv m vc:Nat) (curv:Array Value) (Tv:TypeId) (hgv:w.heap[gv]?=some (.cells curv Tv (0,0))) (hmv:m≤curv.size) (us:List Value) (hul:us=curv.toList.take (m)) (h1u:∀ v ∈ us,v.oneCell'=true) (hm:0<m) (hroom:c<n+m)
  (hbig:(n+m)*16≤140737488355328) (h1:∀ v ∈ cur.toList.take (n),v.oneCell'=true) :
  Calls Tryz.prog 200 #[.slice (some ⟨g,0,none⟩) n c,.int .i64 i,.slice (some ⟨gv,0,none⟩) m vc] w fun e w'=>∃ C A,e = .returned (.slice (some ⟨w.heap.size,0,none⟩) (n+m) C)∧n+m≤C∧C≤maxLen ∧
   w'.heap[w.heap.size]?=some (.cells A 9 (0,0))∧A.size=C∧A.toList.take ((n+m))=(cur.toList.take (n)).take (i)++us++(cur.toList.take (n)).drop (i)∧w.grownBy w' none:=by
 obtain ⟨i0,hi0⟩:=Option.isSome_iff_exists.1 (show (Tryz.prog.info? 9).isSome=true by kernel_rfl)
 have hz0:i0.size=1:=by
  have:(Tryz.prog.info? 9).map (·.size)=some 1:=by kernel_rfl
  rw [hi0] at this;simpa using this
 have hz1:i0.bytes=16:=by
  have:(Tryz.prog.info? 9).map (·.bytes)=some 16:=by kernel_rfl
  rw [hi0] at this;simpa using this
 have hz2:i0.zero=some (.string ByteArray.empty):=by
  have:(Tryz.prog.info? 9).bind (·.zero)=some (.string ByteArray.empty):=by kernel_rfl
  rw [hi0] at this;simpa using this
 obtain ⟨G,N,W1,R1,W2,A,hNN,hGn,hGm,hrz,hcp1,hW2',hcp2,kA⟩:=p4_ 44 9 3 _ i0 Tryz.underlying44 Tryz.underlying3 hi0 hz2 hz0 hz1 rfl w g n c i cur hg hs hnc hi gv m vc curv Tv hgv hmv us hul h1u hm hroom hbig h1
 have hic:i≤c:=by omega
 have hz3:¬ ((m:Int)=0):=by omega
 have hz4:¬ ((i:Int)=(n:Int)):=by omega
 have hz5:(c:Int)<(n:Int)+(m:Int):=by omega
 have mixed:Tryz.prog.follows .mixedOrders=true:=by kernel_rfl
 have hG63:G≤9223372036854775807:=by unfold maxLen at hGm;omega
 have hw1:IntKind.i64.wrap ((n:Int)+(m:Int))=(n:Int)+(m:Int):=by rw [IntKind.wrap_i64];omega
 have hw2:IntKind.i64.wrap ((n:Int)+(m:Int) - (i:Int))=(n:Int)+(m:Int) - (i:Int):=by rw [IntKind.wrap_i64];omega
 have hw3:IntKind.i64.wrap ((i:Int)+(m:Int))=(i:Int)+(m:Int):=by rw [IntKind.wrap_i64];omega
 have hb1:(0:Int)≤(i:Int)+(m:Int):=by omega
 have htn:((i:Int)+(m:Int)).toNat=i+m:=by omega
 have hGi:¬ (G=i):=by omega
 have hGim:¬ (G=i+m):=by omega
 have hb3:(i:Int)≤(n:Int)+(m:Int):=by omega
 have hb4:¬ (c=i):=by omega
 have hinm:i≤n+m:=by omega
 have himn:i+m≤n+m:=by omega
 have hin:i≤n:=by omega
 clear hul h1 h1u hg hgv hs hmv hz0 hz1 hz2 hi0 hbig
 go_enter Tryz.func200,Tryz.ntmps200
 go_wp2_with (at_builtin;refine Lib.wpList_append_run _ rfl _ _ 44 3 rfl _ _ rfl rfl _ _ (hrz _) ?_)
 go_region_law_o (simp only [hW2'];refine dU_ rfl _ _ 44 44 rfl _ _ (by simp [Act.eval,Act.put]) (by simp [Act.eval,Act.put]) (hcp2 _ _ _) ?_)
 go_wp2_with fail
 go_ret
 exact ⟨G,A,by rw [hNN.out];rfl,kA.out⟩
theorem insM200:InsM Tryz.prog 200 9 1 16:=by
 intro w S n vals U m us i hS hU hdis hi h1 h1u hb
 simp only [Nat.mul_one]
 have hvl:=(d3_.1 hS).1
 by_cases hm:m=0
 · subst hm
   have hus:us=[]:=by have:=(d3_.1 hU).1;(try rw [Nat.zero_mul] at this);exact List.eq_nil_of_length_eq_zero this
   subst hus
   refine (qr_ w S n i vals hS U [] hU hi).mono ?_
   rintro e w' ⟨rfl,rfl⟩
   refine ⟨S,rfl,by rw [List.append_nil,List.take_append_drop];exact hS,⟨rfl,rfl,rfl,Nat.le_refl _,fun _ _ _=>rfl⟩,fun b hb=>⟨.inr hb,l1_ hS b hb⟩⟩
 · rcases (d3_.1 hU).2 with ⟨rfl,h0⟩|⟨gv,vc,curv,rfl,-,hgv,hmc,hcm,hcs,htake⟩
   · exact absurd h0 hm
   · by_cases hin:i=n
     · subst hin
       rw [List.take_of_length_le (by omega),List.drop_eq_nil_of_le (by omega),List.append_nil]
       exact InsEnd200 w S i vals hS gv m vc us (d3_.1 hU).1 (fun j u h=>by have:=hU.cells (g:=gv) rfl j u h;rwa [Addr.add_lit,Nat.zero_add] at this) h1u (by omega) hb
     · rcases (d3_.1 hS).2 with ⟨rfl,h0⟩|⟨g,c,cur,rfl,-,hg,hnc,hcm',hcs',htake'⟩
       · omega
       · have hne:gv≠g:=fun e=>by subst e;have:=hdis gv (by simp [cf_]);simp [cf_] at this
         have hmv:m≤curv.size:=by rw [hcs];exact hmc
         by_cases hroom:n+m≤c
         · refine (oH_ w g n c i cur hg hcs' (by unfold maxLen at hcm';omega) (by omega) gv m vc curv 9 hgv hmv hne us htake.symm h1u (by omega) hroom (by rw [htake'];exact h1)).mono ?_
           rintro e w' ⟨rfl,A,rfl,hA,ht⟩
           rw [htake'] at ht
           have hgd:w.drew.heap[g]?=some (.cells cur 9 (0,0)):=hg
           have hA2:=setRow_heap w.drew g cur A _ _ hgd
           refine ⟨_,rfl,d3_.2 ⟨by rw [←ht];simp [hA,hcs'];omega,.inr ⟨g,c,A,rfl,Nat.zero_le _,hA2,hroom,hcm',by rw [hA,hcs'],ht⟩⟩,⟨rfl,rfl,rfl,iE_ w g A,fun b _ hn => ?_⟩,fun b hb=>⟨.inr hb,?_⟩⟩
           · rw [setRow_other _ _ _ _ (fun e=>hn (by subst e;simp [cf_]))];rfl
           · have:g=b:=by simp only [cf_] at hb;exact Classical.byContradiction fun h=>hb (if_neg h)
             subst this
             exact (Array.getElem?_eq_some_iff.1 hA2).1
         · refine (qt_ w g n c i cur hg hcs' hnc (by omega) gv m vc curv 9 hgv hmv us htake.symm h1u (by omega) (by omega) hb (by rw [htake'];exact h1)).mono ?_
           rintro e w' ⟨C,A,rfl,hC,hCm,hN,hA,ht,hgr⟩
           rw [htake'] at ht
           refine ⟨_,rfl,d3_.2 ⟨by rw [←ht];simp [hA];omega,.inr ⟨_,C,A,rfl,Nat.zero_le _,hN,hC,hCm,hA,ht⟩⟩,⟨hgr.os,hgr.tape,hgr.output,hgr.size,fun b hb _=>hgr.block b hb (by simp)⟩,fun b hb => ?_⟩
           have:w.heap.size=b:=by simp only [cf_] at hb;exact Classical.byContradiction fun h=>hb (if_neg h)
           subst this
           exact ⟨.inl (Nat.le_refl _),(Array.getElem?_eq_some_iff.1 hN).1⟩
end Go.Proofs
namespace Go.Pi
open Go.Proofs
theorem cm_.ok (n:Nat):cm_.e.Oks E (cx n) n:=fun _ _ _ _ h=>n5_ (t:=.str) (m1:=.d) (m2:=.d) (by decide) (by decide) insM200 h
end Go.Pi
end
section
namespace Go.Proofs
open Go.Shelf Go.RowKit Go.Lib Go.Pi
section
variable {P:Program}
theorem p3_ (TS TE:TypeId) (TI:TypeId) (Z:Value) (i0:TypeInfo) (uS:P.underlying TS=some (.slice TE)) (uI:P.underlying TI=some (.int .i64)) (hi0:P.info? TE=some i0) (hz2:i0.zero=some Z) (hz0:i0.size=5) (hz1:i0.bytes=80) (hZK:Z.cells.size=5)
  (w:World) (g n c i:Nat) (cur:Array Value) (hg:w.heap[g]?=some (.cells cur TE (0,0))) (hs:cur.size=c*5) (hnc:n≤c) (hi:i<n)
  (gv m vc:Nat) (curv:Array Value) (Tv:TypeId) (hgv:w.heap[gv]?=some (.cells curv Tv (0,0))) (hmv:m*5≤curv.size) (us:List Value) (hul:us=curv.toList.take (m*5)) (h1u:∀ v ∈ us,v.oneCell'=true) (hm:0<m) (hroom:c<n+m)
  (hbig:(n+m)*80≤140737488355328) (h1:∀ v ∈ cur.toList.take (n*5),v.oneCell'=true) :
  ∃ G N W1 R1 W2 A,Hid (N=w.heap.size)∧n+m≤G∧G≤maxLen ∧
    (∀ ty,(Builtin.append_ #[TS,TI] ty #[.slice (some ⟨g,0,none⟩) i c,.int .i64 ((n:Int)+(m:Int) - (i:Int))]).run P w = .ok (.slice (some ⟨N,0,none⟩) (n+m) G) W1) ∧
    (∀ ty dc,(Builtin.copy_ #[TS,TS] ty #[.slice (some ⟨N,i*5,none⟩) (n+m - i) dc,.slice (some ⟨gv,0,none⟩) m vc]).run P W1 = .ok (goInt m) (W1.setRow N R1)) ∧
    (W1.setRow N R1).drew=W2 ∧
    (∀ ty dc sc,(Builtin.copy_ #[TS,TS] ty #[.slice (some ⟨N,(i+m)*5,none⟩) (n+m - (i+m)) dc,.slice (some ⟨g,i*5,none⟩) (n - i) sc]).run P W2 = .ok (goInt (n - i)) (W2.setRow N A)) ∧
    Hid (n+m≤G∧G≤maxLen∧(W2.setRow N A).heap[w.heap.size]?=some (.cells A TE (0,0))∧A.size=G*5∧A.toList.take ((n+m)*5)=(cur.toList.take (n*5)).take (i*5)++us++(cur.toList.take (n*5)).drop (i*5)∧w.grownBy (W2.setRow N A) none):=by
 have hul2:us.length=m*5:=by rw [hul,List.length_take,Array.length_toList];omega
 have hsz:(P.info? TE).map (·.size)=some 5:=by rw [hi0];simp [hz0]
 have hgd:w.drew.heap[g]?=some (.cells cur TE (0,0)):=hg
 have hgl:g<w.heap.size:=(Array.getElem?_eq_some_iff.1 hg).1
 have hgvl:gv<w.heap.size:=(Array.getElem?_eq_some_iff.1 hgv).1
 obtain ⟨olds,holds⟩:∃ olds,olds=(cur.toList.take (n*5)).take (i*5):=⟨_,rfl⟩
 have hol:olds.length=i*5:=by rw [holds];simp [hs];omega
 obtain ⟨G,hG⟩:∃ G,G=grownCap w (n+m) c TE:=⟨_,rfl⟩
 have hGn:n+m≤G:=by rw [hG];exact grownCap_ge w _ _ _
 have hGm:G≤maxLen:=by rw [hG];exact grownCap_le_maxLen w (n+m) c TE (by unfold maxLen;omega)
 obtain ⟨ROW,hROW⟩:∃ ROW:Array Value,ROW=olds.toArray++Builtin.zeroCells Z.cells (n+m - i)++Builtin.zeroCells Z.cells (G - (n+m)):=⟨_,rfl⟩
 have hRl:ROW.size=G*5:=by rw [hROW];simp [Builtin.zeroCells,hol,hZK];omega
 have hRt:ROW.toList.take (i*5)=olds:=by
  rw [hROW];simp only [Array.toList_append,List.append_assoc]
  rw [List.take_append_of_le_length (by simp [hol]),List.take_of_length_le (by simp [hol])]
 have hkk:(n:Int)+(m:Int) - (i:Int)=((n+m - i:Nat):Int):=by omega
 have hrz:∀ ty,(Builtin.append_ #[TS,TI] ty #[.slice (some ⟨g,0,none⟩) i c,.int .i64 ((n:Int)+(m:Int) - (i:Int))]).run P w =
   .ok (.slice (some ⟨w.heap.size,0,none⟩) (n+m) G) (w.drew.alloc (.cells ROW TE)):=fun ty=>by
  have h:=Lib.run_append_grow_zeros (P:=P) w TS TI ty TE i0 _ .i64 .i64 uS uI hi0 hz2 (some ⟨g,0,none⟩) i c olds (by
   rw [hz0]
   exact run_firstCells_some w.drew 5 i ⟨g,0,none⟩ i c olds hol (fun j v hj=>by
    have hj2:=(List.getElem?_eq_some_iff.1 hj).1
    rw [holds,List.getElem?_take_of_lt (by omega),List.getElem?_take_of_lt (by omega),Array.getElem?_toList] at hj
    rw [Addr.add_lit,Nat.zero_add]
    simp only [World.cell?,hgd]
    exact hj)) (n+m - i) (by omega) (by omega) (by omega) (by omega) (by rw [hz1];omega) (by rw [hz1,show i+(n+m - i)=n+m by omega];exact growslice_fits hroom hbig)
  rw [show i+(n+m - i)=n+m by omega,←hG,←hROW] at h
  rw [hkk]
  exact h
 obtain ⟨N,hN⟩:∃ N,N=w.heap.size:=⟨_,rfl⟩
 rw [←hN] at hrz
 obtain ⟨W1,hW1⟩:∃ W1,W1=w.drew.alloc (.cells ROW TE):=⟨_,rfl⟩
 rw [←hW1] at hrz
 have hN1:W1.heap[N]?=some (.cells ROW TE (0,0)):=by rw [hW1,hN];exact heap_alloc_new w.drew _
 have hold:∀ b,b<w.heap.size→W1.heap[b]?=w.heap[b]?:=fun b hb=>by rw [hW1];exact heap_alloc_old w.drew _ hb
 have hgr1:w.grownBy W1 none:=by rw [hW1];exact ⟨rfl,rfl,rfl,by simp,fun k hk _=>heap_alloc_old w.drew _ hk⟩
 obtain ⟨R1,hR1⟩:∃ R1,R1=(ROW.toList.take (i*5)++us++ROW.toList.drop (i*5+us.length)).toArray:=⟨_,rfl⟩
 have hR1s:R1.size=G*5:=by rw [hR1];simp [hul2,hRl];omega
 have hcp1:∀ ty dc,(Builtin.copy_ #[TS,TS] ty #[.slice (some ⟨N,i*5,none⟩) (n+m - i) dc,.slice (some ⟨gv,0,none⟩) m vc]).run P W1 = .ok (goInt m) (W1.setRow N R1):=fun ty dc=>by
  have:=cJ_ (P:=P) W1 TS TS ty TE 5 N (i*5) (n+m - i) dc ⟨gv,0,none⟩ m vc ROW TE us uS hsz hN1 (by rw [hul2];simp only [Nat.min_def];split<;>omega)
   (fun j v hj=>by
     have hj2:=(List.getElem?_eq_some_iff.1 hj).1
     rw [hul,List.getElem?_take_of_lt (by omega),Array.getElem?_toList] at hj
     rw [Addr.add_lit,Nat.zero_add]
     simp only [World.cell?,hold gv hgvl,hgv]
     exact hj) (by rw [hul2,hRl];omega) h1u
  rw [this,hR1]
  congr 2
  simp only [Nat.min_def];split<;>omega
 obtain ⟨W2,hW2⟩:∃ W2,W2=(W1.setRow N R1).drew:=⟨_,rfl⟩
 have hN2:W2.heap[N]?=some (.cells R1 TE (0,0)):=by rw [hW2];exact setRow_heap _ _ _ _ _ _ hN1
 have hg2:W2.heap[g]?=some (.cells cur TE (0,0)):=by
  rw [hW2];show (W1.setRow N R1).heap[g]?=_
  rw [setRow_other _ _ _ _ (by omega),hold g hgl];exact hg
 obtain ⟨mv,hmv2⟩:∃ mv,mv=(cur.toList.take (n*5)).drop (i*5):=⟨_,rfl⟩
 have hml:mv.length=(n - i)*5:=by rw [hmv2];simp [hs];omega
 obtain ⟨A,hA⟩:∃ A,A=(R1.toList.take ((i+m)*5)++mv++R1.toList.drop ((i+m)*5+mv.length)).toArray:=⟨_,rfl⟩
 have hcp2:∀ ty dc sc,(Builtin.copy_ #[TS,TS] ty #[.slice (some ⟨N,(i+m)*5,none⟩) (n+m - (i+m)) dc,.slice (some ⟨g,i*5,none⟩) (n - i) sc]).run P W2 = .ok (goInt (n - i)) (W2.setRow N A):=fun ty dc sc=>by
  have:=cJ_ (P:=P) W2 TS TS ty TE 5 N ((i+m)*5) (n+m - (i+m)) dc ⟨g,i*5,none⟩ (n - i) sc R1 TE mv uS hsz hN2 (by rw [hml];simp only [Nat.min_def];split<;>omega)
   (fun j v hj=>by
     have hj2:=(List.getElem?_eq_some_iff.1 hj).1
     rw [hmv2,List.getElem?_drop,List.getElem?_take_of_lt (by omega),Array.getElem?_toList] at hj
     rw [Addr.add_lit]
     simp only [World.cell?,hg2]
     exact hj) (by rw [hml,hR1s];omega) (fun v hv=>h1 v (by rw [hmv2] at hv;exact List.mem_of_mem_drop hv))
  rw [this,hA]
  congr 2
  simp only [Nat.min_def];split<;>omega
 have kA:Hid (n+m≤G∧G≤maxLen∧(W2.setRow N A).heap[w.heap.size]?=some (.cells A TE (0,0))∧A.size=G*5∧A.toList.take ((n+m)*5)=(cur.toList.take (n*5)).take (i*5)++us++(cur.toList.take (n*5)).drop (i*5)∧w.grownBy (W2.setRow N A) none):=by
  refine ⟨hGn,hGm,by rw [←hN];exact setRow_heap _ _ _ _ _ _ hN2,by rw [hA];simp [hml,hR1s];omega,?_,?_⟩
  · have e1:R1.toList.take ((i+m)*5)=olds++us:=by
     rw [hR1];simp only [List.toList_toArray]
     rw [List.take_append_of_le_length (by simp [hul2,hRl];omega),List.take_of_length_le (by simp [hul2,hRl];omega),hRt]
    rw [hA];simp only [List.toList_toArray]
    rw [e1,List.take_append_of_le_length (by simp [hol,hul2,hml];omega),List.take_of_length_le (by simp [hol,hul2,hml];omega),holds,hmv2]
  · refine ⟨by rw [hW2];exact hgr1.os,by rw [hW2];exact hgr1.tape,by rw [hW2];exact hgr1.output,?_,fun k hk hne => ?_⟩
    · have:(W2.setRow N A).heap.size=W1.heap.size:=by rw [hW2];simp [World.setRow,World.drew]
      rw [this];exact hgr1.size
    · rw [setRow_other _ _ _ _ (by omega),hW2]
      show (W1.setRow N R1).heap[k]?=_
      rw [setRow_other _ _ _ _ (by omega)];exact hold k hk
 exact ⟨G,N,W1,R1,W2,A,hN,hGn,hGm,hrz,hcp1,hW2.symm,hcp2,kA⟩
end
set_option maxRecDepth 1000000 in
theorem InsEnd201 (w:World) (S:Value) (n:Nat) (vals:List Value) (hS:w.ownsRow 0 46 5 S n vals) (gv m vc:Nat) (us:List Value) (hul:us.length=m*5) (hus:∀ j u,us[j]?=some u→w.cell? ⟨gv,j,none⟩=some u) (h1u:∀ v ∈ us,v.oneCell'=true) (hm:0<m) (hb:(n+m)*80≤140737488355328) :
  Calls Tryz.prog 201 #[S,.int .i64 n,.slice (some ⟨gv,0,none⟩) m vc] w fun e w'=>∃ R,e = .returned R∧w'.ownsRow 0 46 5 R (n+m) (vals++us)∧h1_ w w' (fun b=>cf_ S b≠0) ∧
   ∀ b,cf_ R b≠0→(w.heap.size≤b∨cf_ S b≠0)∧b<w'.heap.size:=by
 obtain ⟨i0,hi0⟩:=Option.isSome_iff_exists.1 (show (Tryz.prog.info? 46).isSome=true by kernel_rfl)
 have hz0:i0.size=5:=by
  have:(Tryz.prog.info? 46).map (·.size)=some 5:=by kernel_rfl
  rw [hi0] at this;simpa using this
 have hz1:i0.bytes=80:=by
  have:(Tryz.prog.info? 46).map (·.bytes)=some 80:=by kernel_rfl
  rw [hi0] at this;simpa using this
 have hz2:i0.zero=some (.agg #[.int .i64 0,.int .i64 0,.string ByteArray.empty,.slice none 0 0,.slice none 0 0]):=by
  have:(Tryz.prog.info? 46).bind (·.zero)=some (.agg #[.int .i64 0,.int .i64 0,.string ByteArray.empty,.slice none 0 0,.slice none 0 0]):=by kernel_rfl
  rw [hi0] at this;simpa using this
 have hz3:¬ ((m:Int)=0):=by omega
 have mixed:Tryz.prog.follows .mixedOrders=true:=by kernel_rfl
 have key:∀ ty,∃ v' w',(Builtin.append_ #[43,43] ty #[S,.slice (some ⟨gv,0,none⟩) m vc]).run Tryz.prog w = .ok v' w'∧w'.ownsRow 0 46 5 v' (n+m) (vals++us)∧h1_ w w' (fun b=>cf_ S b≠0) ∧
   ∀ b,cf_ v' b≠0→(w.heap.size≤b∨cf_ S b≠0)∧b<w'.heap.size:=fun ty=>by
  have:=ey_ (P:=Tryz.prog) w 43 ty 46 i0 _ Tryz.underlying43 hi0 hz2 (by rw [hz0];rfl) (by rw [hz0];decide) S n vals (by rw [hz0];exact hS) (.slice (some ⟨gv,0,none⟩) m vc) m us (by rw [hz0];exact hul) (.inl ⟨_,_,rfl,fun j u h=>by rw [Addr.add_lit,Nat.zero_add];exact hus j u h⟩) h1u (by unfold maxLen;omega) (by rw [hz1];exact hb)
  rw [hz0] at this
  exact this
 obtain ⟨v',w',k1,k2,k3⟩:=key 43
 rcases hS.2 with ⟨rfl,rfl⟩|⟨g,c,cur,rfl,-,hg,hnc,hcm,hcs,htake⟩
 · clear key hS hus hz2 hi0 hz0 hz1
   go_enter Tryz.func201,Tryz.ntmps201
   go_wp2_with (at_builtin;refine Lib.wpList_append_run _ rfl _ _ 43 43 rfl _ _ rfl rfl _ _ k1 ?_)
   go_ret
   exact ⟨_,rfl,k2,k3⟩
 · clear key hS hus hz2 hg htake hcs hi0 hz0 hz1
   unfold maxLen at hcm
   go_enter Tryz.func201,Tryz.ntmps201
   go_wp2_with (at_builtin;refine Lib.wpList_append_run _ rfl _ _ 43 43 rfl _ _ rfl rfl _ _ k1 ?_)
   all_goals (go_ret;exact ⟨_,rfl,k2,k3⟩)
set_option maxRecDepth 1000000 in
theorem qq_ (w:World) (S:Value) (n i:Nat) (vals:List Value) (hS:w.ownsRow 0 46 5 S n vals) (U:Value) (us:List Value) (hU:w.ownsRow 0 46 5 U 0 us) (hi:i≤n) :
  Calls Tryz.prog 201 #[S,.int .i64 i,U] w fun e w'=>e = .returned S∧w'=w:=by
 rcases hS.2 with ⟨rfl,rfl⟩|⟨g,c,cur,rfl,-,hg,hnc,hcm,hcs,htake⟩
 · have hi0:i=0:=by omega
   subst hi0
   rcases hU.2 with ⟨rfl,-⟩|⟨gv,vc,curv,rfl,-,hgv,hmc,hcm,hcs,htake⟩
   · clear hS hU
     go_enter Tryz.func201,Tryz.ntmps201
     go_wp2_with fail
     go_ret
     exact ⟨rfl,rfl⟩
   · clear hS hU hgv hcs htake
     go_enter Tryz.func201,Tryz.ntmps201
     go_wp2_with fail
     go_ret
     exact ⟨rfl,rfl⟩
 · unfold maxLen at hcm
   have hic:i≤c:=by omega
   rcases hU.2 with ⟨rfl,-⟩|⟨gv,vc,curv,rfl,-,hgv,hmc,hcm2,hcs2,htake2⟩
   · clear hS hU hg hcs htake
     go_enter Tryz.func201,Tryz.ntmps201
     go_wp2_with fail
     all_goals (go_ret;exact ⟨rfl,rfl⟩)
   · clear hS hU hg hcs htake hgv hcs2 htake2
     go_enter Tryz.func201,Tryz.ntmps201
     go_wp2_with fail
     all_goals (go_ret;exact ⟨rfl,rfl⟩)
set_option maxRecDepth 1000000 in
theorem oG_ (w:World) (g n c i:Nat) (cur:Array Value) (hg:w.heap[g]?=some (.cells cur 46 (0,0))) (hs:cur.size=c*5) (hc:c≤9223372036854775807) (hi:i<n)
  (gv m vc:Nat) (curv:Array Value) (Tv:TypeId) (hgv:w.heap[gv]?=some (.cells curv Tv (0,0))) (hmv:m*5≤curv.size) (hne:gv≠g) (us:List Value) (hul:us=curv.toList.take (m*5)) (h1u:∀ v ∈ us,v.oneCell'=true) (hm:0<m) (hroom:n+m≤c)
  (h1:∀ v ∈ cur.toList.take (n*5),v.oneCell'=true) :
  Calls Tryz.prog 201 #[.slice (some ⟨g,0,none⟩) n c,.int .i64 i,.slice (some ⟨gv,0,none⟩) m vc] w fun e w'=>e = .returned (.slice (some ⟨g,0,none⟩) (n+m) c) ∧
   ∃ A,w'=w.drew.setRow g A∧A.size=cur.size∧A.toList.take ((n+m)*5)=(cur.toList.take (n*5)).take (i*5)++us++(cur.toList.take (n*5)).drop (i*5):=by
 have hsz:(Tryz.prog.info? 46).map (·.size)=some 5:=by kernel_rfl
 have hul2:us.length=m*5:=by rw [hul,List.length_take,Array.length_toList];omega
 have hov:∀ lb cb,(callFunc 223 #[.slice (some ⟨gv,0,none⟩) m vc,.slice (some ⟨g,(i+m)*5,none⟩) lb cb]).run Tryz.prog w = .ok (.value (.bool false)) w:=fun lb cb=>by
  rw [run_callFunc_extern Tryz.func223 (by kernel_rfl) (by kernel_rfl) (by kernel_rfl) (e:=Extern.SlicesOverlaps.overlaps #[43,43] #[4]) (by kernel_rfl),
   Lib.run_overlaps_apart w 43 4 46 Tryz.underlying43 5 Tryz.sizeOf46 ⟨gv,0,none⟩ ⟨g,(i+m)*5,none⟩ m vc lb cb hne Tv 46 curv.size cur.size (by simp [World.shape?,hgv]) (by simp [World.shape?,hg]) (by omega) (by simp [World.frozen?,hgv]) (by simp [World.frozen?,hgv])]
  rfl
 obtain ⟨mv,hmv2⟩:∃ mv,mv=(cur.toList.take (n*5)).drop (i*5):=⟨_,rfl⟩
 have hml:mv.length=(n - i)*5:=by rw [hmv2];simp [hs];omega
 have hgd:w.drew.heap[g]?=some (.cells cur 46 (0,0)):=hg
 obtain ⟨B,hB⟩:∃ B,B=(cur.toList.take ((i+m)*5)++mv++cur.toList.drop ((i+m)*5+mv.length)).toArray:=⟨_,rfl⟩
 have hcp1:∀ ty dc sc,(Builtin.copy_ #[43,43] ty #[.slice (some ⟨g,(i+m)*5,none⟩) (n+m - (i+m)) dc,.slice (some ⟨g,i*5,none⟩) (n+m - i) sc]).run Tryz.prog w.drew = .ok (goInt (n - i)) (w.drew.setRow g B):=fun ty dc sc=>by
  have:=cJ_ (P:=Tryz.prog) w.drew 43 43 ty 46 5 g ((i+m)*5) (n+m - (i+m)) dc ⟨g,i*5,none⟩ (n+m - i) sc cur 46 mv Tryz.underlying43 hsz hgd (by rw [hml];simp only [Nat.min_def];split<;>omega)
   (fun j v hj=>by
     have hj2:=(List.getElem?_eq_some_iff.1 hj).1
     rw [hmv2,List.getElem?_drop,List.getElem?_take_of_lt (by omega),Array.getElem?_toList] at hj
     rw [Addr.add_lit]
     simp only [World.cell?,hgd]
     exact hj) (by rw [hml,hs];omega) (fun v hv=>h1 v (by rw [hmv2] at hv;exact List.mem_of_mem_drop hv))
  rw [this,hB]
  congr 2
  simp only [Nat.min_def];split<;>omega
 have hBs:B.size=cur.size:=by rw [hB];simp [hml,hs];omega
 have hgB:(w.drew.setRow g B).heap[g]?=some (.cells B 46 (0,0)):=setRow_heap _ _ _ _ _ _ hgd
 obtain ⟨A,hA⟩:∃ A,A=(B.toList.take (i*5)++us++B.toList.drop (i*5+us.length)).toArray:=⟨_,rfl⟩
 have hcp2:∀ ty dc,(Builtin.copy_ #[43,43] ty #[.slice (some ⟨g,i*5,none⟩) (n+m - i) dc,.slice (some ⟨gv,0,none⟩) m vc]).run Tryz.prog (w.drew.setRow g B) = .ok (goInt m) (w.drew.setRow g A):=fun ty dc=>by
  have:=cJ_ (P:=Tryz.prog) (w.drew.setRow g B) 43 43 ty 46 5 g (i*5) (n+m - i) dc ⟨gv,0,none⟩ m vc B 46 us Tryz.underlying43 hsz hgB (by rw [hul2];simp only [Nat.min_def];split<;>omega)
   (fun j v hj=>by
     have hj2:=(List.getElem?_eq_some_iff.1 hj).1
     rw [hul,List.getElem?_take_of_lt (by omega),Array.getElem?_toList] at hj
     rw [Addr.add_lit,Nat.zero_add]
     have e:(w.drew.setRow g B).heap[gv]?=some (.cells curv Tv (0,0)):=by rw [setRow_other _ _ _ _ hne];exact hgv
     simp only [World.cell?,e]
     exact hj) (by rw [hul2,hBs,hs];omega) h1u
  rw [this,hA,setRow_setRow]
  congr 2
  simp only [Nat.min_def];split<;>omega
 have kA:Hid (A.size=cur.size∧A.toList.take ((n+m)*5)=(cur.toList.take (n*5)).take (i*5)++us++mv):=by
  have e1:B.toList.take (i*5)=(cur.toList.take (n*5)).take (i*5):=by
   rw [hB];simp only [List.toList_toArray,List.append_assoc]
   rw [List.take_append_of_le_length (by simp [hs];omega),List.take_take,List.take_take]
   congr 1;omega
  have e2:(B.toList.drop (i*5+us.length)).take mv.length=mv:=by
   rw [hB];simp only [List.toList_toArray,List.append_assoc]
   rw [List.drop_append,List.drop_eq_nil_of_le (by simp [hul2,hs];omega),List.nil_append,List.length_take,show i*5+us.length - min ((i+m)*5) cur.toList.length=0 by simp [hul2,hs];omega,List.drop_zero,List.take_append_of_le_length (Nat.le_refl _),List.take_of_length_le (Nat.le_refl _)]
  refine ⟨by rw [hA];simp [hul2,hBs,hs];omega,?_⟩
  rw [hA];simp only [List.toList_toArray]
  rw [List.take_append,List.take_of_length_le (by simp [hul2,hBs,hs];omega),e1]
  congr 1
  rw [show (n+m)*5 - (List.take (i*5) (List.take (n*5) cur.toList)++us).length=mv.length by simp [hul2,hml,hs];omega]
  exact e2
 rw [hmv2] at kA
 have hnc:n≤c:=by omega
 have hic:i≤c:=by omega
 have hz1:¬ ((m:Int)=0):=by omega
 have hz2:¬ ((i:Int)=(n:Int)):=by omega
 have mixed:Tryz.prog.follows .mixedOrders=true:=by kernel_rfl
 have hw1:IntKind.i64.wrap ((i:Int)+(m:Int))=(i:Int)+(m:Int):=by rw [IntKind.wrap_i64];omega
 have hb1:(0:Int)≤(i:Int)+(m:Int):=by omega
 have hin:i≤n:=by omega
 have htn:((i:Int)+(m:Int)).toNat=i+m:=by omega
 have hb2:¬ (c=i+m):=by omega
 have hb3:(i:Int)≤(n:Int)+(m:Int):=by omega
 have hb4:¬ (c=i):=by omega
 clear hB hBs hgB hA hmv2 hml hgd hg hgv hul hul2 h1 h1u hsz hs hmv
 go_enter Tryz.func201,Tryz.ntmps201
 go_wp2_with (simp only [hov])
 go_region_law_o (refine dU_ rfl _ _ 43 43 rfl _ _ (by simp [Act.eval,Act.put]) (by simp [Act.eval,Act.put]) (hcp1 _ _ _) ?_)
 go_wp2_with (at_builtin;refine e4_ _ rfl _ _ 43 43 rfl _ _ rfl rfl (hcp2 _ _) ?_)
 go_ret
 exact ⟨rfl,A,rfl,kA.out.1,kA.out.2⟩
set_option maxRecDepth 1000000 in
theorem qs_ (w:World) (g n c i:Nat) (cur:Array Value) (hg:w.heap[g]?=some (.cells cur 46 (0,0))) (hs:cur.size=c*5) (hnc:n≤c) (hi:i<n)
  (gv m vc:Nat) (curv:Array Value) (Tv:TypeId) (hgv:w.heap[gv]?=some (.cells curv Tv (0,0))) (hmv:m*5≤curv.size) (us:List Value) (hul:us=curv.toList.take (m*5)) (h1u:∀ v ∈ us,v.oneCell'=true) (hm:0<m) (hroom:c<n+m)
  (hbig:(n+m)*80≤140737488355328) (h1:∀ v ∈ cur.toList.take (n*5),v.oneCell'=true) :
  Calls Tryz.prog 201 #[.slice (some ⟨g,0,none⟩) n c,.int .i64 i,.slice (some ⟨gv,0,none⟩) m vc] w fun e w'=>∃ C A,e = .returned (.slice (some ⟨w.heap.size,0,none⟩) (n+m) C)∧n+m≤C∧C≤maxLen ∧
   w'.heap[w.heap.size]?=some (.cells A 46 (0,0))∧A.size=C*5∧A.toList.take ((n+m)*5)=(cur.toList.take (n*5)).take (i*5)++us++(cur.toList.take (n*5)).drop (i*5)∧w.grownBy w' none:=by
 obtain ⟨i0,hi0⟩:=Option.isSome_iff_exists.1 (show (Tryz.prog.info? 46).isSome=true by kernel_rfl)
 have hz0:i0.size=5:=by
  have:(Tryz.prog.info? 46).map (·.size)=some 5:=by kernel_rfl
  rw [hi0] at this;simpa using this
 have hz1:i0.bytes=80:=by
  have:(Tryz.prog.info? 46).map (·.bytes)=some 80:=by kernel_rfl
  rw [hi0] at this;simpa using this
 have hz2:i0.zero=some (.agg #[.int .i64 0,.int .i64 0,.string ByteArray.empty,.slice none 0 0,.slice none 0 0]):=by
  have:(Tryz.prog.info? 46).bind (·.zero)=some (.agg #[.int .i64 0,.int .i64 0,.string ByteArray.empty,.slice none 0 0,.slice none 0 0]):=by kernel_rfl
  rw [hi0] at this;simpa using this
 obtain ⟨G,N,W1,R1,W2,A,hNN,hGn,hGm,hrz,hcp1,hW2',hcp2,kA⟩:=p3_ 43 46 3 _ i0 Tryz.underlying43 Tryz.underlying3 hi0 hz2 hz0 hz1 rfl w g n c i cur hg hs hnc hi gv m vc curv Tv hgv hmv us hul h1u hm hroom hbig h1
 have hic:i≤c:=by omega
 have hz3:¬ ((m:Int)=0):=by omega
 have hz4:¬ ((i:Int)=(n:Int)):=by omega
 have hz5:(c:Int)<(n:Int)+(m:Int):=by omega
 have mixed:Tryz.prog.follows .mixedOrders=true:=by kernel_rfl
 have hG63:G≤9223372036854775807:=by unfold maxLen at hGm;omega
 have hw1:IntKind.i64.wrap ((n:Int)+(m:Int))=(n:Int)+(m:Int):=by rw [IntKind.wrap_i64];omega
 have hw2:IntKind.i64.wrap ((n:Int)+(m:Int) - (i:Int))=(n:Int)+(m:Int) - (i:Int):=by rw [IntKind.wrap_i64];omega
 have hw3:IntKind.i64.wrap ((i:Int)+(m:Int))=(i:Int)+(m:Int):=by rw [IntKind.wrap_i64];omega
 have hb1:(0:Int)≤(i:Int)+(m:Int):=by omega
 have htn:((i:Int)+(m:Int)).toNat=i+m:=by omega
 have hGi:¬ (G=i):=by omega
 have hGim:¬ (G=i+m):=by omega
 have hb3:(i:Int)≤(n:Int)+(m:Int):=by omega
 have hb4:¬ (c=i):=by omega
 have hinm:i≤n+m:=by omega
 have himn:i+m≤n+m:=by omega
 have hin:i≤n:=by omega
 clear hul h1 h1u hg hgv hs hmv hz0 hz1 hz2 hi0 hbig
 go_enter Tryz.func201,Tryz.ntmps201
 go_wp2_with (at_builtin;refine Lib.wpList_append_run _ rfl _ _ 43 3 rfl _ _ rfl rfl _ _ (hrz _) ?_)
 go_region_law_o (simp only [hW2'];refine dU_ rfl _ _ 43 43 rfl _ _ (by simp [Act.eval,Act.put]) (by simp [Act.eval,Act.put]) (hcp2 _ _ _) ?_)
 go_wp2_with fail
 go_ret
 exact ⟨G,A,by rw [hNN.out];rfl,kA.out⟩
theorem insM201:InsM Tryz.prog 201 46 5 80:=by
 intro w S n vals U m us i hS hU hdis hi h1 h1u hb
 have hvl:=hS.1
 by_cases hm:m=0
 · subst hm
   have hus:us=[]:=by have:=hU.1;rw [Nat.zero_mul] at this;exact List.eq_nil_of_length_eq_zero this
   subst hus
   refine (qq_ w S n i vals hS U [] hU hi).mono ?_
   rintro e w' ⟨rfl,rfl⟩
   refine ⟨S,rfl,by rw [List.append_nil,List.take_append_drop];exact hS,⟨rfl,rfl,rfl,Nat.le_refl _,fun _ _ _=>rfl⟩,fun b hb=>⟨.inr hb,l1_ hS b hb⟩⟩
 · rcases hU.2 with ⟨rfl,h0⟩|⟨gv,vc,curv,rfl,-,hgv,hmc,hcm,hcs,htake⟩
   · exact absurd h0 hm
   · by_cases hin:i=n
     · subst hin
       rw [List.take_of_length_le (by omega),List.drop_eq_nil_of_le (by omega),List.append_nil]
       exact InsEnd201 w S i vals hS gv m vc us hU.1 (fun j u h=>by have:=hU.cells (g:=gv) rfl j u h;rwa [Addr.add_lit,Nat.zero_add] at this) h1u (by omega) hb
     · rcases hS.2 with ⟨rfl,h0⟩|⟨g,c,cur,rfl,-,hg,hnc,hcm',hcs',htake'⟩
       · omega
       · have hne:gv≠g:=fun e=>by subst e;have:=hdis gv (by simp [cf_]);simp [cf_] at this
         have hmv:m*5≤curv.size:=by rw [hcs];exact Nat.mul_le_mul_right _ hmc
         by_cases hroom:n+m≤c
         · refine (oG_ w g n c i cur hg hcs' (by unfold maxLen at hcm';omega) (by omega) gv m vc curv 46 hgv hmv hne us htake.symm h1u (by omega) hroom (by rw [htake'];exact h1)).mono ?_
           rintro e w' ⟨rfl,A,rfl,hA,ht⟩
           rw [htake'] at ht
           have hgd:w.drew.heap[g]?=some (.cells cur 46 (0,0)):=hg
           have hA2:=setRow_heap w.drew g cur A _ _ hgd
           refine ⟨_,rfl,⟨by rw [←ht];simp [hA,hcs'];omega,.inr ⟨g,c,A,rfl,Nat.zero_le _,hA2,hroom,hcm',by rw [hA,hcs'],ht⟩⟩,⟨rfl,rfl,rfl,iE_ w g A,fun b _ hn => ?_⟩,fun b hb=>⟨.inr hb,?_⟩⟩
           · rw [setRow_other _ _ _ _ (fun e=>hn (by subst e;simp [cf_]))];rfl
           · have:g=b:=by simp only [cf_] at hb;exact Classical.byContradiction fun h=>hb (if_neg h)
             subst this
             exact (Array.getElem?_eq_some_iff.1 hA2).1
         · refine (qs_ w g n c i cur hg hcs' hnc (by omega) gv m vc curv 46 hgv hmv us htake.symm h1u (by omega) (by omega) hb (by rw [htake'];exact h1)).mono ?_
           rintro e w' ⟨C,A,rfl,hC,hCm,hN,hA,ht,hgr⟩
           rw [htake'] at ht
           refine ⟨_,rfl,⟨by rw [←ht];simp [hA];omega,.inr ⟨_,C,A,rfl,Nat.zero_le _,hN,hC,hCm,hA,ht⟩⟩,⟨hgr.os,hgr.tape,hgr.output,hgr.size,fun b hb _=>hgr.block b hb (by simp)⟩,fun b hb => ?_⟩
           have:w.heap.size=b:=by simp only [cf_] at hb;exact Classical.byContradiction fun h=>hb (if_neg h)
           subst this
           exact ⟨.inl (Nat.le_refl _),(Array.getElem?_eq_some_iff.1 hN).1⟩
end Go.Proofs
namespace Go.Pi
open Go.Proofs
theorem cw_.ok (n:Nat):cw_.e.Oks E (cx n) n:=fun _ _ _ _ h=>n5_ (t:=.iJson) (m1:=.d) (m2:=.d) (by decide) (by decide) insM201 h
end Go.Pi
end
section
namespace Go.Pi
open Go.Proofs
theorem zer:zl ents=zr ents:=by kernel_rfl
theorem fcts:factL E.P ents ents=factR ents:=by kernel_rfl
theorem cxok (n nt:Nat) (a:AllE E n ents):CxOk E (cx n nt):=⟨ttOk,tcOk,u8Ok,KE_ok fcts a⟩
theorem allOk:∀ n,AllE E n ents
 |0=>all0 zer
 |n+1=>allS_ok (fun nt=>cxok n nt (allOk n)) (fun _=>KE_par) (show AllS E (cx n) n ents from ⟨laws_FnShort.ok n,ff_.ok n,cI_.ok n,dz_.ok n,cF_.ok n,cG_.ok n,dw_.ok n,cE_.ok n,aP_.ok n,cv_.ok n,ba_.ok n,dc_.ok n,c8_.ok n,c6_.ok n,aG_.ok n,eb_.ok n,bO_.ok n,bV_.ok n,a3_.ok n,bg_.ok n,do_.ok n,dv_.ok n,c5_.ok n,d8_.ok n,bb_.ok n,bT_.ok n,eg_.ok n,dJ_.ok n,bS_.ok n,cn_.ok n,am_.ok n,aZ_.ok n,co_.ok n,cd_.ok n,eO_.ok n,eq_.ok n,az_.ok n,cZ_.ok n,a2_.ok n,ec_.ok n,aQ_.ok n,dk_.ok n,ds_.ok n,aS_.ok n,aO_.ok n,aY_.ok n,b2_.ok n,bs_.ok n,aB_.ok n,aN_.ok n,du_.ok n,cD_.ok n,bf_.ok n,dM_.ok n,bk_.ok n,dY_.ok n,dn_.ok n,bZ_.ok n,bY_.ok n,dO_.ok n,cM_.ok n,aJ_.ok n,b1_.ok n,a4_.ok n,bq_.ok n,bI_.ok n,c4_.ok n,dI_.ok n,bP_.ok n,bd_.ok n,aH_.ok n,aE_.ok n,cb_.ok n,dt_.ok n,aC_.ok n,bx_.ok n,cX_.ok n,bG_.ok n,dg_.ok n,a7_.ok n,dE_.ok n,impl_holds.ok n,dp_.ok n,ap_.ok n,dN_.ok n,bp_.ok n,bD_.ok n,strconv_Itoa.ok n,strings_Join.ok n,a1_.ok n,dh_.ok n,bW_.ok n,bE_.ok n,dA_.ok n,bC_.ok n,av_.ok n,aF_.ok n,ag_.ok n,cz_.ok n,cg_.ok n,aK_.ok n,bJ_.ok n,ai_.ok n,bj_.ok n,bX_.ok n,bh_.ok n,dV_.ok n,c2_.ok n,cR_.ok n,dH_.ok n,dy_.ok n,bB_.ok n,b6_.ok n,ad_.ok n,df_.ok n,dx_.ok n,bF_.ok n,aM_.ok n,aV_.ok n,be_.ok n,bv_.ok n,cQ_.ok n,cL_.ok n,cp_.ok n,d7_.ok n,ce_.ok n,cP_.ok n,c3_.ok n,bM_.ok n,ea_.ok n,ae_.ok n,ci_.ok n,ax_.ok n,dB_.ok n,de_.ok n,aI_.ok n,aU_.ok n,ay_.ok n,br_.ok n,aL_.ok n,aW_.ok n,bK_.ok n,c1_.ok n,d9_.ok n,ew_.ok n,a0_.ok n,a9_.ok n,bw_.ok n,bA_.ok n,bz_.ok n,dL_.ok n,bL_.ok n,aX_.ok n,strings_ReplaceAll.ok n,ac_.ok n,au_.ok n,ak_.ok n,cm_.ok n,cw_.ok n,bo_.ok n,b3_.ok n,b0_.ok n,dj_.ok n,dX_.ok n,cK_.ok n,b5_.ok n,cu_.ok n,trivial⟩)
end Go.Pi
end
section
namespace Go.Pi
inductive Kd where
 |i (k:IntKind)
 |b
 |s
 |sl (t:TC)
def kdsL (P:Program) (rec_:TypeId→Option (List Kd)):List Field→Nat→Option (List Kd)
 |[],_=>some []
 |f::fs,off=>cond (Nat.beq f.offset off) (match rec_ f.type with
  |some ks=>cond (Nat.beq (P.cellsOf f.type) ks.length) (match kdsL P rec_ fs (off+ks.length) with
   |some r=>some (ks++r)
   |none=>none) none
  |none=>none) none
def kds (P:Program) (ed_:TypeId→Option TC):Nat→TypeId→Option (List Kd)
 |0,_=>none
 |d+1,T=>match P.underlying T with
  |some (.int k)=>some [.i k]
  |some .bool=>some [.b]
  |some .string=>some [.s]
  |some (.slice e)=>match ed_ e with
   |some t=>some [.sl t]
   |none=>none
  |some (.struct fs)=>match kdsL P (kds P ed_ d) fs.toList 0 with
   |some ks=>cond (Nat.beq (P.cellsOf T) ks.length) (some ks) none
   |none=>none
  |_=>none
inductive Good [ah_]:AV→Prop
 |i (k n):(Lit.int k n).wf=true→Good (.i k n)
 |b (q):Good (.b q)
 |s (l):l.length≤maxLen→Good (.s l)
 |sl (t xs):xs.length≤maxLen→(∀ x ∈ xs,∀ c ∈ ah_.enc .v t x,Good c)→Good (.sl .v t xs)
def KindOk:Kd→AV→Prop
 |.i k,a=>∃ n,a = .i k n
 |.b,a=>∃ q,a = .b q
 |.s,a=>∃ l,a = .s l
 |.sl t,a=>∃ xs,a = .sl .v t xs
def ji_:List Kd→List AV→Prop
 |[],[]=>True
 |k::ks,a::l=>KindOk k a∧ji_ ks l
 |_,_=>False
section
variable {H:Type} {enc:TypeId × Value→H} {P:Program} {w:World} {spare:Nat→Bool}
def nP_ (enc:TypeId × Value→H) (P:Program) (w:World) (spare:Nat→Bool) (eid:TC→TypeId) (F:Nat):Kd→Value→Prop
 |.i k,v=>∃ n,v = .int k n∧(Lit.int k n).wf=true
 |.b,v=>∃ q,v = .bool q
 |.s,v=>∃ s:ByteArray,v = .string s∧s.size≤maxLen
 |.sl t,v=>v = .slice none 0 0∨∃ (a:Addr) (len cap N:Nat),v = .slice (some a) len cap∧len≤cap∧cap≤maxLen∧N<F ∧
   ∀ i,i<len→∃ cs x,w.cells? 0 (a.add (i*P.cellsOf (eid t))) (P.cellsOf (eid t))=some cs∧DataW.trod enc P w 0 spare true N (eid t) cs=some x
def eE_ (enc:TypeId × Value→H) (P:Program) (w:World) (spare:Nat→Bool) (eid:TC→TypeId) (F:Nat):List Kd→List Value→Prop
 |[],[]=>True
 |k::ks,v::vs=>nP_ enc P w spare eid F k v∧eE_ enc P w spare eid F ks vs
 |_,_=>False
theorem nP_.mono {eid:TC→TypeId} {F F':Nat} (hF:F≤F') {k:Kd} {v:Value} (h:nP_ enc P w spare eid F k v):nP_ enc P w spare eid F' k v:=by
 cases k with
 |sl t=>
  rcases h with h|⟨a,len,cap,N,h1,h2,h3,h4,h5⟩
  · exact .inl h
  · exact .inr ⟨a,len,cap,N,h1,h2,h3,Nat.lt_of_lt_of_le h4 hF,h5⟩
 |_=>exact h
theorem eE_.mono {eid:TC→TypeId} {F F':Nat} (hF:F≤F'):∀ {ks:List Kd} {vs:List Value},eE_ enc P w spare eid F ks vs→eE_ enc P w spare eid F' ks vs
 |[],[],_=>trivial
 |k::ks,v::vs,h=>⟨h.1.mono hF,eE_.mono hF h.2⟩
 |[],_::_,h=>h.elim
 |_::_,[],h=>h.elim
theorem eE_.append {eid:TC→TypeId} {F:Nat}:∀ {ks:List Kd} {vs:List Value} {ks':List Kd} {vs':List Value},eE_ enc P w spare eid F ks vs→eE_ enc P w spare eid F ks' vs'→eE_ enc P w spare eid F (ks++ks') (vs++vs')
 |[],[],_,_,_,h=>h
 |k::ks,v::vs,_,_,h,h'=>⟨h.1,eE_.append h.2 h'⟩
 |[],_::_,_,_,h,_=>h.elim
 |_::_,[],_,_,h,_=>h.elim
theorem lw_ {ed_:TypeId→Option TC} {eid:TC→TypeId} {n:Nat} {rec_:TypeId→Option (List Kd)} {cs:List Value} (hrec:∀ T ks cs x,rec_ T=some ks→DataW.trod enc P w 0 spare true n T cs=some x→eE_ enc P w spare eid n ks cs) :
  ∀ (fs:List Field) (off:Nat) (ks:List Kd),kdsL P rec_ fs off=some ks→(∀ f ∈ fs,∃ x,DataW.trod enc P w 0 spare true n f.type ((cs.drop f.offset).take (P.cellsOf f.type))=some x)→off+ks.length=cs.length→eE_ enc P w spare eid n ks (cs.drop off)
 |[],off,ks,h,_,hl=>by
  simp only [kdsL,Option.some.injEq] at h
  subst h
  rw [List.drop_eq_nil_of_le (by simp at hl;omega)]
  trivial
 |f::fs,off,ks,h,hx,hl=>by
  simp only [kdsL] at h
  obtain ⟨h1,h2⟩:=b4_ h
  have h1:=cA_.1 h1
  cases hr:rec_ f.type with
  |none=>rw [hr] at h2;cases h2
  |some k1=>
   rw [hr] at h2
   obtain ⟨h3,h4⟩:=b4_ h2
   have h3:=cA_.1 h3
   cases hk:kdsL P rec_ fs (off+k1.length) with
   |none=>rw [hk] at h4;cases h4
   |some r=>
    rw [hk] at h4
    simp only [Option.some.injEq] at h4
    subst h4
    obtain ⟨x,hx1⟩:=hx f (List.mem_cons_self ..)
    have h5:=hrec _ _ _ _ hr hx1
    have h6:=lw_ (ed_:=ed_) hrec fs (off+k1.length) r hk (fun g hg=>hx g (List.mem_cons_of_mem _ hg)) (by simp at hl;omega)
    rw [h1,h3] at h5
    have:cs.drop off=(cs.drop off).take k1.length++cs.drop (off+k1.length):=by rw [←List.drop_drop,List.take_append_drop]
    rw [this]
    exact h5.append h6
theorem lN_ {ed_:TypeId→Option TC} {eid:TC→TypeId} (hcode:∀ e t,ed_ e=some t→eid t=e):∀ (d F:Nat) (T:TypeId) (ks:List Kd) (cs:List Value) (x:DataW H × List MemPlace),kds P ed_ d T=some ks→DataW.trod enc P w 0 spare true F T cs=some x→eE_ enc P w spare eid F ks cs
 |0,F,T,ks,cs,x,hk,h=>by cases hk
 |d+1,F,T,ks,cs,x,hk,h=>by
  simp only [kds] at hk
  cases hu:P.underlying T with
  |none=>rw [hu] at hk;cases hk
  |some u=>
   rw [hu] at hk
   cases u<;>simp only at hk<;>(try (cases hk;done))
   case bool=>
    cases hk
    obtain ⟨q,rfl,_⟩:=DataW.trod_bool hu h
    exact ⟨⟨q,rfl⟩,trivial⟩
   case int k=>
    cases hk
    obtain ⟨n,rfl,_,hw⟩:=DataW.trod_int hu h
    exact ⟨⟨n,rfl,hw⟩,trivial⟩
   case string=>
    cases hk
    obtain ⟨s,rfl,_,hs⟩:=DataW.trod_string hu h
    exact ⟨⟨s,rfl,hs⟩,trivial⟩
   case slice e=>
    cases hc:ed_ e with
    |none=>rw [hc] at hk;cases hk
    |some t=>
     rw [hc] at hk
     cases hk
     have he:=hcode e t hc
     rcases DataW.trod_slice hu h with ⟨rfl,_⟩|⟨a,len,cap,elems,h6_,n,hF,rfl,_,_,hl,hm,hlen,hel,_,_⟩
     · exact ⟨.inl rfl,trivial⟩
     · refine ⟨.inr ⟨a,len,cap,n,rfl,hl,hm,by omega,fun i hi => ?_⟩,trivial⟩
       have h1:=hel i hi
       rw [List.getElem?_eq_getElem (by omega)] at h1
       rw [Option.bind_eq_some_iff] at h1
       obtain ⟨cs,k1,k2⟩:=h1
       exact ⟨cs,_,by rw [he];exact k1,by rw [he];exact k2⟩
   case struct fs=>
    obtain ⟨xs,n,hF,_,hcl,hxl,hx⟩:=DataW.trod_struct hu h
    cases hks:kdsL P (kds P ed_ d) fs.toList 0 with
    |none=>rw [hks] at hk;cases hk
    |some ks'=>
     rw [hks] at hk
     obtain ⟨h1,h2⟩:=b4_ hk
     have h1:=cA_.1 h1
     cases h2
     subst hF
     have:=lw_ (ed_:=ed_) (eid:=eid) (n:=n) (cs:=cs) (fun T ks cs x k1 k2=>lN_ hcode d n T ks cs x k1 k2) fs.toList 0 ks hks (fun f hf=>by
      obtain ⟨i,hi⟩:=List.getElem?_of_mem hf
      have hi':fs[i]?=some f:=by simpa using hi
      have h3:=hx i f hi'
      have hlt:i<xs.length:=by rw [hxl];exact (Array.getElem?_eq_some_iff.1 hi').1
      rw [List.getElem?_eq_getElem hlt] at h3
      exact ⟨_,h3⟩) (by omega)
     exact (this.mono (Nat.le_succ n))
end
end Go.Pi
end
section
namespace Go.Pi
variable [ah_]
open ah_
variable {H:Type} {enc':TypeId × Value→H} {E:Env} {w:World} {spare:Nat→Bool}
abbrev NoF:Nat→Prop:=fun _=>False
omit [ah_] in
theorem jW_:∀ {ks:List Kd} {l c:List AV},ji_ ks l→sims .v l c→c=l
 |[],[],[],_,_=>rfl
 |k::ks,a::l,b::c,h,hs=>by
  have e:=jW_ h.2 hs.2
  subst e
  have h1:=h.1
  have h2:=hs.1
  cases k<;>obtain ⟨x,rfl⟩:=h1<;>simp only [AV.sim] at h2<;>rw [h2]
 |[],[],_::_,_,h=>h.elim
 |[],_::_,_,h,_=>h.elim
 |_::_,[],_,h,_=>h.elim
 |_::_,_::_,[],_,h=>h.elim
structure kD_ (E:Env) (ed_:TypeId→Option TC) (kinds:TC→List Kd) (d:Nat):Prop where
 codeOk:∀ e t,ed_ e=some t→E.eid t=e
 kdsOk:∀ t,kds E.P ed_ d (E.eid t)=some (kinds t)
 dec:∀ t l,ji_ (kinds t) l→∃ y,dec t l=some y
 cells:∀ t,E.P.cellsOf (E.eid t)=t.width
theorem mQ_ [aj_] {t:TC} {N:Nat} (hel:∀ cs x,DataW.trod enc' E.P w 0 spare true N (E.eid t) cs=some x→∃ y:El t,RL E w NoF (enc .v t y) cs (fun _=>0)∧∀ c ∈ enc .v t y,Good c) {b o:Nat} (hW:E.P.cellsOf (E.eid t)=t.width) :
  ∀ len,(∀ i,i<len→∃ cs x,w.cells? 0 ((⟨b,o,none⟩:Addr).add (i*E.P.cellsOf (E.eid t))) (E.P.cellsOf (E.eid t))=some cs∧DataW.trod enc' E.P w 0 spare true N (E.eid t) cs=some x) →
  ∃ (xs:List (El t)) (vals:List Value),xs.length=len∧vals.length=len*t.width∧RL E w NoF (aR_ .v t xs) vals (fun _=>0)∧w.rangeAt b o vals∧∀ x ∈ xs,∀ c ∈ enc .v t x,Good c
 |0,_=>⟨[],[],rfl,by simp,RL.nil (fun _=>0) fun _=>rfl,fun j v h=>by simp at h,fun x hx=>by cases hx⟩
 |len+1,h=>by
  obtain ⟨xs,vals,h1,h2,h3,h4,h5⟩:=mQ_ hel hW len fun i hi=>h i (by omega)
  obtain ⟨cs,x,k1,k2⟩:=h len (Nat.lt_succ_self _)
  obtain ⟨y,j1,j2⟩:=hel cs x k2
  obtain ⟨_,hl,hc⟩:=World.cells?_some k1
  rw [hW] at hl hc
  refine ⟨xs++[y],vals++cs,by simp [h1],by rw [List.length_append,h2,hl];exact (Nat.succ_mul _ _).symm,?_,fun j v hj => ?_,fun x hx => ?_⟩
  · rw [cj_]
    refine RL.append h3 (φ':=fun _=>0) ?_ (fun b=>rfl)
    simpa [aR_] using j1
  · by_cases hlt:j<vals.length
    · rw [List.getElem?_append_left hlt] at hj
      exact h4 j v hj
    · rw [List.getElem?_append_right (by omega)] at hj
      have hjl:j - vals.length<t.width:=by rw [←hl];exact (List.getElem?_eq_some_iff.1 hj).1
      have:=hc (j - vals.length) hjl
      rw [Addr.add_mid,Addr.add_mid,hj] at this
      rw [←this]
      congr 2
      omega
  · rcases List.mem_append.1 hx with hx|hx
    · exact h5 x hx
    · rw [List.mem_singleton] at hx;subst hx;exact j2
theorem cell_open [aj_] {ed_:TypeId→Option TC} {kinds:TC→List Kd} {d:Nat} (hk:kD_ E ed_ kinds d) {F:Nat} (ih:∀ N,N<F→∀ t cs x,DataW.trod enc' E.P w 0 spare true N (E.eid t) cs=some x→∃ y:El t,RL E w NoF (enc .v t y) cs (fun _=>0)∧∀ c ∈ enc .v t y,Good c) {k:Kd} {v:Value} (h:nP_ enc' E.P w spare E.eid F k v) :
  ∃ a,KindOk k a∧RL E w NoF [a] [v] (fun _=>0)∧Good a:=by
 cases k with
 |i k=>obtain ⟨n,rfl,hw⟩:=h;exact ⟨.i k n,⟨n,rfl⟩,.scal _ _ _ _ _ rfl (.nil _ fun _=>rfl),.i _ _ hw⟩
 |b=>obtain ⟨q,rfl⟩:=h;exact ⟨.b q,⟨q,rfl⟩,.scal _ _ _ _ _ rfl (.nil _ fun _=>rfl),.b _⟩
 |s=>
  obtain ⟨s,rfl,hs⟩:=h
  refine ⟨.s s.data.toList,⟨_,rfl⟩,.scal _ _ _ _ _ ?_ (.nil _ fun _=>rfl),.s _ ?_⟩
  · show Value.string s = .string ⟨s.data.toList.toArray⟩
    simp
  · rw [Array.length_toList];exact hs
 |sl t=>
  rcases h with rfl|⟨a,len,cap,N,rfl,hl,hm,hN,hel⟩
  · exact ⟨.sl .v t [],⟨_,rfl⟩,.view t [] none 0 0 [] (fun _=>0) _ _ _ ⟨rfl,Nat.le_refl _⟩ (.nil _ fun _=>rfl) (fun _=>rfl) (fun hp=>by omega) (.nil _ fun _=>rfl),.sl _ _ (Nat.zero_le _) (fun x hx=>by cases hx)⟩
  · cases len with
    |zero=>exact ⟨.sl .v t [],⟨_,rfl⟩,.view t [] (some a) 0 cap [] (fun _=>0) _ _ _ ⟨rfl,hl⟩ (.nil _ fun _=>rfl) (fun _=>rfl) (fun hp=>by omega) (.nil _ fun _=>rfl),.sl _ _ (Nat.zero_le _) (fun x hx=>by cases hx)⟩
    |succ len=>
     have hW:=hk.cells t
     have hpos:0<t.width:=aj_.pos t
     obtain ⟨cs0,x0,k1,_⟩:=hel 0 (Nat.succ_pos _)
     obtain ⟨_,hl0,hc0⟩:=World.cells?_some k1
     have hcell:=hc0 0 (by rw [hW];exact hpos)
     rw [List.getElem?_eq_getElem (by rw [hl0,hW];exact hpos)] at hcell
     have ha:a.spot=none:=by
      have h0:(a.add (0*E.P.cellsOf (E.eid t))).add 0=a:=by simp [Addr.add]
      rw [h0] at hcell
      unfold World.cell? at hcell
      split at hcell
      · cases hs:a.spot with
        |none=>rfl
        |some q=>simp [hs] at hcell
      · cases hcell
     obtain ⟨b,o,sp⟩:=a
     simp only at ha
     subst ha
     have hb:b<w.heap.size:=World.cells?_block k1 (by rw [hW];exact hpos) |> fun h=>by simpa [Addr.add] using h
     obtain ⟨xs,vals,e1,e2,e3,e4,e5⟩:=mQ_ (ih N hN t) hW (len+1) hel
     refine ⟨.sl .v t xs,⟨_,rfl⟩,?_,.sl _ _ (by omega) e5⟩
     exact .view t xs (some ⟨b,o,none⟩) (len+1) cap vals (fun _=>0) _ _ _ ⟨e1.symm,hl⟩ e3 (fun _=>rfl) (fun _=>⟨b,o,rfl,e4,hb,fun h=>h⟩) (.nil _ fun _=>rfl)
theorem i2_ [aj_] {ed_:TypeId→Option TC} {kinds:TC→List Kd} {d:Nat} (hk:kD_ E ed_ kinds d) {F:Nat} (ih:∀ N,N<F→∀ t cs x,DataW.trod enc' E.P w 0 spare true N (E.eid t) cs=some x→∃ y:El t,RL E w NoF (enc .v t y) cs (fun _=>0)∧∀ c ∈ enc .v t y,Good c) :
  ∀ {ks:List Kd} {vs:List Value},eE_ enc' E.P w spare E.eid F ks vs→∃ l,ji_ ks l∧RL E w NoF l vs (fun _=>0)∧∀ c ∈ l,Good c
 |[],[],_=>⟨[],trivial,.nil _ fun _=>rfl,fun c hc=>by cases hc⟩
 |k::ks,v::vs,h=>by
  obtain ⟨a,h1,h2,h3⟩:=cell_open hk ih h.1
  obtain ⟨l,k1,k2,k3⟩:=i2_ hk ih h.2
  refine ⟨a::l,⟨h1,k1⟩,RL.cons h2 k2 (fun b=>rfl),fun c hc => ?_⟩
  rcases List.mem_cons.1 hc with rfl|hc
  · exact h3
  · exact k3 c hc
 |[],_::_,h=>h.elim
 |_::_,[],h=>h.elim
theorem el_open [aj_] {ed_:TypeId→Option TC} {kinds:TC→List Kd} {d:Nat} (hk:kD_ E ed_ kinds d):∀ (F:Nat) (t:TC) (cs:List Value) (x:DataW H × List MemPlace),DataW.trod enc' E.P w 0 spare true F (E.eid t) cs=some x →
  ∃ y:El t,RL E w NoF (enc .v t y) cs (fun _=>0)∧∀ c ∈ enc .v t y,Good c:=by
 intro F
 induction F using Nat.strongRecOn with
 |_ F ih=>
  intro t cs x h
  have h1:=lN_ hk.codeOk d F _ _ _ _ (hk.kdsOk t) h
  obtain ⟨l,h2,h3,h4⟩:=i2_ hk ih h1
  obtain ⟨y,hy⟩:=hk.dec t l h2
  have h5:=aj_.dec .v t l y hy
  have h6:=jW_ h2 h5
  exact ⟨y,by rw [h6];exact h3,by rw [h6];exact h4⟩
theorem arg_open [aj_] {ed_:TypeId→Option TC} {kinds:TC→List Kd} {d:Nat} (hk:kD_ E ed_ kinds d) {T:TypeId} {ks:List Kd} (hT:kds E.P ed_ d T=some ks) {v:Value} {dd:DataW H} {ps:List MemPlace} (h:DataW.Trod enc' E.P w 0 spare true T v dd ps) :
  ∃ l,ji_ ks l∧RL E w NoF l v.cells.toList (fun _=>0)∧∀ c ∈ l,Good c:=by
 obtain ⟨F,hF⟩:=h
 exact i2_ hk (fun N _=>el_open hk N) (lN_ hk.codeOk d F T ks _ _ hT hF)
end Go.Pi
end
section
namespace Go.Pi
open Go.RowKit
variable [ah_]
open ah_
omit [ah_] in
theorem cY_ {k:Kd} {ks:List Kd} {l:List AV} (h:ji_ (k::ks) l):∃ a l',l=a::l'∧KindOk k a∧ji_ ks l':=by
 cases l with
 |nil=>exact h.elim
 |cons a l=>exact ⟨a,l,rfl,h.1,h.2⟩
omit [ah_] in
theorem dm_ {l:List AV} (h:ji_ [] l):l=[]:=by
 cases l with
 |nil=>rfl
 |cons a l=>exact h.elim
def codeL (eid:TC→TypeId):List TC→TypeId→Option TC
 |[],_=>none
 |t::ts,e=>cond (Nat.beq (eid t) e) (some t) (codeL eid ts e)
omit [ah_] in
theorem pw_ {eid:TC→TypeId} {e:TypeId} {t:TC}:∀ ts,codeL eid ts e=some t→eid t=e
 |[],h=>by cases h
 |u::ts,h=>by
  simp only [codeL] at h
  cases hb:Nat.beq (eid u) e with
  |true=>rw [hb] at h;cases h;exact cA_.1 hb
  |false=>rw [hb] at h;exact pw_ ts h
theorem law_true [aj_] {E:Env} {f:FuncId} {avs:List AV} {outs:List AV} {ps:List PS} (h:ei_ E f avs (.b true) outs ps) {w:World} (hgl:Glob E w NoF) {Vs:List Value} (hr:RL E w NoF avs Vs (fun _=>0)) :
  Calls E.P f Vs.toArray w fun e W'=>e = .returned (.bool true)∧Below w.heap.size w W':=by
 refine (h w NoF Vs _ hr (fun _=>Nat.zero_le _) (fun b hb=>hb.elim) hgl).mono fun e W' ⟨V,φ',he,h1,_,_,e1,e2,e3,e4,e5⟩=>⟨?_,e1,e2,e3,e4,fun k hk=>e5 k hk rfl⟩
 cases h1 with
 |scal a v l vs φ hs _=>rw [he,show V = .bool true from hs]
theorem ag_open {E:Env} {w:World} {l:List AV} {cs:Array Value} (h:RL E w NoF l (Value.agg cs).cells.toList (fun _=>0)) {l':List AV} {vs:List Value} (h':RL E w NoF l' vs (fun _=>0)) :
  RL E w NoF (.ag l::l') (.agg cs::vs) (fun _=>0):=by
 have:=RL.ag (E:=E) (w:=w) (F:=NoF) l cs.toList (fun _=>0) l' vs (fun _=>0) (fun _=>0) h h' (fun b=>rfl)
 simpa using this
end Go.Pi
end
section
namespace Go.Pi
open Go.Proofs Go.Proofs.YtmgcfhlcdhlafabGreatDoor
open Go.ChangeShapes Go.WideShapes Go.ChangeAt Go.RowKit
def ed_:TypeId→Option TC:=codeL eid [.u8,.int,.str,.iCond,.iRow,.iKid,.s_iRow,.iMut,.iChange,.iOp,.iJson,.ikeyed]
def kinds:TC→List Kd
 |.u8=>[.i .u8]
 |.int=>[.i .i64]
 |.str=>[.s]
 |.iCond=>[.i .i64,.i .i64,.i .i64]
 |.iRow=>[.i .i64,.sl .int]
 |.iKid=>[.i .i64,.i .i64]
 |.s_iRow=>[.sl .iRow]
 |.iMut=>[.i .i64,.i .i64,.i .i64,.sl .int]
 |.iChange=>[.i .i64,.b,.b,.i .i64,.sl .int,.i .i64,.sl .int]
 |.iOp=>[.i .i64,.sl .str,.i .i64,.i .i64,.s,.sl .iJson,.sl .str]
 |.iJson=>[.i .i64,.i .i64,.s,.sl .iJson,.sl .str]
 |.ikeyed=>[.i .i64,.i .i64,.i .i64,.s,.sl .iJson,.sl .str]
theorem kindsOk:kD_ E ed_ kinds 12 where
 codeOk:=fun e t h=>pw_ _ h
 kdsOk:=by intro t;cases t<;>kernel_rfl
 cells:=by intro t;cases t<;>kernel_rfl
 dec:=by
  intro t l h
  cases t with
  |u8=>
   iterate 1 (replace h:=cY_ h;obtain ⟨_,_,rfl,⟨_,rfl⟩,h⟩:=h)
   replace h:=dm_ h;subst h;exact ⟨_,rfl⟩
  |int=>
   iterate 1 (replace h:=cY_ h;obtain ⟨_,_,rfl,⟨_,rfl⟩,h⟩:=h)
   replace h:=dm_ h;subst h;exact ⟨_,rfl⟩
  |str=>
   iterate 1 (replace h:=cY_ h;obtain ⟨_,_,rfl,⟨_,rfl⟩,h⟩:=h)
   replace h:=dm_ h;subst h;exact ⟨_,rfl⟩
  |iCond=>
   iterate 3 (replace h:=cY_ h;obtain ⟨_,_,rfl,⟨_,rfl⟩,h⟩:=h)
   replace h:=dm_ h;subst h;exact ⟨_,rfl⟩
  |iRow=>
   iterate 2 (replace h:=cY_ h;obtain ⟨_,_,rfl,⟨_,rfl⟩,h⟩:=h)
   replace h:=dm_ h;subst h;exact ⟨_,rfl⟩
  |iKid=>
   iterate 2 (replace h:=cY_ h;obtain ⟨_,_,rfl,⟨_,rfl⟩,h⟩:=h)
   replace h:=dm_ h;subst h;exact ⟨_,rfl⟩
  |s_iRow=>
   iterate 1 (replace h:=cY_ h;obtain ⟨_,_,rfl,⟨_,rfl⟩,h⟩:=h)
   replace h:=dm_ h;subst h;exact ⟨_,rfl⟩
  |iMut=>
   iterate 4 (replace h:=cY_ h;obtain ⟨_,_,rfl,⟨_,rfl⟩,h⟩:=h)
   replace h:=dm_ h;subst h;exact ⟨_,rfl⟩
  |iChange=>
   iterate 7 (replace h:=cY_ h;obtain ⟨_,_,rfl,⟨_,rfl⟩,h⟩:=h)
   replace h:=dm_ h;subst h;exact ⟨_,rfl⟩
  |iOp=>
   iterate 7 (replace h:=cY_ h;obtain ⟨_,_,rfl,⟨_,rfl⟩,h⟩:=h)
   replace h:=dm_ h;subst h;exact ⟨_,rfl⟩
  |iJson=>
   iterate 5 (replace h:=cY_ h;obtain ⟨_,_,rfl,⟨_,rfl⟩,h⟩:=h)
   replace h:=dm_ h;subst h;exact ⟨_,rfl⟩
  |ikeyed=>
   iterate 6 (replace h:=cY_ h;obtain ⟨_,_,rfl,⟨_,rfl⟩,h⟩:=h)
   replace h:=dm_ h;subst h;exact ⟨_,rfl⟩
namespace laws_FnShort
theorem own:ownKnob Tryz.prog.godebug=none:=by kernel_rfl
theorem laidOut:laidOutB Tryz.prog=true:=by kernel_rfl
def senOf:DataW Unit→ByteArray
 |.iface _ (.ptr (.agg [.lit (.string l)]))=>⟨l.toArray⟩
 |_=>ByteArray.empty
def tab1:DataW Unit→List Value
 |.lit (.int k n)=>[Value.int k n]
 |_=>[]
def tab2:DataW Unit→List Value
 |.agg l=>l.flatMap tab1
 |d=>tab1 d
def eX_:DataW Unit→Array Value
 |.agg l=>(l.flatMap tab2).toArray
 |_ => #[]
def Pure:Prop:=∀ (o:List Int),(∀ c ∈ ([.sl .v .u8 o]:List AV),Good c)→∃ n,Go.Pi.laws_FnShort n o=some true
noncomputable def m6_ (os:Os):World :=
 let w0:=World.holding Tryz.prog os ⟨#[],#[],[]⟩
 let put:=fun (h:Array Obj) (g:Nat) (cs:Array Value)=>h.modify g fun
  |.cells _ t frozen=>.cells cs t frozen
  |o=>o
 { w0 with heap:=put (put (put (put (put (w0.heap) 4 (eX_ Rows.laid_math_bits_deBruijn32tab)) 5 (eX_ Rows.laid_math_bits_deBruijn64tab)) 0 (eX_ Rows.laid_internal_strconv_uint64pow10)) 3 (eX_ Rows.laid_unicode_utf8_acceptRanges)) 2 (eX_ Rows.laid_unicode_utf8_first) }
theorem mb_ (os:Os) (args:Array Value):laidMet Tryz.prog Rows.fnShortRow.laid ((m6_ os).forCall (fun _ _=>0) ⟨#[],args,[]⟩).memory :=
 laidMet_of_run' 8 (by kernel_rfl) (by kernel_rfl)
theorem lifted (hp:Pure) (os:Os) (started:os.Started) (H:Type) (enc:TypeId × Value→H) :
  ReturnsInHanded {} Tryz.checked os 3 .any (fun w args=>(Rows.fnShortSpec.pre enc Tryz.prog Tryz.f3 Rows.fnShortRow.domain false w args∧laidMet Tryz.prog Rows.fnShortRow.laid w)∧sizedMet enc Tryz.prog Tryz.f3 (OpenSpec.ofChange Rows.fnShortSpec) false w args) (Rows.fnShortSpec.post enc Tryz.prog Tryz.f3 false true false false):=by
 refine returnsInHanded_of_calls own started (by kernel_rfl) (ChangeSpec.witness_at (enc:=enc) (C:=Tryz.checked) (os:=os) (X:=fun w _=>laidMet Tryz.prog Rows.fnShortRow.laid w) false (m6_ os) #[.slice none 0 0] 8 rfl (by kernel_rfl) (by kernel_rfl) (by kernel_rfl) (by kernel_rfl) (by kernel_rfl) (mb_ os _)) ?_
 intro w0 tape inp _ hsh _ hok hpre _
 obtain ⟨_,_,_,fn',hfn',_,_,_,_,hval0⟩:=hok
 obtain rfl:fn'=Tryz.f3:=Option.some.inj (hfn'.symm.trans Tryz.func3)
 obtain ⟨⟨⟨ds,gs,before,hw0,hcnd⟩,hL0⟩,hz⟩:=hpre
 have hW:=DataW.Whole.of_heap (w':=w0.forCall tape inp) (by rfl) hw0
 have hL:laidMet Tryz.prog Rows.fnShortRow.laid (w0.forCall tape inp):=hL0.of_heap (by rfl)
 clear hw0 hL0 hz hfn' hcnd
 generalize w0.forCall tape inp=W at hsh hval0 hW hL ⊢
 generalize inp.args=args at hval0 hW ⊢
 generalize w0.heap.size=base at hval0
 suffices hgo:Calls Tryz.prog 3 args W fun e W'=>∃ v,e = .returned v∧Rows.fnShortSpec.post enc Tryz.prog Tryz.f3 false true false false W args v W' from hgo.mono fun e W' ⟨v,he,hp⟩=>by subst he;exact ChangeSpec.post_blind hp
 have hval:∀ (j:Nat) t v,Tryz.f3.params[j]?=some t→args[j]?=some v→Value.okWide Tryz.prog W .any base t v:=hval0
 have hW':=hW
 obtain ⟨p,q,hA0,hV,rfl,hfz,hnd⟩:=hW
 have hA:DataW.TrodAll enc Tryz.prog W 0 (fun _=>true) true Tryz.f3.params.toList args.toList ds p:=hA0
 rw [Tryz.params3] at hA hval
 obtain ⟨v0,vs0,d0,ds0,p0,q0,hargs,rfl,rfl,h0,r0⟩:=trodAll_cons hA
 obtain ⟨rfl,rfl,rfl⟩:=trodAll_nil r0
 obtain rfl:args = #[v0]:=by cases args;simp_all
 obtain ⟨rfl,rfl⟩:=trodVars_none hV
 obtain ⟨c0,len0,cap0,rfl⟩:=okWide_slice Tryz.underlying22 (hval 0 22 v0 rfl rfl)
 have lt0:∀ x ∈ p0,x.block<W.heap.size:=by obtain ⟨m,hm⟩:=h0;exact DataW.trod_lt m _ _ _ hm
 obtain ⟨l0,k0,e0,g0⟩:=arg_open kindsOk (T:=22) (ks:=[.sl .u8]) (by kernel_rfl) h0
 replace k0:=cY_ k0;obtain ⟨_,_,rfl,⟨z0,rfl⟩,k0⟩:=k0
 replace k0:=dm_ k0;subst k0
 have hT:Lib.TabIs Tryz.prog W "internal/strconv.uint64pow10" .u64 Lib.pow10Tab:=Lib.tabIs_of_head (t:=242) (e:=225) (n:=20) ks_ (by kernel_rfl) (by kernel_rfl) (by kernel_rfl) (by kernel_rfl) (by kernel_rfl) (show laidMet Tryz.prog ((_,Lib.tabData .u64 Lib.pow10Tab)::_) W from hL.tail.tail)
 obtain ⟨mx,hmx⟩:=cell_of_shapedOpen_int (g:=1) (t:=3) (k:=.i64) (zero:=#[.int .i64 0]) hsh (by decide +kernel) (by kernel_rfl) rfl (by kernel_rfl) (by kernel_rfl) (by kernel_rfl)
 have hgl:Glob E W NoF:=fun p hp=>by
  rcases List.mem_cons.1 hp with rfl|hp
  · obtain ⟨T,fr,h⟩:=tab_glob hT ks_;exact ⟨⟨_,T,fr,h,rfl⟩,fun h=>h.elim⟩
  rcases List.mem_singleton.1 hp with rfl
  exact ⟨int_glob hmx,fun h=>h.elim⟩
 obtain ⟨n,hn⟩:=hp z0 g0
 refine (law_true ((AllE.get (e:=laws_FnShort.e) 0 (allOk n) (by kernel_rfl)) (z0,()) _ hn) hgl (RL.cons e0 (.nil _ fun _=>rfl) (fun b=>rfl))).mono fun e W' ⟨he,bel⟩ => ?_
 subst he
 exact ⟨_,rfl,_,_,_,[],_,[],hW',trodAll_mk1 (shut_bool Tryz.underlying4 _),(trodAll_cons_mk (Below.trod laidOut (by kernel_rfl) (of_decide_eq_true (by kernel_rfl)) h0 bel lt0) trodAll_mk0),rfl,bel.frame _,fun h=>by cases h⟩
theorem jf0:(Rows.fnShortRow.wf (OpenSpec.ofChange Rows.fnShortSpec))=true:=by kernel_rfl
theorem jf1:(laidOutB Tryz.prog)=true:=by kernel_rfl
theorem jf2:(mapsRowed Tryz.prog)=true:=by kernel_rfl
theorem jf3:(Tryz.f3.params.all (Tryz.prog.readableRec ·))=true:=by kernel_rfl
theorem jf4:(namedTie Tryz.prog Rows.fnShortRow.named Rows.fnShortSpec.vars)=true:=by kernel_rfl
theorem jf5:((Rows.fnShortRow.stops == []))=true:=by kernel_rfl
theorem jf6:((Tryz.prog.stops == []))=true:=by kernel_rfl
theorem jf7:((Rows.fnShortRow.knobs == []))=true:=by kernel_rfl
theorem jf8:((Tryz.prog.stopKnobs == []))=true:=by kernel_rfl
theorem jf9:((Rows.fnShortRow.inPlace == Tryz.prog.inPlace 3))=true:=by kernel_rfl
theorem jf10:((Rows.fnShortRow.unfollowed == Tryz.prog.unfollowed 3))=true:=by kernel_rfl
theorem jf11:((Rows.fnShortRow.recurses == Tryz.prog.recurses 3))=true:=by kernel_rfl
theorem jf12:((Rows.fnShortRow.named == Tryz.prog.varsNamed 3))=true:=by kernel_rfl
theorem jf13:((Rows.fnShortRow.maps == (Tryz.f3.params.toList++Rows.fnShortSpec.plain.varTypes Tryz.prog).any (Tryz.prog.mapsRec ·)))=true:=by kernel_rfl
theorem jf14:((Rows.fnShortRow.ifaces == (Tryz.f3.params.toList++Rows.fnShortSpec.plain.varTypes Tryz.prog).any (Tryz.prog.ifacesRec ·)))=true:=by kernel_rfl
theorem jf15:((Rows.fnShortRow.mapsOut == Tryz.prog.mapsAmong Tryz.f3.resultTypes.toList))=true:=by kernel_rfl
theorem jf16:((Rows.fnShortRow.loops == (Tryz.f3.params.toList++Rows.fnShortSpec.plain.varTypes Tryz.prog).any (Tryz.prog.loopsFrom ·)))=true:=by kernel_rfl
theorem jf17:((Rows.fnShortRow.wideKeys == (Tryz.f3.params.toList++Rows.fnShortSpec.plain.varTypes Tryz.prog++Tryz.f3.resultTypes.toList).any (Tryz.prog.wideKeysFrom ·)))=true:=by kernel_rfl
theorem jf18:(Rows.fnShortSpec.vars.all (Tryz.prog.varReadable ·))=true:=by kernel_rfl
theorem jf19:(Tryz.f3.resultTypes.all (fun t=>Tryz.prog.readableRec t&&decide (t<Tryz.prog.types.size)))=true:=by kernel_rfl
theorem jf20:((Rows.fnShortRow.ifacesOut == Tryz.f3.resultTypes.toList.any (Tryz.prog.ifacesRec ·)))=true:=by kernel_rfl
theorem jf21:((Rows.fnShortRow.loopsOut == Tryz.f3.resultTypes.toList.any (Tryz.prog.loopsFrom ·)))=true:=by kernel_rfl
theorem jf22:((Rows.fnShortRow.plainKeys == Tryz.prog.plainKeys))=true:=by kernel_rfl
theorem jf23:(Rows.fnShortRow.shortTexts.isNone)=true:=by kernel_rfl
theorem jf24:(Tryz.prog.stopsHeard)=true:=by kernel_rfl
theorem jf25:(Tryz.prog.mayEnter)=true:=by kernel_rfl
theorem jf26:((Rows.fnShortRow.lifted == Tryz.prog.liftsFinal))=true:=by kernel_rfl
theorem jf27:((Tryz.prog.make == some Rows.fnShortRow.make))=true:=by kernel_rfl
theorem jf28:((Rows.fnShortRow.kinds == (if Rows.fnShortRow.domain.isEmpty then [] else Tryz.f3.params.toList.map fun t=>match Tryz.prog.underlying t with|some (.int k)=>some k|_=>none)))=true:=by kernel_rfl
theorem jf29:((Rows.fnShortRow.pinned == Rows.fnShortRow.pinnedBy))=true:=by kernel_rfl
theorem jf30:((Rows.fnShortRow.veiled == (Tryz.f3.params.toList++Rows.fnShortSpec.plain.varTypes Tryz.prog++Tryz.f3.resultTypes.toList).any (Tryz.prog.veiledRec ·)))=true:=by kernel_rfl
theorem jf31:(Rows.fnShortRow.veiledFits Tryz.prog Tryz.f3.params.toList (Tryz.f3.params.toList++Rows.fnShortSpec.plain.varTypes Tryz.prog++Tryz.f3.resultTypes.toList))=true:=by kernel_rfl
theorem h0_ {a b:Bool} (h:a=true) (k:b=true):(a&&b)=true:=by rw [h,k];rfl
theorem facts:joinedFacts Tryz.pinned.checked.prog 3 Tryz.f3 Rows.fnShortSpec Rows.fnShortRow=true:=(h0_ (h0_ (h0_ (h0_ (h0_ (h0_ (h0_ (h0_ (h0_ (h0_ (h0_ (h0_ (h0_ (h0_ (h0_ (h0_ (h0_ (h0_ (h0_ (h0_ (h0_ (h0_ (h0_ (h0_ (h0_ (h0_ (h0_ (h0_ (h0_ (h0_ (h0_ jf0 jf1) jf2) jf3) jf4) jf5) jf6) jf7) jf8) jf9) jf10) jf11) jf12) jf13) jf14) jf15) jf16) jf17) jf18) jf19) jf20) jf21) jf22) jf23) jf24) jf25) jf26) jf27) jf28) jf29) jf30) jf31)
theorem over (hp:Pure):Rows.fnShortRow.holds Tryz.pinned (OpenSpec.ofChange Rows.fnShortSpec) :=
 OpenClaim.holds_of_wide 3 Tryz.f3 rfl rfl rfl rfl rfl rfl rfl ⟨rfl,rfl,rfl,rfl,rfl⟩ rfl rfl rfl rfl rfl (by kernel_rfl) Tryz.func3 facts
  (of_decide_eq_true (by kernel_rfl)) (by unfold Func.isWrapper;first|(rw [if_pos (by decide +kernel)];kernel_rfl)|(rw [if_neg (by decide +kernel)];exact ⟨rfl,rfl⟩))
  (fun os started H enc _=>lifted hp os started H enc)
end laws_FnShort
theorem laws_FnShort.card (hp:laws_FnShort.Pure):Rows.FnShortCardSaid :=
 Claim7.holds_tied_plain_at .later [] [.data,.data,.data,.data,.pinned] true (true, "dbbf22aafad005238eed28e4217895b12395ff41278b626b8aa0d8fea5ae949e") true
  (laws_FnShort.over hp) (fun _ h=>by cases h) (by kernel_rfl) (fun _ h=>by cases h) fnShort_row_tie rfl ⟨rfl,rfl⟩ (by kernel_rfl) rfl
  (fun f fn hf hfn=>by
    obtain rfl:f=3:=Option.some.inj ((show Tryz.prog.funcNamed "loop.example/g00198/laws.FnShort" = some 3 by kernel_rfl).symm.trans hf) |>.symm
    obtain rfl:fn=Tryz.f3:=(Option.some.inj (Tryz.func3.symm.trans hfn)).symm
    exact ⟨by kernel_rfl,fun j t ht=>by
     rw [Tryz.params3] at ht
     have hm:t ∈ ([22]:List TypeId):=List.mem_of_getElem? (show ([22]:List TypeId)[j]?=some t by simpa using ht)
     have:=List.all_eq_true.1 (show ([22]:List TypeId).all (fun t => !Tryz.prog.wantsStandIn t)=true by kernel_rfl) t hm
     exact (by simpa using this:Tryz.prog.wantsStandIn t=false)⟩)
  (by kernel_rfl)
end Go.Pi
end
section
namespace Go.Pi
section
variable {α β:Type}
def Ev (f:Nat→Nat→Option α) (v:α):Prop:=∃ M,∀ n N,M≤n→M≤N→f n N=some v
theorem af_ {v w:α}:Ev (fun _ _=>some v) w↔v=w :=
 ⟨fun ⟨M,h⟩=>Option.some.inj (h M M (Nat.le_refl _) (Nat.le_refl _)),fun h=>⟨0,fun _ _ _ _=>by rw [h]⟩⟩
theorem c0_ {f:Nat→Nat→Option α} {v w:α} (h:Ev f v):Ev f w↔v=w:=by
 constructor
 · rintro ⟨M',h'⟩
   obtain ⟨M,h⟩:=h
   have a:=h (max M M') (max M M') (by omega) (by omega)
   have b:=h' (max M M') (max M M') (by omega) (by omega)
   rw [a] at b
   exact Option.some.inj b
 · rintro rfl;exact h
theorem ab_ {f:Nat→Nat→Option α} {a:α} (h:Ev f a) {g:Nat→Nat→α→Option β} {v:β}:Ev (fun n N=>(f n N).bind (g n N)) v↔Ev (fun n N=>g n N a) v:=by
 obtain ⟨M,h⟩:=h
 constructor
 · rintro ⟨M',h'⟩
   refine ⟨max M M',fun n N h1 h2 => ?_⟩
   have:=h' n N (by omega) (by omega)
   simp only [h n N (by omega) (by omega),Option.bind_some] at this
   exact this
 · rintro ⟨M',h'⟩
   refine ⟨max M M',fun n N h1 h2 => ?_⟩
   simp only [h n N (by omega) (by omega),Option.bind_some]
   exact h' n N (by omega) (by omega)
theorem c9_ {v:α}:Ev (fun _ _=>none) v↔False:=by
 simp only [iff_false]
 rintro ⟨M,h⟩
 cases h M M (Nat.le_refl _) (Nat.le_refl _)
theorem ao_ {c:Bool} {f g:Nat→Nat→Option α} {v:α}:Ev (fun n N=>cond c (f n N) (g n N)) v↔(c=true→Ev f v)∧(c=false→Ev g v):=by
 cases c<;>simp
theorem bl_ {i:Int} {len:Nat} {f:Nat→Nat→Option α} {v:α}:Ev (fun n N=>inB i len (f n N)) v↔(0≤i∧i<(len:Int))∧Ev f v:=by
 unfold inB
 rw [ao_,ao_]
 by_cases h1:0≤i<;>by_cases h2:i<(len:Int)<;>simp [h1,h2,c9_]
theorem as_ {f:Nat→Nat→Option α} {v:α} (h:Ev (fun n N=>f (n+1) N) v):Ev f v:=by
 obtain ⟨M,h⟩:=h
 refine ⟨M+1,fun n N h1 h2 => ?_⟩
 obtain ⟨m,rfl⟩:∃ m,n=m+1:=⟨n - 1,by omega⟩
 exact h m N (by omega) (by omega)
theorem en_ {f:Nat→Nat→Option α} {v:α} (h:Ev f v):Ev (fun n _=>f n n) v:=by
 obtain ⟨M,h⟩:=h
 exact ⟨M,fun n N h1 h2=>h n n h1 h1⟩
theorem cr_ {f:Nat→Nat→Option α} {v:α} (h:Ev (fun n N=>f n (N+1)) v):Ev f v:=by
 obtain ⟨M,h⟩:=h
 refine ⟨M+1,fun n N h1 h2 => ?_⟩
 obtain ⟨m,rfl⟩:∃ m,N=m+1:=⟨N - 1,by omega⟩
 exact h n m (by omega) (by omega)
theorem ev_ex {f:Nat→Option α} {v:α} (h:Ev (fun n _=>f n) v):∃ n,f n=some v:=by
 obtain ⟨M,h⟩:=h
 exact ⟨M,h M M (Nat.le_refl _) (Nat.le_refl _)⟩
end
abbrev bR_:Nat:=9223372036854775807
theorem W_id {n:Int} (h : -9223372036854775808≤n) (h':n<9223372036854775808):W n=n:=by
 show IntKind.i64.wrap n=n
 rw [IntKind.wrap_i64];omega
theorem W_up {i:Nat} {len:Nat} (h:i<len) (hl:len≤bR_):W ((i:Int)+1)=((i+1:Nat):Int):=by
 rw [W_id (by omega) (by simp only [bR_] at hl;omega)];omega
theorem f6_ {α:Type} (d:α) {a:List α} {i:Nat} (h:i<a.length):a.drop i=a.getD i d::a.drop (i+1):=by
 rw [List.drop_eq_getElem_cons h,List.getD_eq_getElem?_getD,List.getElem?_eq_getElem h];rfl
theorem bH_ {α:Type} (d:α) {a:List α} {i:Nat} (h:i<a.length):a.getD i d ∈ a:=by
 rw [List.getD_eq_getElem?_getD,List.getElem?_eq_getElem h];exact List.getElem_mem h
end Go.Pi
end
section
namespace Go.Pi
theorem bS_.turn4 {n N k}:bS_.loop4 n k (N+1)=bS_.step4 n k (bS_.loop4 n k N):=rfl
theorem aI_.turn4 {n N k}:aI_.loop4 n k (N+1)=aI_.step4 n k (aI_.loop4 n k N):=rfl
theorem aW_.turn3 {n N k}:aW_.loop3 n k (N+1)=aW_.step3 n k (aW_.loop3 n k N):=rfl
theorem a0_.turn4 {n N k}:a0_.loop4 n k (N+1)=a0_.step4 n k (a0_.loop4 n k N):=rfl
theorem b0_.turn3 {n N k}:b0_.loop3 n k (N+1)=b0_.step3 n k (b0_.loop3 n k N):=rfl
theorem a9_.turn5 {n N k}:a9_.loop5 n k (N+1)=a9_.step5 n k (a9_.loop5 n k N):=rfl
theorem bo_.turn6 {n N k}:bo_.loop6 n k (N+1)=bo_.step6 n k (bo_.loop6 n k N):=rfl
theorem aU_.turn4 {n N k}:aU_.loop4 n k (N+1)=aU_.step4 n k (aU_.loop4 n k N):=rfl
theorem aK_.turn4 {n N k}:aK_.loop4 n k (N+1)=aK_.step4 n k (aK_.loop4 n k N):=rfl
theorem ai_.turn7 {n N k}:ai_.loop7 n k (N+1)=ai_.step7 n k (ai_.loop7 n k N):=rfl
theorem ai_.turn16 {n N k}:ai_.loop16 n k (N+1)=ai_.step16 n k (ai_.loop16 n k N):=rfl
theorem b3_.turn6 {n N k}:b3_.loop6 n k (N+1)=b3_.step6 n k (b3_.loop6 n k N):=rfl
theorem bK_.turn3 {n N k}:bK_.loop3 n k (N+1)=bK_.step3 n k (bK_.loop3 n k N):=rfl
theorem bj_.turn6 {n N k}:bj_.loop6 n k (N+1)=bj_.step6 n k (bj_.loop6 n k N):=rfl
theorem ay_.turn7 {n N k}:ay_.loop7 n k (N+1)=ay_.step7 n k (ay_.loop7 n k N):=rfl
theorem ay_.turn16 {n N k}:ay_.loop16 n k (N+1)=ay_.step16 n k (ay_.loop16 n k N):=rfl
theorem bw_.turn3 {n N k}:bw_.loop3 n k (N+1)=bw_.step3 n k (bw_.loop3 n k N):=rfl
theorem bA_.turn5 {n N k}:bA_.loop5 n k (N+1)=bA_.step5 n k (bA_.loop5 n k N):=rfl
theorem br_.turn8 {n N k}:br_.loop8 n k (N+1)=br_.step8 n k (br_.loop8 n k N):=rfl
theorem aL_.turn5 {n N k}:aL_.loop5 n k (N+1)=aL_.step5 n k (aL_.loop5 n k N):=rfl
theorem bJ_.turn8 {n N k}:bJ_.loop8 n k (N+1)=bJ_.step8 n k (bJ_.loop8 n k N):=rfl
theorem bC_.turn4 {n N k}:bC_.loop4 n k (N+1)=bC_.step4 n k (bC_.loop4 n k N):=rfl
theorem bh_.turn4 {n N k}:bh_.loop4 n k (N+1)=bh_.step4 n k (bh_.loop4 n k N):=rfl
theorem aB_.turn5 {n N k}:aB_.loop5 n k (N+1)=aB_.step5 n k (aB_.loop5 n k N):=rfl
theorem bs_.turn12 {n N k}:bs_.loop12 n k (N+1)=bs_.step12 n k (bs_.loop12 n k N):=rfl
theorem aN_.turn4 {n N k}:aN_.loop4 n k (N+1)=aN_.step4 n k (aN_.loop4 n k N):=rfl
theorem aG_.turn7 {n N k}:aG_.loop7 n k (N+1)=aG_.step7 n k (aG_.loop7 n k N):=rfl
theorem aO_.turn6 {n N k}:aO_.loop6 n k (N+1)=aO_.step6 n k (aO_.loop6 n k N):=rfl
theorem aY_.turn6 {n N k}:aY_.loop6 n k (N+1)=aY_.step6 n k (aY_.loop6 n k N):=rfl
theorem ax_.turn3 {n N k}:ax_.loop3 n k (N+1)=ax_.step3 n k (ax_.loop3 n k N):=rfl
theorem au_.turn3 {n N k}:au_.loop3 n k (N+1)=au_.step3 n k (au_.loop3 n k N):=rfl
theorem bp_.turn7 {n N k0 k1}:bp_.loop7 n k0 k1 (N+1)=bp_.step7 n k0 k1 (bp_.loop7 n k0 k1 N):=rfl
theorem bW_.turn3 {n N k}:bW_.loop3 n k (N+1)=bW_.step3 n k (bW_.loop3 n k N):=rfl
theorem aQ_.turn4 {n N k}:aQ_.loop4 n k (N+1)=aQ_.step4 n k (aQ_.loop4 n k N):=rfl
theorem aX_.turn3 {n N k}:aX_.loop3 n k (N+1)=aX_.step3 n k (aX_.loop3 n k N):=rfl
theorem ak_.turn4 {n N k}:ak_.loop4 n k (N+1)=ak_.step4 n k (ak_.loop4 n k N):=rfl
theorem bL_.turn4 {n N k}:bL_.loop4 n k (N+1)=bL_.step4 n k (bL_.loop4 n k N):=rfl
theorem bB_.turn4 {n N k}:bB_.loop4 n k (N+1)=bB_.step4 n k (bB_.loop4 n k N):=rfl
theorem bf_.turn4 {n N k}:bf_.loop4 n k (N+1)=bf_.step4 n k (bf_.loop4 n k N):=rfl
theorem bO_.turn5 {n N k}:bO_.loop5 n k (N+1)=bO_.step5 n k (bO_.loop5 n k N):=rfl
theorem bk_.turn7 {n N k}:bk_.loop7 n k (N+1)=bk_.step7 n k (bk_.loop7 n k N):=rfl
theorem ad_.turn3 {n N k}:ad_.loop3 n k (N+1)=ad_.step3 n k (ad_.loop3 n k N):=rfl
theorem aF_.turn6 {n N k}:aF_.loop6 n k (N+1)=aF_.step6 n k (aF_.loop6 n k N):=rfl
theorem ag_.turn6 {n N k0 k1}:ag_.loop6 n k0 k1 (N+1)=ag_.step6 n k0 k1 (ag_.loop6 n k0 k1 N):=rfl
theorem aS_.turn4 {n N k0 k1}:aS_.loop4 n k0 k1 (N+1)=aS_.step4 n k0 k1 (aS_.loop4 n k0 k1 N):=rfl
theorem a3_.turn9 {n N k}:a3_.loop9 n k (N+1)=a3_.step9 n k (a3_.loop9 n k N):=rfl
theorem a3_.turn17 {n N k}:a3_.loop17 n k (N+1)=a3_.step17 n k (a3_.loop17 n k N):=rfl
theorem bV_.turn4 {n N k}:bV_.loop4 n k (N+1)=bV_.step4 n k (bV_.loop4 n k N):=rfl
theorem cg_.turn3 {n N k}:cg_.loop3 n k (N+1)=cg_.step3 n k (cg_.loop3 n k N):=rfl
theorem bF_.turn4 {n N k}:bF_.loop4 n k (N+1)=bF_.step4 n k (bF_.loop4 n k N):=rfl
theorem bg_.turn4 {n N k}:bg_.loop4 n k (N+1)=bg_.step4 n k (bg_.loop4 n k N):=rfl
theorem bD_.turn4 {n N k}:bD_.loop4 n k (N+1)=bD_.step4 n k (bD_.loop4 n k N):=rfl
theorem a2_.turn4 {n N k0 k1}:a2_.loop4 n k0 k1 (N+1)=a2_.step4 n k0 k1 (a2_.loop4 n k0 k1 N):=rfl
theorem ae_.turn3 {n N k}:ae_.loop3 n k (N+1)=ae_.step3 n k (ae_.loop3 n k N):=rfl
theorem bq_.turn3 {n N k}:bq_.loop3 n k (N+1)=bq_.step3 n k (bq_.loop3 n k N):=rfl
theorem bI_.turn3 {n N k}:bI_.loop3 n k (N+1)=bI_.step3 n k (bI_.loop3 n k N):=rfl
theorem bM_.turn3 {n N k}:bM_.loop3 n k (N+1)=bM_.step3 n k (bM_.loop3 n k N):=rfl
theorem ac_.turn6 {n N k}:ac_.loop6 n k (N+1)=ac_.step6 n k (ac_.loop6 n k N):=rfl
theorem aM_.turn23 {n N k0 k1}:aM_.loop23 n k0 k1 (N+1)=aM_.step23 n k0 k1 (aM_.loop23 n k0 k1 N):=rfl
theorem bP_.turn3 {n N k}:bP_.loop3 n k (N+1)=bP_.step3 n k (bP_.loop3 n k N):=rfl
theorem aV_.turn7 {n N k}:aV_.loop7 n k (N+1)=aV_.step7 n k (aV_.loop7 n k N):=rfl
theorem bx_.turn5 {n N k}:bx_.loop5 n k (N+1)=bx_.step5 n k (bx_.loop5 n k N):=rfl
theorem bv_.turn4 {n N k}:bv_.loop4 n k (N+1)=bv_.step4 n k (bv_.loop4 n k N):=rfl
theorem bb_.turn5 {n N k}:bb_.loop5 n k (N+1)=bb_.step5 n k (bb_.loop5 n k N):=rfl
theorem ce_.turn3 {n N k}:ce_.loop3 n k (N+1)=ce_.step3 n k (ce_.loop3 n k N):=rfl
theorem aH_.turn3 {n N k}:aH_.loop3 n k (N+1)=aH_.step3 n k (aH_.loop3 n k N):=rfl
theorem aH_.turn11 {n N k}:aH_.loop11 n k (N+1)=aH_.step11 n k (aH_.loop11 n k N):=rfl
theorem av_.turn6 {n N k0 k1}:av_.loop6 n k0 k1 (N+1)=av_.step6 n k0 k1 (av_.loop6 n k0 k1 N):=rfl
theorem av_.turn14 {n N k0 k1}:av_.loop14 n k0 k1 (N+1)=av_.step14 n k0 k1 (av_.loop14 n k0 k1 N):=rfl
theorem bd_.turn4 {n N k0 k1}:bd_.loop4 n k0 k1 (N+1)=bd_.step4 n k0 k1 (bd_.loop4 n k0 k1 N):=rfl
theorem aE_.turn5 {n N k}:aE_.loop5 n k (N+1)=aE_.step5 n k (aE_.loop5 n k N):=rfl
theorem aE_.turn13 {n N k}:aE_.loop13 n k (N+1)=aE_.step13 n k (aE_.loop13 n k N):=rfl
theorem bT_.turn4 {n N k}:bT_.loop4 n k (N+1)=bT_.step4 n k (bT_.loop4 n k N):=rfl
theorem cb_.turn6 {n N k}:cb_.loop6 n k (N+1)=cb_.step6 n k (cb_.loop6 n k N):=rfl
theorem aC_.turn10 {n N k}:aC_.loop10 n k (N+1)=aC_.step10 n k (aC_.loop10 n k N):=rfl
theorem aC_.turn4 {n N k}:aC_.loop4 n k (N+1)=aC_.step4 n k (aC_.loop4 n k N):=rfl
theorem be_.turn4 {n N k}:be_.loop4 n k (N+1)=be_.step4 n k (be_.loop4 n k N):=rfl
theorem aJ_.turn17 {n N k0 k1}:aJ_.loop17 n k0 k1 (N+1)=aJ_.step17 n k0 k1 (aJ_.loop17 n k0 k1 N):=rfl
theorem aP_.turn4 {n N k}:aP_.loop4 n k (N+1)=aP_.step4 n k (aP_.loop4 n k N):=rfl
theorem a4_.turn4 {n N k}:a4_.loop4 n k (N+1)=a4_.step4 n k (a4_.loop4 n k N):=rfl
theorem b1_.turn4 {n N k}:b1_.loop4 n k (N+1)=b1_.step4 n k (b1_.loop4 n k N):=rfl
theorem bG_.turn3 {n N k}:bG_.loop3 n k (N+1)=bG_.step3 n k (bG_.loop3 n k N):=rfl
theorem aZ_.turn7 {n N k}:aZ_.loop7 n k (N+1)=aZ_.step7 n k (aZ_.loop7 n k N):=rfl
theorem aZ_.turn16 {n N k}:aZ_.loop16 n k (N+1)=aZ_.step16 n k (aZ_.loop16 n k N):=rfl
theorem co_.turn3 {n N k}:co_.loop3 n k (N+1)=co_.step3 n k (co_.loop3 n k N):=rfl
theorem cd_.turn3 {n N k}:cd_.loop3 n k (N+1)=cd_.step3 n k (cd_.loop3 n k N):=rfl
theorem ap_.turn3 {n N k}:ap_.loop3 n k (N+1)=ap_.step3 n k (ap_.loop3 n k N):=rfl
theorem ba_.turn6 {n N k}:ba_.loop6 n k (N+1)=ba_.step6 n k (ba_.loop6 n k N):=rfl
theorem ba_.turn15 {n N k}:ba_.loop15 n k (N+1)=ba_.step15 n k (ba_.loop15 n k N):=rfl
end Go.Pi
end
