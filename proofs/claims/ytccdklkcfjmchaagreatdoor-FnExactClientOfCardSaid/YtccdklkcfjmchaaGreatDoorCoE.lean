/- The program's ClientOf returns what the reference's returns, for all arguments, and returns memory that it shares with nothing. Text 5 of 7. -/
import Derived.Test.YtccdklkcfjmchaaGreatDoorCoD
import Derived.Shelf.RegionOpenPlain
import Derived.WalkKit
import Derived.Deep.RegionLaw
import Derived.Lib.Walk
import Derived.Lib.SliceRun
import Derived.Laws.CopyRow
import Derived.RowKit
import Derived.Lib.Overlaps
import Derived.Lib.AppendZerosOnto
import Derived.Laws.NewBlocks
import Derived.Laws.Externs
import Derived.Shelf.Strings.Search3
import Derived.Shelf.Strconv.AtoiAll
import Derived.Shelf.Strings.Search2
import Derived.Shelf.Strings.OnBuilder
import Derived.Shelf.Strings.Split
import Derived.Shelf.Strings.Replace
import Derived.ChangeArms
import Derived.DataReads
import Derived.ChangeOld
import Derived.Test.YtccdklkcfjmchaaGreatDoorRows
import Derived.ProofKit
import Derived.OpenShut
import Derived.JoinedOf
import Derived.JoinedAt
import Derived.ChangeVars
import Derived.ChangeMaps5
import Derived.Test.YtccdklkcfjmchaaGreatDoorTie
import Derived.Test.YtccdklkcfjmchaaGreatDoorCards
import Derived.IntWalk
set_option linter.unusedVariables false
set_option maxRecDepth 100000
set_option linter.unusedSimpArgs false
section
namespace Go.Pi
open Go.Proofs
noncomputable def bd_.fs (n:Nat):bd_.d.Fs:=(fun _ κe=>bd_.loop3 n (bd_.o0.k (κe 0)) n,())
theorem bd_.r3 (n:Nat):bd_.d.Round (bd_.fs n) (cx n bd_.d.nt) (cN_ Tryz.f71) 3 bd_.p3 (fun κe=>bd_.step3 n (bd_.o0.k (κe 0))):=fun κ κe x y=>by kernel_rfl
theorem bd_.ok (n:Nat):CxOk E (cx n bd_.d.nt)→KPar (cx n bd_.d.nt)→bd_.d.Ok E (bd_.F (n+1)) :=
 FD.ok (fs:=bd_.fs n) aW_ Tryz.func71 (by kernel_rfl) (by kernel_rfl) (by kernel_rfl) (by kernel_rfl) (fun _=>by kernel_rfl) (by kernel_rfl) (fun x=>by kernel_rfl) (.cons (FD.lp n (bd_.r3 n) (by kernel_rfl) fun _ _=>by kernel_rfl) (.nil))
noncomputable def aY_.fs (n:Nat):aY_.d.Fs:=(fun _ κe=>aY_.loop5 n (aY_.o0.k (κe 0)) n,())
theorem aY_.r5 (n:Nat):aY_.d.Round (aY_.fs n) (cx n aY_.d.nt) (cN_ Tryz.f43) 5 aY_.p5 (fun κe=>aY_.step5 n (aY_.o0.k (κe 0))):=fun κ κe x y=>by kernel_rfl
theorem aY_.ok (n:Nat):CxOk E (cx n aY_.d.nt)→KPar (cx n aY_.d.nt)→aY_.d.Ok E (aY_.F (n+1)) :=
 FD.ok (fs:=aY_.fs n) aW_ Tryz.func43 (by kernel_rfl) (by kernel_rfl) (by kernel_rfl) (by kernel_rfl) (fun _=>by kernel_rfl) (by kernel_rfl) (fun x=>by kernel_rfl) (.cons (FD.lp n (aY_.r5 n) (by kernel_rfl) fun _ _=>by kernel_rfl) (.nil))
noncomputable def bJ_.fs (n:Nat):bJ_.d.Fs:=()
theorem bJ_.ok (n:Nat):CxOk E (cx n bJ_.d.nt)→KPar (cx n bJ_.d.nt)→bJ_.d.Ok E (bJ_.F (n+1)) :=
 FD.ok (fs:=bJ_.fs n) aW_ Tryz.func44 (by kernel_rfl) (by kernel_rfl) (by kernel_rfl) (by kernel_rfl) (fun _=>by kernel_rfl) (by kernel_rfl) (fun x=>by kernel_rfl) (.nil)
noncomputable def b5_.fs (n:Nat):b5_.d.Fs:=()
theorem b5_.ok (n:Nat):CxOk E (cx n b5_.d.nt)→KPar (cx n b5_.d.nt)→b5_.d.Ok E (b5_.F (n+1)) :=
 FD.ok (fs:=b5_.fs n) aW_ Tryz.func112 (by kernel_rfl) (by kernel_rfl) (by kernel_rfl) (by kernel_rfl) (fun _=>by kernel_rfl) (by kernel_rfl) (fun x=>by kernel_rfl) (.nil)
noncomputable def az_.fs (n:Nat):az_.d.Fs:=(fun _ κe=>az_.loop7 n (az_.o0.k (κe 0)) n,())
theorem az_.r7 (n:Nat):az_.d.Round (az_.fs n) (cx n az_.d.nt) (cN_ Tryz.f75) 7 az_.p7 (fun κe=>az_.step7 n (az_.o0.k (κe 0))):=fun κ κe x y=>by kernel_rfl
theorem az_.ok (n:Nat):CxOk E (cx n az_.d.nt)→KPar (cx n az_.d.nt)→az_.d.Ok E (az_.F (n+1)) :=
 FD.ok (fs:=az_.fs n) aW_ Tryz.func75 (by kernel_rfl) (by kernel_rfl) (by kernel_rfl) (by kernel_rfl) (fun _=>by kernel_rfl) (by kernel_rfl) (fun x=>by kernel_rfl) (.cons (FD.lp n (az_.r7 n) (by kernel_rfl) fun _ _=>by kernel_rfl) (.nil))
noncomputable def aJ_.fs (n:Nat):aJ_.d.Fs:=(fun _ κe=>aJ_.loop7 n (aJ_.o0.k (κe 0)) n,())
theorem aJ_.r7 (n:Nat):aJ_.d.Round (aJ_.fs n) (cx n aJ_.d.nt) (cN_ Tryz.f76) 7 aJ_.p7 (fun κe=>aJ_.step7 n (aJ_.o0.k (κe 0))):=fun κ κe x y=>by kernel_rfl
theorem aJ_.ok (n:Nat):CxOk E (cx n aJ_.d.nt)→KPar (cx n aJ_.d.nt)→aJ_.d.Ok E (aJ_.F (n+1)) :=
 FD.ok (fs:=aJ_.fs n) aW_ Tryz.func76 (by kernel_rfl) (by kernel_rfl) (by kernel_rfl) (by kernel_rfl) (fun _=>by kernel_rfl) (by kernel_rfl) (fun x=>by kernel_rfl) (.cons (FD.lp n (aJ_.r7 n) (by kernel_rfl) fun _ _=>by kernel_rfl) (.nil))
noncomputable def cw_.fs (n:Nat):cw_.d.Fs:=()
theorem cw_.ok (n:Nat):CxOk E (cx n cw_.d.nt)→KPar (cx n cw_.d.nt)→cw_.d.Ok E (cw_.F (n+1)) :=
 FD.ok (fs:=cw_.fs n) aW_ Tryz.func45 (by kernel_rfl) (by kernel_rfl) (by kernel_rfl) (by kernel_rfl) (fun _=>by kernel_rfl) (by kernel_rfl) (fun x=>by kernel_rfl) (.nil)
noncomputable def bB_.fs (n:Nat):bB_.d.Fs:=()
theorem bB_.ok (n:Nat):CxOk E (cx n bB_.d.nt)→KPar (cx n bB_.d.nt)→bB_.d.Ok E (bB_.F (n+1)) :=
 FD.ok (fs:=bB_.fs n) aW_ Tryz.func113 (by kernel_rfl) (by kernel_rfl) (by kernel_rfl) (by kernel_rfl) (fun _=>by kernel_rfl) (by kernel_rfl) (fun x=>by kernel_rfl) (.nil)
noncomputable def aA_.fs (n:Nat):aA_.d.Fs:=(fun _ κe=>aA_.loop4 n (aA_.o0.k (κe 0)) n,())
theorem aA_.r4 (n:Nat):aA_.d.Round (aA_.fs n) (cx n aA_.d.nt) (cN_ Tryz.f114) 4 aA_.p4 (fun κe=>aA_.step4 n (aA_.o0.k (κe 0))):=fun κ κe x y=>by kernel_rfl
theorem aA_.ok (n:Nat):CxOk E (cx n aA_.d.nt)→KPar (cx n aA_.d.nt)→aA_.d.Ok E (aA_.F (n+1)) :=
 FD.ok (fs:=aA_.fs n) aW_ Tryz.func114 (by kernel_rfl) (by kernel_rfl) (by kernel_rfl) (by kernel_rfl) (fun _=>by kernel_rfl) (by kernel_rfl) (fun x=>by kernel_rfl) (.cons (FD.lp n (aA_.r4 n) (by kernel_rfl) fun _ _=>by kernel_rfl) (.nil))
noncomputable def aU_.fs (n:Nat):aU_.d.Fs:=(fun _ κe=>aU_.loop8 n (bn_ n) (aU_.o0.k (κe 0)) n,())
theorem aU_.r8 (n:Nat):aU_.d.Round (aU_.fs n) (cx n aU_.d.nt) (cN_ Tryz.f115) 8 aU_.p8 (fun κe=>aU_.step8 n (bn_ n) (aU_.o0.k (κe 0))):=fun κ κe x y=>by kernel_rfl
theorem aU_.ok (n:Nat):CxOk E (cx n aU_.d.nt)→KPar (cx n aU_.d.nt)→aU_.d.Ok E (aU_.F (n+1)) :=
 FD.ok (fs:=aU_.fs n) aW_ Tryz.func115 (by kernel_rfl) (by kernel_rfl) (by kernel_rfl) (by kernel_rfl) (fun _=>by kernel_rfl) (by kernel_rfl) (fun x=>by kernel_rfl) (.cons (FD.lp n (aU_.r8 n) (by kernel_rfl) fun _ _=>by kernel_rfl) (.nil))
noncomputable def bn_.fs (n:Nat):bn_.d.Fs:=()
theorem bn_.ok (n:Nat):CxOk E (cx n bn_.d.nt)→KPar (cx n bn_.d.nt)→bn_.d.Ok E (bn_.F (n+1)) :=
 FD.ok (fs:=bn_.fs n) aW_ Tryz.func77 (by kernel_rfl) (by kernel_rfl) (by kernel_rfl) (by kernel_rfl) (fun _=>by kernel_rfl) (by kernel_rfl) (fun x=>by kernel_rfl) (.nil)
noncomputable def bf_.fs (n:Nat):bf_.d.Fs:=(fun _ κe=>bf_.loop3 n (bf_.o0.k (κe 0)) n,())
theorem bf_.r3 (n:Nat):bf_.d.Round (bf_.fs n) (cx n bf_.d.nt) (cN_ Tryz.f141) 3 bf_.p3 (fun κe=>bf_.step3 n (bf_.o0.k (κe 0))):=fun κ κe x y=>by kernel_rfl
theorem bf_.ok (n:Nat):CxOk E (cx n bf_.d.nt)→KPar (cx n bf_.d.nt)→bf_.d.Ok E (bf_.F (n+1)) :=
 FD.ok (fs:=bf_.fs n) aW_ Tryz.func141 (by kernel_rfl) (by kernel_rfl) (by kernel_rfl) (by kernel_rfl) (fun _=>by kernel_rfl) (by kernel_rfl) (fun x=>by kernel_rfl) (.cons (FD.lp n (bf_.r3 n) (by kernel_rfl) fun _ _=>by kernel_rfl) (.nil))
noncomputable def af_.fs (n:Nat):af_.d.Fs:=(fun _ κe=>af_.loop6 n (af_.o0.k (κe 0)) n,())
theorem af_.r6 (n:Nat):af_.d.Round (af_.fs n) (cx n af_.d.nt) (cN_ Tryz.f164) 6 af_.p6 (fun κe=>af_.step6 n (af_.o0.k (κe 0))):=fun κ κe x y=>by kernel_rfl
theorem af_.ok (n:Nat):CxOk E (cx n af_.d.nt)→KPar (cx n af_.d.nt)→af_.d.Ok E (af_.F (n+1)) :=
 FD.ok (fs:=af_.fs n) aW_ Tryz.func164 (by kernel_rfl) (by kernel_rfl) (by kernel_rfl) (by kernel_rfl) (fun _=>by kernel_rfl) (by kernel_rfl) (fun x=>by kernel_rfl) (.cons (FD.lp n (af_.r6 n) (by kernel_rfl) fun _ _=>by kernel_rfl) (.nil))
noncomputable def cT_.fs (n:Nat):cT_.d.Fs:=()
theorem cT_.ok (n:Nat):CxOk E (cx n cT_.d.nt)→KPar (cx n cT_.d.nt)→cT_.d.Ok E (cT_.F (n+1)) :=
 FD.ok (fs:=cT_.fs n) aW_ Tryz.func98 (by kernel_rfl) (by kernel_rfl) (by kernel_rfl) (by kernel_rfl) (fun _=>by kernel_rfl) (by kernel_rfl) (fun x=>by kernel_rfl) (.nil)
noncomputable def aG_.fs (n:Nat):aG_.d.Fs:=(fun _ κe=>aG_.loop23 n (aG_ n) (aG_.o1.k (κe 1)) n,())
theorem aG_.r23 (n:Nat):aG_.d.Round (aG_.fs n) (cx n aG_.d.nt) (cN_ Tryz.f131) 23 aG_.p23 (fun κe=>aG_.step23 n (aG_ n) (aG_.o1.k (κe 1))):=fun κ κe x y=>by kernel_rfl
theorem aG_.ok (n:Nat):CxOk E (cx n aG_.d.nt)→KPar (cx n aG_.d.nt)→aG_.d.Ok E (aG_.F (n+1)) :=
 FD.ok (fs:=aG_.fs n) aW_ Tryz.func131 (by kernel_rfl) (by kernel_rfl) (by kernel_rfl) (by kernel_rfl) (fun _=>by kernel_rfl) (by kernel_rfl) (fun x=>by kernel_rfl) (.cons (FD.lp n (aG_.r23 n) (by kernel_rfl) fun _ _=>by kernel_rfl) (.nil))
noncomputable def bZ_.fs (n:Nat):bZ_.d.Fs:=()
theorem bZ_.ok (n:Nat):CxOk E (cx n bZ_.d.nt)→KPar (cx n bZ_.d.nt)→bZ_.d.Ok E (bZ_.F (n+1)) :=
 FD.ok (fs:=bZ_.fs n) aW_ Tryz.func100 (by kernel_rfl) (by kernel_rfl) (by kernel_rfl) (by kernel_rfl) (fun _=>by kernel_rfl) (by kernel_rfl) (fun x=>by kernel_rfl) (.nil)
noncomputable def a4_.fs (n:Nat):a4_.d.Fs:=(fun _ κe=>a4_.loop4 n (a4_.o0.k (κe 0)) n,())
theorem a4_.r4 (n:Nat):a4_.d.Round (a4_.fs n) (cx n a4_.d.nt) (cN_ Tryz.f140) 4 a4_.p4 (fun κe=>a4_.step4 n (a4_.o0.k (κe 0))):=fun κ κe x y=>by kernel_rfl
theorem a4_.ok (n:Nat):CxOk E (cx n a4_.d.nt)→KPar (cx n a4_.d.nt)→a4_.d.Ok E (a4_.F (n+1)) :=
 FD.ok (fs:=a4_.fs n) aW_ Tryz.func140 (by kernel_rfl) (by kernel_rfl) (by kernel_rfl) (by kernel_rfl) (fun _=>by kernel_rfl) (by kernel_rfl) (fun x=>by kernel_rfl) (.cons (FD.lp n (a4_.r4 n) (by kernel_rfl) fun _ _=>by kernel_rfl) (.nil))
noncomputable def aD_.fs (n:Nat):aD_.d.Fs:=(fun _ κe=>aD_.loop17 n (aD_ n) (aD_.o1.k (κe 1)) n,())
theorem aD_.r17 (n:Nat):aD_.d.Round (aD_.fs n) (cx n aD_.d.nt) (cN_ Tryz.f116) 17 aD_.p17 (fun κe=>aD_.step17 n (aD_ n) (aD_.o1.k (κe 1))):=fun κ κe x y=>by kernel_rfl
theorem aD_.ok (n:Nat):CxOk E (cx n aD_.d.nt)→KPar (cx n aD_.d.nt)→aD_.d.Ok E (aD_.F (n+1)) :=
 FD.ok (fs:=aD_.fs n) aW_ Tryz.func116 (by kernel_rfl) (by kernel_rfl) (by kernel_rfl) (by kernel_rfl) (fun _=>by kernel_rfl) (by kernel_rfl) (fun x=>by kernel_rfl) (.cons (FD.lp n (aD_.r17 n) (by kernel_rfl) fun _ _=>by kernel_rfl) (.nil))
noncomputable def cn_.fs (n:Nat):cn_.d.Fs:=()
theorem cn_.ok (n:Nat):CxOk E (cx n cn_.d.nt)→KPar (cx n cn_.d.nt)→cn_.d.Ok E (cn_.F (n+1)) :=
 FD.ok (fs:=cn_.fs n) aW_ Tryz.func78 (by kernel_rfl) (by kernel_rfl) (by kernel_rfl) (by kernel_rfl) (fun _=>by kernel_rfl) (by kernel_rfl) (fun x=>by kernel_rfl) (.nil)
noncomputable def cE_.fs (n:Nat):cE_.d.Fs:=()
theorem cE_.ok (n:Nat):CxOk E (cx n cE_.d.nt)→KPar (cx n cE_.d.nt)→cE_.d.Ok E (cE_.F (n+1)) :=
 FD.ok (fs:=cE_.fs n) aW_ Tryz.func46 (by kernel_rfl) (by kernel_rfl) (by kernel_rfl) (by kernel_rfl) (fun _=>by kernel_rfl) (by kernel_rfl) (fun x=>by kernel_rfl) (.nil)
noncomputable def bI_.fs (n:Nat):bI_.d.Fs:=(fun _ κe=>bI_.loop3 n (bI_.o0.k (κe 0)) n,())
theorem bI_.r3 (n:Nat):bI_.d.Round (bI_.fs n) (cx n bI_.d.nt) (cN_ Tryz.f117) 3 bI_.p3 (fun κe=>bI_.step3 n (bI_.o0.k (κe 0))):=fun κ κe x y=>by kernel_rfl
theorem bI_.ok (n:Nat):CxOk E (cx n bI_.d.nt)→KPar (cx n bI_.d.nt)→bI_.d.Ok E (bI_.F (n+1)) :=
 FD.ok (fs:=bI_.fs n) aW_ Tryz.func117 (by kernel_rfl) (by kernel_rfl) (by kernel_rfl) (by kernel_rfl) (fun _=>by kernel_rfl) (by kernel_rfl) (fun x=>by kernel_rfl) (.cons (FD.lp n (bI_.r3 n) (by kernel_rfl) fun _ _=>by kernel_rfl) (.nil))
noncomputable def aH_.fs (n:Nat):aH_.d.Fs:=(fun _ κe=>aH_.loop4 n (aH_ n) (aH_.o0.k (κe 0)) n,())
theorem aH_.r4 (n:Nat):aH_.d.Round (aH_.fs n) (cx n aH_.d.nt) (cN_ Tryz.f61) 4 aH_.p4 (fun κe=>aH_.step4 n (aH_ n) (aH_.o0.k (κe 0))):=fun κ κe x y=>by kernel_rfl
theorem aH_.ok (n:Nat):CxOk E (cx n aH_.d.nt)→KPar (cx n aH_.d.nt)→aH_.d.Ok E (aH_.F (n+1)) :=
 FD.ok (fs:=aH_.fs n) aW_ Tryz.func61 (by kernel_rfl) (by kernel_rfl) (by kernel_rfl) (by kernel_rfl) (fun _=>by kernel_rfl) (by kernel_rfl) (fun x=>by kernel_rfl) (.cons (FD.lp n (aH_.r4 n) (by kernel_rfl) fun _ _=>by kernel_rfl) (.nil))
noncomputable def cP_.fs (n:Nat):cP_.d.Fs:=()
theorem cP_.ok (n:Nat):CxOk E (cx n cP_.d.nt)→KPar (cx n cP_.d.nt)→cP_.d.Ok E (cP_.F (n+1)) :=
 FD.ok (fs:=cP_.fs n) aW_ Tryz.func79 (by kernel_rfl) (by kernel_rfl) (by kernel_rfl) (by kernel_rfl) (fun _=>by kernel_rfl) (by kernel_rfl) (fun x=>by kernel_rfl) (.nil)
noncomputable def ce_.fs (n:Nat):ce_.d.Fs:=()
theorem ce_.ok (n:Nat):CxOk E (cx n ce_.d.nt)→KPar (cx n ce_.d.nt)→ce_.d.Ok E (ce_.F (n+1)) :=
 FD.ok (fs:=ce_.fs n) aW_ Tryz.func80 (by kernel_rfl) (by kernel_rfl) (by kernel_rfl) (by kernel_rfl) (fun _=>by kernel_rfl) (by kernel_rfl) (fun x=>by kernel_rfl) (.nil)
noncomputable def aT_.fs (n:Nat):aT_.d.Fs:=(fun _ κe=>aT_.loop6 n (aT_.o0.k (κe 0)) n,())
theorem aT_.r6 (n:Nat):aT_.d.Round (aT_.fs n) (cx n aT_.d.nt) (cN_ Tryz.f81) 6 aT_.p6 (fun κe=>aT_.step6 n (aT_.o0.k (κe 0))):=fun κ κe x y=>by kernel_rfl
theorem aT_.ok (n:Nat):CxOk E (cx n aT_.d.nt)→KPar (cx n aT_.d.nt)→aT_.d.Ok E (aT_.F (n+1)) :=
 FD.ok (fs:=aT_.fs n) aW_ Tryz.func81 (by kernel_rfl) (by kernel_rfl) (by kernel_rfl) (by kernel_rfl) (fun _=>by kernel_rfl) (by kernel_rfl) (fun x=>by kernel_rfl) (.cons (FD.lp n (aT_.r6 n) (by kernel_rfl) fun _ _=>by kernel_rfl) (.nil))
noncomputable def aj_.fs (n:Nat):aj_.d.Fs:=(fun _ κe=>aj_.loop6 n (aj_ n) (aj_.o0.k (κe 0)) n,fun _ κe=>aj_.loop14 n (aj_ n) (aj_.o2.k (κe 2)) n,())
theorem aj_.r14 (n:Nat):aj_.d.Round (aj_.fs n) (cx n aj_.d.nt) (cN_ Tryz.f99) 14 aj_.p14 (fun κe=>aj_.step14 n (aj_ n) (aj_.o2.k (κe 2))):=fun κ κe x y=>by kernel_rfl
theorem aj_.r6 (n:Nat):aj_.d.Round (aj_.fs n) (cx n aj_.d.nt) (cN_ Tryz.f99) 6 aj_.p6 (fun κe=>aj_.step6 n (aj_ n) (aj_.o0.k (κe 0))):=fun κ κe x y=>by kernel_rfl
theorem aj_.ok (n:Nat):CxOk E (cx n aj_.d.nt)→KPar (cx n aj_.d.nt)→aj_.d.Ok E (aj_.F (n+1)) :=
 FD.ok (fs:=aj_.fs n) aW_ Tryz.func99 (by kernel_rfl) (by kernel_rfl) (by kernel_rfl) (by kernel_rfl) (fun _=>by kernel_rfl) (by kernel_rfl) (fun x=>by kernel_rfl) (.cons (FD.lp n (aj_.r6 n) (by kernel_rfl) fun _ _=>by kernel_rfl) (.cons (FD.lp n (aj_.r14 n) (by kernel_rfl) fun _ _=>by kernel_rfl) (.nil)))
noncomputable def bG_.fs (n:Nat):bG_.d.Fs:=(fun _ κe=>bG_.loop6 n (bG_.o0.k (κe 0)) n,())
theorem bG_.r6 (n:Nat):bG_.d.Round (bG_.fs n) (cx n bG_.d.nt) (cN_ Tryz.f118) 6 bG_.p6 (fun κe=>bG_.step6 n (bG_.o0.k (κe 0))):=fun κ κe x y=>by kernel_rfl
theorem bG_.ok (n:Nat):CxOk E (cx n bG_.d.nt)→KPar (cx n bG_.d.nt)→bG_.d.Ok E (bG_.F (n+1)) :=
 FD.ok (fs:=bG_.fs n) aW_ Tryz.func118 (by kernel_rfl) (by kernel_rfl) (by kernel_rfl) (by kernel_rfl) (fun _=>by kernel_rfl) (by kernel_rfl) (fun x=>by kernel_rfl) (.cons (FD.lp n (bG_.r6 n) (by kernel_rfl) fun _ _=>by kernel_rfl) (.nil))
noncomputable def ar_.fs (n:Nat):ar_.d.Fs:=(fun _ κe=>ar_.loop10 n (ar_.o2.k (κe 2)) n,fun _ κe=>ar_.loop4 n (ar_.o0.k (κe 0)) n,())
theorem ar_.r4 (n:Nat):ar_.d.Round (ar_.fs n) (cx n ar_.d.nt) (cN_ Tryz.f119) 4 ar_.p4 (fun κe=>ar_.step4 n (ar_.o0.k (κe 0))):=fun κ κe x y=>by kernel_rfl
theorem ar_.r10 (n:Nat):ar_.d.Round (ar_.fs n) (cx n ar_.d.nt) (cN_ Tryz.f119) 10 ar_.p10 (fun κe=>ar_.step10 n (ar_.o2.k (κe 2))):=fun κ κe x y=>by kernel_rfl
theorem ar_.ok (n:Nat):CxOk E (cx n ar_.d.nt)→KPar (cx n ar_.d.nt)→ar_.d.Ok E (ar_.F (n+1)) :=
 FD.ok (fs:=ar_.fs n) aW_ Tryz.func119 (by kernel_rfl) (by kernel_rfl) (by kernel_rfl) (by kernel_rfl) (fun _=>by kernel_rfl) (by kernel_rfl) (fun x=>by kernel_rfl) (.cons (FD.lp n (ar_.r10 n) (by kernel_rfl) fun _ _=>by kernel_rfl) (.cons (FD.lp n (ar_.r4 n) (by kernel_rfl) fun _ _=>by kernel_rfl) (.nil)))
noncomputable def bq_.fs (n:Nat):bq_.d.Fs:=(fun _ κe=>bq_.loop5 n (bq_.o0.k (κe 0)) n,())
theorem bq_.r5 (n:Nat):bq_.d.Round (bq_.fs n) (cx n bq_.d.nt) (cN_ Tryz.f120) 5 bq_.p5 (fun κe=>bq_.step5 n (bq_.o0.k (κe 0))):=fun κ κe x y=>by kernel_rfl
theorem bq_.ok (n:Nat):CxOk E (cx n bq_.d.nt)→KPar (cx n bq_.d.nt)→bq_.d.Ok E (bq_.F (n+1)) :=
 FD.ok (fs:=bq_.fs n) aW_ Tryz.func120 (by kernel_rfl) (by kernel_rfl) (by kernel_rfl) (by kernel_rfl) (fun _=>by kernel_rfl) (by kernel_rfl) (fun x=>by kernel_rfl) (.cons (FD.lp n (bq_.r5 n) (by kernel_rfl) fun _ _=>by kernel_rfl) (.nil))
noncomputable def cJ_.fs (n:Nat):cJ_.d.Fs:=()
theorem cJ_.ok (n:Nat):CxOk E (cx n cJ_.d.nt)→KPar (cx n cJ_.d.nt)→cJ_.d.Ok E (cJ_.F (n+1)) :=
 FD.ok (fs:=cJ_.fs n) aW_ Tryz.func83 (by kernel_rfl) (by kernel_rfl) (by kernel_rfl) (by kernel_rfl) (fun _=>by kernel_rfl) (by kernel_rfl) (fun x=>by kernel_rfl) (.nil)
noncomputable def ch_.fs (n:Nat):ch_.d.Fs:=()
theorem ch_.ok (n:Nat):CxOk E (cx n ch_.d.nt)→KPar (cx n ch_.d.nt)→ch_.d.Ok E (ch_.F (n+1)) :=
 FD.ok (fs:=ch_.fs n) aW_ Tryz.func82 (by kernel_rfl) (by kernel_rfl) (by kernel_rfl) (by kernel_rfl) (fun _=>by kernel_rfl) (by kernel_rfl) (fun x=>by kernel_rfl) (.nil)
noncomputable def aO_.fs (n:Nat):aO_.d.Fs:=(fun _ κe=>aO_.loop7 n (aO_.o0.k (κe 0)) n,fun _ _=>aO_.tail15 n,())
theorem aO_.r15 (n:Nat):aO_.d.Tail (aO_.fs n) (cx n aO_.d.nt) (cN_ Tryz.f47) 15 aO_.p15 (fun κd κe=>aO_.tail15 n):=fun κd κe x y=>by kernel_rfl
theorem aO_.r7 (n:Nat):aO_.d.Round (aO_.fs n) (cx n aO_.d.nt) (cN_ Tryz.f47) 7 aO_.p7 (fun κe=>aO_.step7 n (aO_.o0.k (κe 0))):=fun κ κe x y=>by kernel_rfl
theorem aO_.ok (n:Nat):CxOk E (cx n aO_.d.nt)→KPar (cx n aO_.d.nt)→aO_.d.Ok E (aO_.F (n+1)) :=
 FD.ok (fs:=aO_.fs n) aW_ Tryz.func47 (by kernel_rfl) (by kernel_rfl) (by kernel_rfl) (by kernel_rfl) (fun _=>by kernel_rfl) (by kernel_rfl) (fun x=>by kernel_rfl) (.cons (FD.lp n (aO_.r7 n) (by kernel_rfl) fun _ _=>by kernel_rfl) (.cons (FD.tl (aO_.r15 n) (by kernel_rfl)) (.nil)))
noncomputable def be_.fs (n:Nat):be_.d.Fs:=(fun _ κe=>be_.loop4 n (be_.o0.k (κe 0)) n,())
theorem be_.r4 (n:Nat):be_.d.Round (be_.fs n) (cx n be_.d.nt) (cN_ Tryz.f84) 4 be_.p4 (fun κe=>be_.step4 n (be_.o0.k (κe 0))):=fun κ κe x y=>by kernel_rfl
theorem be_.ok (n:Nat):CxOk E (cx n be_.d.nt)→KPar (cx n be_.d.nt)→be_.d.Ok E (be_.F (n+1)) :=
 FD.ok (fs:=be_.fs n) aW_ Tryz.func84 (by kernel_rfl) (by kernel_rfl) (by kernel_rfl) (by kernel_rfl) (fun _=>by kernel_rfl) (by kernel_rfl) (fun x=>by kernel_rfl) (.cons (FD.lp n (be_.r4 n) (by kernel_rfl) fun _ _=>by kernel_rfl) (.nil))
noncomputable def cp_.fs (n:Nat):cp_.d.Fs:=()
theorem cp_.ok (n:Nat):CxOk E (cx n cp_.d.nt)→KPar (cx n cp_.d.nt)→cp_.d.Ok E (cp_.F (n+1)) :=
 FD.ok (fs:=cp_.fs n) aW_ Tryz.func60 (by kernel_rfl) (by kernel_rfl) (by kernel_rfl) (by kernel_rfl) (fun _=>by kernel_rfl) (by kernel_rfl) (fun x=>by kernel_rfl) (.nil)
noncomputable def b1_.fs (n:Nat):b1_.d.Fs:=()
theorem b1_.ok (n:Nat):CxOk E (cx n b1_.d.nt)→KPar (cx n b1_.d.nt)→b1_.d.Ok E (b1_.F (n+1)) :=
 FD.ok (fs:=b1_.fs n) aW_ Tryz.func48 (by kernel_rfl) (by kernel_rfl) (by kernel_rfl) (by kernel_rfl) (fun _=>by kernel_rfl) (by kernel_rfl) (fun x=>by kernel_rfl) (.nil)
noncomputable def ac_.fs (n:Nat):ac_.d.Fs:=(fun _ κe=>ac_.loop20 n (ac_.o3.k (κe 3)) n,fun _ κe=>ac_.loop5 n (ac_.o0.k (κe 0)) n,())
theorem ac_.r5 (n:Nat):ac_.d.Round (ac_.fs n) (cx n ac_.d.nt) (cN_ Tryz.f9) 5 ac_.p5 (fun κe=>ac_.step5 n (ac_.o0.k (κe 0))):=fun κ κe x y=>by kernel_rfl
theorem ac_.r20 (n:Nat):ac_.d.Round (ac_.fs n) (cx n ac_.d.nt) (cN_ Tryz.f9) 20 ac_.p20 (fun κe=>ac_.step20 n (ac_.o3.k (κe 3))):=fun κ κe x y=>by kernel_rfl
theorem ac_.ok (n:Nat):CxOk E (cx n ac_.d.nt)→KPar (cx n ac_.d.nt)→ac_.d.Ok E (ac_.F (n+1)) :=
 FD.ok (fs:=ac_.fs n) aW_ Tryz.func9 (by kernel_rfl) (by kernel_rfl) (by kernel_rfl) (by kernel_rfl) (fun _=>by kernel_rfl) (by kernel_rfl) (fun x=>by kernel_rfl) (.cons (FD.lp n (ac_.r20 n) (by kernel_rfl) fun _ _=>by kernel_rfl) (.cons (FD.lp n (ac_.r5 n) (by kernel_rfl) fun _ _=>by kernel_rfl) (.nil)))
noncomputable def by_.fs (n:Nat):by_.d.Fs:=(fun _ κe=>by_.loop8 n (by_.o0.k (κe 0)) n,())
theorem by_.r8 (n:Nat):by_.d.Round (by_.fs n) (cx n by_.d.nt) (cN_ Tryz.f30) 8 by_.p8 (fun κe=>by_.step8 n (by_.o0.k (κe 0))):=fun κ κe x y=>by kernel_rfl
theorem by_.ok (n:Nat):CxOk E (cx n by_.d.nt)→KPar (cx n by_.d.nt)→by_.d.Ok E (by_.F (n+1)) :=
 FD.ok (fs:=by_.fs n) aW_ Tryz.func30 (by kernel_rfl) (by kernel_rfl) (by kernel_rfl) (by kernel_rfl) (fun _=>by kernel_rfl) (by kernel_rfl) (fun x=>by kernel_rfl) (.cons (FD.lp n (by_.r8 n) (by kernel_rfl) fun _ _=>by kernel_rfl) (.nil))
noncomputable def cz_.fs (n:Nat):cz_.d.Fs:=()
theorem cz_.ok (n:Nat):CxOk E (cx n cz_.d.nt)→KPar (cx n cz_.d.nt)→cz_.d.Ok E (cz_.F (n+1)) :=
 FD.ok (fs:=cz_.fs n) aW_ Tryz.func59 (by kernel_rfl) (by kernel_rfl) (by kernel_rfl) (by kernel_rfl) (fun _=>by kernel_rfl) (by kernel_rfl) (fun x=>by kernel_rfl) (.nil)
noncomputable def cy_.fs (n:Nat):cy_.d.Fs:=()
theorem cy_.ok (n:Nat):CxOk E (cx n cy_.d.nt)→KPar (cx n cy_.d.nt)→cy_.d.Ok E (cy_.F (n+1)) :=
 FD.ok (fs:=cy_.fs n) aW_ Tryz.func165 (by kernel_rfl) (by kernel_rfl) (by kernel_rfl) (by kernel_rfl) (fun _=>by kernel_rfl) (by kernel_rfl) (fun x=>by kernel_rfl) (.nil)
noncomputable def a5_.fs (n:Nat):a5_.d.Fs:=(fun _ κe=>a5_.loop7 n (a5_.o0.k (κe 0)) n,())
theorem a5_.r7 (n:Nat):a5_.d.Round (a5_.fs n) (cx n a5_.d.nt) (cN_ Tryz.f188) 7 a5_.p7 (fun κe=>a5_.step7 n (a5_.o0.k (κe 0))):=fun κ κe x y=>by kernel_rfl
theorem a5_.ok (n:Nat):CxOk E (cx n a5_.d.nt)→KPar (cx n a5_.d.nt)→a5_.d.Ok E (a5_.F (n+1)) :=
 FD.ok (fs:=a5_.fs n) aW_ Tryz.func188 (by kernel_rfl) (by kernel_rfl) (by kernel_rfl) (by kernel_rfl) (fun _=>by kernel_rfl) (by kernel_rfl) (fun x=>by kernel_rfl) (.cons (FD.lp n (a5_.r7 n) (by kernel_rfl) fun _ _=>by kernel_rfl) (.nil))
noncomputable def dd_.fs (n:Nat):dd_.d.Fs:=()
theorem dd_.ok (n:Nat):CxOk E (cx n dd_.d.nt)→KPar (cx n dd_.d.nt)→dd_.d.Ok E (dd_.F (n+1)) :=
 FD.ok (fs:=dd_.fs n) aW_ Tryz.func167 (by kernel_rfl) (by kernel_rfl) (by kernel_rfl) (by kernel_rfl) (fun _=>by kernel_rfl) (by kernel_rfl) (fun x=>by kernel_rfl) (.nil)
noncomputable def cZ_.fs (n:Nat):cZ_.d.Fs:=()
theorem cZ_.ok (n:Nat):CxOk E (cx n cZ_.d.nt)→KPar (cx n cZ_.d.nt)→cZ_.d.Ok E (cZ_.F (n+1)) :=
 FD.ok (fs:=cZ_.fs n) aW_ Tryz.func187 (by kernel_rfl) (by kernel_rfl) (by kernel_rfl) (by kernel_rfl) (fun _=>by kernel_rfl) (by kernel_rfl) (fun x=>by kernel_rfl) (.nil)
noncomputable def bD_.fs (n:Nat):bD_.d.Fs:=(fun κd _=>bD_.tail17 n (bD_.n17.k κd),fun _ _=>bD_.tail8 n,())
theorem bD_.r8 (n:Nat):bD_.d.Tail (bD_.fs n) (cx n bD_.d.nt) (cN_ Tryz.f166) 8 bD_.p8 (fun κd κe=>bD_.tail8 n):=fun κd κe x y=>by kernel_rfl
theorem bD_.r17 (n:Nat):bD_.d.Tail (bD_.fs n) (cx n bD_.d.nt) (cN_ Tryz.f166) 17 bD_.p17 (fun κd κe=>bD_.tail17 n (bD_.n17.k κd)):=fun κd κe x y=>by kernel_rfl
theorem bD_.ok (n:Nat):CxOk E (cx n bD_.d.nt)→KPar (cx n bD_.d.nt)→bD_.d.Ok E (bD_.F (n+1)) :=
 FD.ok (fs:=bD_.fs n) aW_ Tryz.func166 (by kernel_rfl) (by kernel_rfl) (by kernel_rfl) (by kernel_rfl) (fun _=>by kernel_rfl) (by kernel_rfl) (fun x=>by kernel_rfl) (.cons (FD.tl (bD_.r17 n) (by kernel_rfl)) (.cons (FD.tl (bD_.r8 n) (by kernel_rfl)) (.nil)))
noncomputable def cd_.fs (n:Nat):cd_.d.Fs:=()
theorem cd_.ok (n:Nat):CxOk E (cx n cd_.d.nt)→KPar (cx n cd_.d.nt)→cd_.d.Ok E (cd_.F (n+1)) :=
 FD.ok (fs:=cd_.fs n) aW_ Tryz.func132 (by kernel_rfl) (by kernel_rfl) (by kernel_rfl) (by kernel_rfl) (fun _=>by kernel_rfl) (by kernel_rfl) (fun x=>by kernel_rfl) (.nil)
noncomputable def c0_.fs (n:Nat):c0_.d.Fs:=()
theorem c0_.ok (n:Nat):CxOk E (cx n c0_.d.nt)→KPar (cx n c0_.d.nt)→c0_.d.Ok E (c0_.F (n+1)) :=
 FD.ok (fs:=c0_.fs n) aW_ Tryz.func101 (by kernel_rfl) (by kernel_rfl) (by kernel_rfl) (by kernel_rfl) (fun _=>by kernel_rfl) (by kernel_rfl) (fun x=>by kernel_rfl) (.nil)
noncomputable def a0_.fs (n:Nat):a0_.d.Fs:=(fun _ κe=>a0_.loop7 n (a0_.o0.k (κe 0)) n,())
theorem a0_.r7 (n:Nat):a0_.d.Round (a0_.fs n) (cx n a0_.d.nt) (cN_ Tryz.f62) 7 a0_.p7 (fun κe=>a0_.step7 n (a0_.o0.k (κe 0))):=fun κ κe x y=>by kernel_rfl
theorem a0_.ok (n:Nat):CxOk E (cx n a0_.d.nt)→KPar (cx n a0_.d.nt)→a0_.d.Ok E (a0_.F (n+1)) :=
 FD.ok (fs:=a0_.fs n) aW_ Tryz.func62 (by kernel_rfl) (by kernel_rfl) (by kernel_rfl) (by kernel_rfl) (fun _=>by kernel_rfl) (by kernel_rfl) (fun x=>by kernel_rfl) (.cons (FD.lp n (a0_.r7 n) (by kernel_rfl) fun _ _=>by kernel_rfl) (.nil))
noncomputable def bS_.fs (n:Nat):bS_.d.Fs:=()
theorem bS_.ok (n:Nat):CxOk E (cx n bS_.d.nt)→KPar (cx n bS_.d.nt)→bS_.d.Ok E (bS_.F (n+1)) :=
 FD.ok (fs:=bS_.fs n) aW_ Tryz.func16 (by kernel_rfl) (by kernel_rfl) (by kernel_rfl) (by kernel_rfl) (fun _=>by kernel_rfl) (by kernel_rfl) (fun x=>by kernel_rfl) (.nil)
noncomputable def aP_.fs (n:Nat):aP_.d.Fs:=(fun _ κe=>aP_.loop4 n (aP_.o0.k (κe 0)) n,())
theorem aP_.r4 (n:Nat):aP_.d.Round (aP_.fs n) (cx n aP_.d.nt) (cN_ Tryz.f24) 4 aP_.p4 (fun κe=>aP_.step4 n (aP_.o0.k (κe 0))):=fun κ κe x y=>by kernel_rfl
theorem aP_.ok (n:Nat):CxOk E (cx n aP_.d.nt)→KPar (cx n aP_.d.nt)→aP_.d.Ok E (aP_.F (n+1)) :=
 FD.ok (fs:=aP_.fs n) aW_ Tryz.func24 (by kernel_rfl) (by kernel_rfl) (by kernel_rfl) (by kernel_rfl) (fun _=>by kernel_rfl) (by kernel_rfl) (fun x=>by kernel_rfl) (.cons (FD.lp n (aP_.r4 n) (by kernel_rfl) fun _ _=>by kernel_rfl) (.nil))
noncomputable def ci_.fs (n:Nat):ci_.d.Fs:=()
theorem ci_.ok (n:Nat):CxOk E (cx n ci_.d.nt)→KPar (cx n ci_.d.nt)→ci_.d.Ok E (ci_.F (n+1)) :=
 FD.ok (fs:=ci_.fs n) aW_ Tryz.func41 (by kernel_rfl) (by kernel_rfl) (by kernel_rfl) (by kernel_rfl) (fun _=>by kernel_rfl) (by kernel_rfl) (fun x=>by kernel_rfl) (.nil)
noncomputable def aw_.fs (n:Nat):aw_.d.Fs:=()
theorem aw_.ok (n:Nat):CxOk E (cx n aw_.d.nt)→KPar (cx n aw_.d.nt)→aw_.d.Ok E (aw_.F (n+1)) :=
 FD.ok (fs:=aw_.fs n) aW_ Tryz.func142 (by kernel_rfl) (by kernel_rfl) (by kernel_rfl) (by kernel_rfl) (fun _=>by kernel_rfl) (by kernel_rfl) (fun x=>by kernel_rfl) (.nil)
noncomputable def aF_.fs (n:Nat):aF_.d.Fs:=()
theorem aF_.ok (n:Nat):CxOk E (cx n aF_.d.nt)→KPar (cx n aF_.d.nt)→aF_.d.Ok E (aF_.F (n+1)) :=
 FD.ok (fs:=aF_.fs n) aW_ Tryz.func121 (by kernel_rfl) (by kernel_rfl) (by kernel_rfl) (by kernel_rfl) (fun _=>by kernel_rfl) (by kernel_rfl) (fun x=>by kernel_rfl) (.nil)
noncomputable def bx_.fs (n:Nat):bx_.d.Fs:=()
theorem bx_.ok (n:Nat):CxOk E (cx n bx_.d.nt)→KPar (cx n bx_.d.nt)→bx_.d.Ok E (bx_.F (n+1)) :=
 FD.ok (fs:=bx_.fs n) aW_ Tryz.func85 (by kernel_rfl) (by kernel_rfl) (by kernel_rfl) (by kernel_rfl) (fun _=>by kernel_rfl) (by kernel_rfl) (fun x=>by kernel_rfl) (.nil)
noncomputable def a3_.fs (n:Nat):a3_.d.Fs:=()
theorem a3_.ok (n:Nat):CxOk E (cx n a3_.d.nt)→KPar (cx n a3_.d.nt)→a3_.d.Ok E (a3_.F (n+1)) :=
 FD.ok (fs:=a3_.fs n) aW_ Tryz.func143 (by kernel_rfl) (by kernel_rfl) (by kernel_rfl) (by kernel_rfl) (fun _=>by kernel_rfl) (by kernel_rfl) (fun x=>by kernel_rfl) (.nil)
noncomputable def cR_.fs (n:Nat):cR_.d.Fs:=()
theorem cR_.ok (n:Nat):CxOk E (cx n cR_.d.nt)→KPar (cx n cR_.d.nt)→cR_.d.Ok E (cR_.F (n+1)) :=
 FD.ok (fs:=cR_.fs n) aW_ Tryz.func122 (by kernel_rfl) (by kernel_rfl) (by kernel_rfl) (by kernel_rfl) (fun _=>by kernel_rfl) (by kernel_rfl) (fun x=>by kernel_rfl) (.nil)
noncomputable def aB_.fs (n:Nat):aB_.d.Fs:=()
theorem aB_.ok (n:Nat):CxOk E (cx n aB_.d.nt)→KPar (cx n aB_.d.nt)→aB_.d.Ok E (aB_.F (n+1)) :=
 FD.ok (fs:=aB_.fs n) aW_ Tryz.func126 (by kernel_rfl) (by kernel_rfl) (by kernel_rfl) (by kernel_rfl) (fun _=>by kernel_rfl) (by kernel_rfl) (fun x=>by kernel_rfl) (.nil)
noncomputable def bs_.fs (n:Nat):bs_.d.Fs:=()
theorem bs_.ok (n:Nat):CxOk E (cx n bs_.d.nt)→KPar (cx n bs_.d.nt)→bs_.d.Ok E (bs_.F (n+1)) :=
 FD.ok (fs:=bs_.fs n) aW_ Tryz.func89 (by kernel_rfl) (by kernel_rfl) (by kernel_rfl) (by kernel_rfl) (fun _=>by kernel_rfl) (by kernel_rfl) (fun x=>by kernel_rfl) (.nil)
noncomputable def cB_.fs (n:Nat):cB_.d.Fs:=()
theorem cB_.ok (n:Nat):CxOk E (cx n cB_.d.nt)→KPar (cx n cB_.d.nt)→cB_.d.Ok E (cB_.F (n+1)) :=
 FD.ok (fs:=cB_.fs n) aW_ Tryz.func86 (by kernel_rfl) (by kernel_rfl) (by kernel_rfl) (by kernel_rfl) (fun _=>by kernel_rfl) (by kernel_rfl) (fun x=>by kernel_rfl) (.nil)
noncomputable def a9_.fs (n:Nat):a9_.d.Fs:=()
theorem a9_.ok (n:Nat):CxOk E (cx n a9_.d.nt)→KPar (cx n a9_.d.nt)→a9_.d.Ok E (a9_.F (n+1)) :=
 FD.ok (fs:=a9_.fs n) aW_ Tryz.func149 (by kernel_rfl) (by kernel_rfl) (by kernel_rfl) (by kernel_rfl) (fun _=>by kernel_rfl) (by kernel_rfl) (fun x=>by kernel_rfl) (.nil)
noncomputable def bF_.fs (n:Nat):bF_.d.Fs:=()
theorem bF_.ok (n:Nat):CxOk E (cx n bF_.d.nt)→KPar (cx n bF_.d.nt)→bF_.d.Ok E (bF_.F (n+1)) :=
 FD.ok (fs:=bF_.fs n) aW_ Tryz.func150 (by kernel_rfl) (by kernel_rfl) (by kernel_rfl) (by kernel_rfl) (fun _=>by kernel_rfl) (by kernel_rfl) (fun x=>by kernel_rfl) (.nil)
noncomputable def bp_.fs (n:Nat):bp_.d.Fs:=()
theorem bp_.ok (n:Nat):CxOk E (cx n bp_.d.nt)→KPar (cx n bp_.d.nt)→bp_.d.Ok E (bp_.F (n+1)) :=
 FD.ok (fs:=bp_.fs n) aW_ Tryz.func179 (by kernel_rfl) (by kernel_rfl) (by kernel_rfl) (by kernel_rfl) (fun _=>by kernel_rfl) (by kernel_rfl) (fun x=>by kernel_rfl) (.nil)
noncomputable def ak_.fs (n:Nat):ak_.d.Fs:=(fun _ κe=>ak_.loop4 n (ak_.o0.k (κe 0)) n,())
theorem ak_.r4 (n:Nat):ak_.d.Round (ak_.fs n) (cx n ak_.d.nt) (cN_ Tryz.f151) 4 ak_.p4 (fun κe=>ak_.step4 n (ak_.o0.k (κe 0))):=fun κ κe x y=>by kernel_rfl
theorem ak_.ok (n:Nat):CxOk E (cx n ak_.d.nt)→KPar (cx n ak_.d.nt)→ak_.d.Ok E (ak_.F (n+1)) :=
 FD.ok (fs:=ak_.fs n) aW_ Tryz.func151 (by kernel_rfl) (by kernel_rfl) (by kernel_rfl) (by kernel_rfl) (fun _=>by kernel_rfl) (by kernel_rfl) (fun x=>by kernel_rfl) (.cons (FD.lp n (ak_.r4 n) (by kernel_rfl) fun _ _=>by kernel_rfl) (.nil))
noncomputable def ag_.fs (n:Nat):ag_.d.Fs:=(fun _ κe=>ag_.loop7 n (aN_ n) (ag_.o0.k (κe 0)) n,())
theorem ag_.r7 (n:Nat):ag_.d.Round (ag_.fs n) (cx n ag_.d.nt) (cN_ Tryz.f152) 7 ag_.p7 (fun κe=>ag_.step7 n (aN_ n) (ag_.o0.k (κe 0))):=fun κ κe x y=>by kernel_rfl
theorem ag_.ok (n:Nat):CxOk E (cx n ag_.d.nt)→KPar (cx n ag_.d.nt)→ag_.d.Ok E (ag_.F (n+1)) :=
 FD.ok (fs:=ag_.fs n) aW_ Tryz.func152 (by kernel_rfl) (by kernel_rfl) (by kernel_rfl) (by kernel_rfl) (fun _=>by kernel_rfl) (by kernel_rfl) (fun x=>by kernel_rfl) (.cons (FD.lp n (ag_.r7 n) (by kernel_rfl) fun _ _=>by kernel_rfl) (.nil))
noncomputable def aS_.fs (n:Nat):aS_.d.Fs:=()
theorem aS_.ok (n:Nat):CxOk E (cx n aS_.d.nt)→KPar (cx n aS_.d.nt)→aS_.d.Ok E (aS_.F (n+1)) :=
 FD.ok (fs:=aS_.fs n) aW_ Tryz.func105 (by kernel_rfl) (by kernel_rfl) (by kernel_rfl) (by kernel_rfl) (fun _=>by kernel_rfl) (by kernel_rfl) (fun x=>by kernel_rfl) (.nil)
noncomputable def ah_.fs (n:Nat):ah_.d.Fs:=(fun _ κe=>ah_.loop3 n (ah_.o0.k (κe 0)) n,())
theorem ah_.r3 (n:Nat):ah_.d.Round (ah_.fs n) (cx n ah_.d.nt) (cN_ Tryz.f153) 3 ah_.p3 (fun κe=>ah_.step3 n (ah_.o0.k (κe 0))):=fun κ κe x y=>by kernel_rfl
theorem ah_.ok (n:Nat):CxOk E (cx n ah_.d.nt)→KPar (cx n ah_.d.nt)→ah_.d.Ok E (ah_.F (n+1)) :=
 FD.ok (fs:=ah_.fs n) aW_ Tryz.func153 (by kernel_rfl) (by kernel_rfl) (by kernel_rfl) (by kernel_rfl) (fun _=>by kernel_rfl) (by kernel_rfl) (fun x=>by kernel_rfl) (.cons (FD.lp n (ah_.r3 n) (by kernel_rfl) fun _ _=>by kernel_rfl) (.nil))
noncomputable def aN_.fs (n:Nat):aN_.d.Fs:=()
theorem aN_.ok (n:Nat):CxOk E (cx n aN_.d.nt)→KPar (cx n aN_.d.nt)→aN_.d.Ok E (aN_.F (n+1)) :=
 FD.ok (fs:=aN_.fs n) aW_ Tryz.func125 (by kernel_rfl) (by kernel_rfl) (by kernel_rfl) (by kernel_rfl) (fun _=>by kernel_rfl) (by kernel_rfl) (fun x=>by kernel_rfl) (.nil)
noncomputable def bk_.fs (n:Nat):bk_.d.Fs:=()
theorem bk_.ok (n:Nat):CxOk E (cx n bk_.d.nt)→KPar (cx n bk_.d.nt)→bk_.d.Ok E (bk_.F (n+1)) :=
 FD.ok (fs:=bk_.fs n) aW_ Tryz.func189 (by kernel_rfl) (by kernel_rfl) (by kernel_rfl) (by kernel_rfl) (fun _=>by kernel_rfl) (by kernel_rfl) (fun x=>by kernel_rfl) (.nil)
noncomputable def as_.fs (n:Nat):as_.d.Fs:=(fun _ κe=>as_.loop3 n (as_.o0.k (κe 0)) n,())
theorem as_.r3 (n:Nat):as_.d.Round (as_.fs n) (cx n as_.d.nt) (cN_ Tryz.f169) 3 as_.p3 (fun κe=>as_.step3 n (as_.o0.k (κe 0))):=fun κ κe x y=>by kernel_rfl
theorem as_.ok (n:Nat):CxOk E (cx n as_.d.nt)→KPar (cx n as_.d.nt)→as_.d.Ok E (as_.F (n+1)) :=
 FD.ok (fs:=as_.fs n) aW_ Tryz.func169 (by kernel_rfl) (by kernel_rfl) (by kernel_rfl) (by kernel_rfl) (fun _=>by kernel_rfl) (by kernel_rfl) (fun x=>by kernel_rfl) (.cons (FD.lp n (as_.r3 n) (by kernel_rfl) fun _ _=>by kernel_rfl) (.nil))
noncomputable def ap_.fs (n:Nat):ap_.d.Fs:=(fun _ κe=>ap_.loop3 n (ap_.o0.k (κe 0)) n,())
theorem ap_.r3 (n:Nat):ap_.d.Round (ap_.fs n) (cx n ap_.d.nt) (cN_ Tryz.f190) 3 ap_.p3 (fun κe=>ap_.step3 n (ap_.o0.k (κe 0))):=fun κ κe x y=>by kernel_rfl
theorem ap_.ok (n:Nat):CxOk E (cx n ap_.d.nt)→KPar (cx n ap_.d.nt)→ap_.d.Ok E (ap_.F (n+1)) :=
 FD.ok (fs:=ap_.fs n) aW_ Tryz.func190 (by kernel_rfl) (by kernel_rfl) (by kernel_rfl) (by kernel_rfl) (fun _=>by kernel_rfl) (by kernel_rfl) (fun x=>by kernel_rfl) (.cons (FD.lp n (ap_.r3 n) (by kernel_rfl) fun _ _=>by kernel_rfl) (.nil))
noncomputable def c2_.fs (n:Nat):c2_.d.Fs:=()
theorem c2_.ok (n:Nat):CxOk E (cx n c2_.d.nt)→KPar (cx n c2_.d.nt)→c2_.d.Ok E (c2_.F (n+1)) :=
 FD.ok (fs:=c2_.fs n) aW_ Tryz.func168 (by kernel_rfl) (by kernel_rfl) (by kernel_rfl) (by kernel_rfl) (fun _=>by kernel_rfl) (by kernel_rfl) (fun x=>by kernel_rfl) (.nil)
noncomputable def a7_.fs (n:Nat):a7_.d.Fs:=(fun _ κe=>a7_.loop7 n (a7_ n) (a7_.o0.k (κe 0)) n,())
theorem a7_.r7 (n:Nat):a7_.d.Round (a7_.fs n) (cx n a7_.d.nt) (cN_ Tryz.f133) 7 a7_.p7 (fun κe=>a7_.step7 n (a7_ n) (a7_.o0.k (κe 0))):=fun κ κe x y=>by kernel_rfl
theorem a7_.ok (n:Nat):CxOk E (cx n a7_.d.nt)→KPar (cx n a7_.d.nt)→a7_.d.Ok E (a7_.F (n+1)) :=
 FD.ok (fs:=a7_.fs n) aW_ Tryz.func133 (by kernel_rfl) (by kernel_rfl) (by kernel_rfl) (by kernel_rfl) (fun _=>by kernel_rfl) (by kernel_rfl) (fun x=>by kernel_rfl) (.cons (FD.lp n (a7_.r7 n) (by kernel_rfl) fun _ _=>by kernel_rfl) (.nil))
noncomputable def b0_.fs (n:Nat):b0_.d.Fs:=()
theorem b0_.ok (n:Nat):CxOk E (cx n b0_.d.nt)→KPar (cx n b0_.d.nt)→b0_.d.Ok E (b0_.F (n+1)) :=
 FD.ok (fs:=b0_.fs n) aW_ Tryz.func109 (by kernel_rfl) (by kernel_rfl) (by kernel_rfl) (by kernel_rfl) (fun _=>by kernel_rfl) (by kernel_rfl) (fun x=>by kernel_rfl) (.nil)
noncomputable def bi_.fs (n:Nat):bi_.d.Fs:=(fun _ κe=>bi_.loop4 n (bi_.o0.k (κe 0)) n,())
theorem bi_.r4 (n:Nat):bi_.d.Round (bi_.fs n) (cx n bi_.d.nt) (cN_ Tryz.f160) 4 bi_.p4 (fun κe=>bi_.step4 n (bi_.o0.k (κe 0))):=fun κ κe x y=>by kernel_rfl
theorem bi_.ok (n:Nat):CxOk E (cx n bi_.d.nt)→KPar (cx n bi_.d.nt)→bi_.d.Ok E (bi_.F (n+1)) :=
 FD.ok (fs:=bi_.fs n) aW_ Tryz.func160 (by kernel_rfl) (by kernel_rfl) (by kernel_rfl) (by kernel_rfl) (fun _=>by kernel_rfl) (by kernel_rfl) (fun x=>by kernel_rfl) (.cons (FD.lp n (bi_.r4 n) (by kernel_rfl) fun _ _=>by kernel_rfl) (.nil))
noncomputable def aX_.fs (n:Nat):aX_.d.Fs:=(fun _ κe=>aX_.loop4 n (aX_ n) (aX_.o0.k (κe 0)) n,())
theorem aX_.r4 (n:Nat):aX_.d.Round (aX_.fs n) (cx n aX_.d.nt) (cN_ Tryz.f129) 4 aX_.p4 (fun κe=>aX_.step4 n (aX_ n) (aX_.o0.k (κe 0))):=fun κ κe x y=>by kernel_rfl
theorem aX_.ok (n:Nat):CxOk E (cx n aX_.d.nt)→KPar (cx n aX_.d.nt)→aX_.d.Ok E (aX_.F (n+1)) :=
 FD.ok (fs:=aX_.fs n) aW_ Tryz.func129 (by kernel_rfl) (by kernel_rfl) (by kernel_rfl) (by kernel_rfl) (fun _=>by kernel_rfl) (by kernel_rfl) (fun x=>by kernel_rfl) (.cons (FD.lp n (aX_.r4 n) (by kernel_rfl) fun _ _=>by kernel_rfl) (.nil))
noncomputable def ct_.fs (n:Nat):ct_.d.Fs:=()
theorem ct_.ok (n:Nat):CxOk E (cx n ct_.d.nt)→KPar (cx n ct_.d.nt)→ct_.d.Ok E (ct_.F (n+1)) :=
 FD.ok (fs:=ct_.fs n) aW_ Tryz.func92 (by kernel_rfl) (by kernel_rfl) (by kernel_rfl) (by kernel_rfl) (fun _=>by kernel_rfl) (by kernel_rfl) (fun x=>by kernel_rfl) (.nil)
noncomputable def cx_.fs (n:Nat):cx_.d.Fs:=()
theorem cx_.ok (n:Nat):CxOk E (cx n cx_.d.nt)→KPar (cx n cx_.d.nt)→cx_.d.Ok E (cx_.F (n+1)) :=
 FD.ok (fs:=cx_.fs n) aW_ Tryz.func88 (by kernel_rfl) (by kernel_rfl) (by kernel_rfl) (by kernel_rfl) (fun _=>by kernel_rfl) (by kernel_rfl) (fun x=>by kernel_rfl) (.nil)
noncomputable def al_.fs (n:Nat):al_.d.Fs:=(fun _ κe=>al_.loop3 n (al_.o0.k (κe 0)) n,())
theorem al_.r3 (n:Nat):al_.d.Round (al_.fs n) (cx n al_.d.nt) (cN_ Tryz.f156) 3 al_.p3 (fun κe=>al_.step3 n (al_.o0.k (κe 0))):=fun κ κe x y=>by kernel_rfl
theorem al_.ok (n:Nat):CxOk E (cx n al_.d.nt)→KPar (cx n al_.d.nt)→al_.d.Ok E (al_.F (n+1)) :=
 FD.ok (fs:=al_.fs n) aW_ Tryz.func156 (by kernel_rfl) (by kernel_rfl) (by kernel_rfl) (by kernel_rfl) (fun _=>by kernel_rfl) (by kernel_rfl) (fun x=>by kernel_rfl) (.cons (FD.lp n (al_.r3 n) (by kernel_rfl) fun _ _=>by kernel_rfl) (.nil))
noncomputable def bW_.fs (n:Nat):bW_.d.Fs:=()
theorem bW_.ok (n:Nat):CxOk E (cx n bW_.d.nt)→KPar (cx n bW_.d.nt)→bW_.d.Ok E (bW_.F (n+1)) :=
 FD.ok (fs:=bW_.fs n) aW_ Tryz.func108 (by kernel_rfl) (by kernel_rfl) (by kernel_rfl) (by kernel_rfl) (fun _=>by kernel_rfl) (by kernel_rfl) (fun x=>by kernel_rfl) (.nil)
noncomputable def aq_.fs (n:Nat):aq_.d.Fs:=(fun _ κe=>aq_.loop4 n (aq_ n) (aq_.o0.k (κe 0)) n,())
theorem aq_.r4 (n:Nat):aq_.d.Round (aq_.fs n) (cx n aq_.d.nt) (cN_ Tryz.f67) 4 aq_.p4 (fun κe=>aq_.step4 n (aq_ n) (aq_.o0.k (κe 0))):=fun κ κe x y=>by kernel_rfl
theorem aq_.ok (n:Nat):CxOk E (cx n aq_.d.nt)→KPar (cx n aq_.d.nt)→aq_.d.Ok E (aq_.F (n+1)) :=
 FD.ok (fs:=aq_.fs n) aW_ Tryz.func67 (by kernel_rfl) (by kernel_rfl) (by kernel_rfl) (by kernel_rfl) (fun _=>by kernel_rfl) (by kernel_rfl) (fun x=>by kernel_rfl) (.cons (FD.lp n (aq_.r4 n) (by kernel_rfl) fun _ _=>by kernel_rfl) (.nil))
noncomputable def cW_.fs (n:Nat):cW_.d.Fs:=()
theorem cW_.ok (n:Nat):CxOk E (cx n cW_.d.nt)→KPar (cx n cW_.d.nt)→cW_.d.Ok E (cW_.F (n+1)) :=
 FD.ok (fs:=cW_.fs n) aW_ Tryz.func154 (by kernel_rfl) (by kernel_rfl) (by kernel_rfl) (by kernel_rfl) (fun _=>by kernel_rfl) (by kernel_rfl) (fun x=>by kernel_rfl) (.nil)
noncomputable def a6_.fs (n:Nat):a6_.d.Fs:=(fun _ κe=>a6_.loop4 n (a6_.o0.k (κe 0)) n,())
theorem a6_.r4 (n:Nat):a6_.d.Round (a6_.fs n) (cx n a6_.d.nt) (cN_ Tryz.f162) 4 a6_.p4 (fun κe=>a6_.step4 n (a6_.o0.k (κe 0))):=fun κ κe x y=>by kernel_rfl
theorem a6_.ok (n:Nat):CxOk E (cx n a6_.d.nt)→KPar (cx n a6_.d.nt)→a6_.d.Ok E (a6_.F (n+1)) :=
 FD.ok (fs:=a6_.fs n) aW_ Tryz.func162 (by kernel_rfl) (by kernel_rfl) (by kernel_rfl) (by kernel_rfl) (fun _=>by kernel_rfl) (by kernel_rfl) (fun x=>by kernel_rfl) (.cons (FD.lp n (a6_.r4 n) (by kernel_rfl) fun _ _=>by kernel_rfl) (.nil))
noncomputable def ba_.fs (n:Nat):ba_.d.Fs:=(fun _ κe=>ba_.loop7 n (ba_.o0.k (κe 0)) n,())
theorem ba_.r7 (n:Nat):ba_.d.Round (ba_.fs n) (cx n ba_.d.nt) (cN_ Tryz.f155) 7 ba_.p7 (fun κe=>ba_.step7 n (ba_.o0.k (κe 0))):=fun κ κe x y=>by kernel_rfl
theorem ba_.ok (n:Nat):CxOk E (cx n ba_.d.nt)→KPar (cx n ba_.d.nt)→ba_.d.Ok E (ba_.F (n+1)) :=
 FD.ok (fs:=ba_.fs n) aW_ Tryz.func155 (by kernel_rfl) (by kernel_rfl) (by kernel_rfl) (by kernel_rfl) (fun _=>by kernel_rfl) (by kernel_rfl) (fun x=>by kernel_rfl) (.cons (FD.lp n (ba_.r7 n) (by kernel_rfl) fun _ _=>by kernel_rfl) (.nil))
noncomputable def cf_.fs (n:Nat):cf_.d.Fs:=()
theorem cf_.ok (n:Nat):CxOk E (cx n cf_.d.nt)→KPar (cx n cf_.d.nt)→cf_.d.Ok E (cf_.F (n+1)) :=
 FD.ok (fs:=cf_.fs n) aW_ Tryz.func157 (by kernel_rfl) (by kernel_rfl) (by kernel_rfl) (by kernel_rfl) (fun _=>by kernel_rfl) (by kernel_rfl) (fun x=>by kernel_rfl) (.nil)
noncomputable def cG_.fs (n:Nat):cG_.d.Fs:=()
theorem cG_.ok (n:Nat):CxOk E (cx n cG_.d.nt)→KPar (cx n cG_.d.nt)→cG_.d.Ok E (cG_.F (n+1)) :=
 FD.ok (fs:=cG_.fs n) aW_ Tryz.func106 (by kernel_rfl) (by kernel_rfl) (by kernel_rfl) (by kernel_rfl) (fun _=>by kernel_rfl) (by kernel_rfl) (fun x=>by kernel_rfl) (.nil)
noncomputable def bH_.fs (n:Nat):bH_.d.Fs:=(fun _ κe=>bH_.loop3 n (bH_.o0.k (κe 0)) n,())
theorem bH_.r3 (n:Nat):bH_.d.Round (bH_.fs n) (cx n bH_.d.nt) (cN_ Tryz.f134) 3 bH_.p3 (fun κe=>bH_.step3 n (bH_.o0.k (κe 0))):=fun κ κe x y=>by kernel_rfl
theorem bH_.ok (n:Nat):CxOk E (cx n bH_.d.nt)→KPar (cx n bH_.d.nt)→bH_.d.Ok E (bH_.F (n+1)) :=
 FD.ok (fs:=bH_.fs n) aW_ Tryz.func134 (by kernel_rfl) (by kernel_rfl) (by kernel_rfl) (by kernel_rfl) (fun _=>by kernel_rfl) (by kernel_rfl) (fun x=>by kernel_rfl) (.cons (FD.lp n (bH_.r3 n) (by kernel_rfl) fun _ _=>by kernel_rfl) (.nil))
noncomputable def cK_.fs (n:Nat):cK_.d.Fs:=()
theorem cK_.ok (n:Nat):CxOk E (cx n cK_.d.nt)→KPar (cx n cK_.d.nt)→cK_.d.Ok E (cK_.F (n+1)) :=
 FD.ok (fs:=cK_.fs n) aW_ Tryz.func163 (by kernel_rfl) (by kernel_rfl) (by kernel_rfl) (by kernel_rfl) (fun _=>by kernel_rfl) (by kernel_rfl) (fun x=>by kernel_rfl) (.nil)
noncomputable def cM_.fs (n:Nat):cM_.d.Fs:=()
theorem cM_.ok (n:Nat):CxOk E (cx n cM_.d.nt)→KPar (cx n cM_.d.nt)→cM_.d.Ok E (cM_.F (n+1)) :=
 FD.ok (fs:=cM_.fs n) aW_ Tryz.func130 (by kernel_rfl) (by kernel_rfl) (by kernel_rfl) (by kernel_rfl) (fun _=>by kernel_rfl) (by kernel_rfl) (fun x=>by kernel_rfl) (.nil)
noncomputable def am_.fs (n:Nat):am_.d.Fs:=(fun _ κe=>am_.loop6 n (am_.o0.k (κe 0)) n,())
theorem am_.r6 (n:Nat):am_.d.Round (am_.fs n) (cx n am_.d.nt) (cN_ Tryz.f201) 6 am_.p6 (fun κe=>am_.step6 n (am_.o0.k (κe 0))):=fun κ κe x y=>by kernel_rfl
theorem am_.ok (n:Nat):CxOk E (cx n am_.d.nt)→KPar (cx n am_.d.nt)→am_.d.Ok E (am_.F (n+1)) :=
 FD.ok (fs:=am_.fs n) aW_ Tryz.func201 (by kernel_rfl) (by kernel_rfl) (by kernel_rfl) (by kernel_rfl) (fun _=>by kernel_rfl) (by kernel_rfl) (fun x=>by kernel_rfl) (.cons (FD.lp n (am_.r6 n) (by kernel_rfl) fun _ _=>by kernel_rfl) (.nil))
noncomputable def ab_.fs (n:Nat):ab_.d.Fs:=(fun _ κe=>ab_.loop6 n (cC_ n) (ab_.o0.k (κe 0)) n,())
theorem ab_.r6 (n:Nat):ab_.d.Round (ab_.fs n) (cx n ab_.d.nt) (cN_ Tryz.f202) 6 ab_.p6 (fun κe=>ab_.step6 n (cC_ n) (ab_.o0.k (κe 0))):=fun κ κe x y=>by kernel_rfl
theorem ab_.ok (n:Nat):CxOk E (cx n ab_.d.nt)→KPar (cx n ab_.d.nt)→ab_.d.Ok E (ab_.F (n+1)) :=
 FD.ok (fs:=ab_.fs n) aW_ Tryz.func202 (by kernel_rfl) (by kernel_rfl) (by kernel_rfl) (by kernel_rfl) (fun _=>by kernel_rfl) (by kernel_rfl) (fun x=>by kernel_rfl) (.cons (FD.lp n (ab_.r6 n) (by kernel_rfl) fun _ _=>by kernel_rfl) (.nil))
noncomputable def cC_.fs (n:Nat):cC_.d.Fs:=()
theorem cC_.ok (n:Nat):CxOk E (cx n cC_.d.nt)→KPar (cx n cC_.d.nt)→cC_.d.Ok E (cC_.F (n+1)) :=
 FD.ok (fs:=cC_.fs n) aW_ Tryz.func182 (by kernel_rfl) (by kernel_rfl) (by kernel_rfl) (by kernel_rfl) (fun _=>by kernel_rfl) (by kernel_rfl) (fun x=>by kernel_rfl) (.nil)
noncomputable def cl_.fs (n:Nat):cl_.d.Fs:=()
theorem cl_.ok (n:Nat):CxOk E (cx n cl_.d.nt)→KPar (cx n cl_.d.nt)→cl_.d.Ok E (cl_.F (n+1)) :=
 FD.ok (fs:=cl_.fs n) aW_ Tryz.func158 (by kernel_rfl) (by kernel_rfl) (by kernel_rfl) (by kernel_rfl) (fun _=>by kernel_rfl) (by kernel_rfl) (fun x=>by kernel_rfl) (.nil)
noncomputable def cH_.fs (n:Nat):cH_.d.Fs:=()
theorem cH_.ok (n:Nat):CxOk E (cx n cH_.d.nt)→KPar (cx n cH_.d.nt)→cH_.d.Ok E (cH_.F (n+1)) :=
 FD.ok (fs:=cH_.fs n) aW_ Tryz.func127 (by kernel_rfl) (by kernel_rfl) (by kernel_rfl) (by kernel_rfl) (fun _=>by kernel_rfl) (by kernel_rfl) (fun x=>by kernel_rfl) (.nil)
noncomputable def bo_.fs (n:Nat):bo_.d.Fs:=(fun _ κe=>bo_.loop4 n (bo_.o0.k (κe 0)) n,())
theorem bo_.r4 (n:Nat):bo_.d.Round (bo_.fs n) (cx n bo_.d.nt) (cN_ Tryz.f90) 4 bo_.p4 (fun κe=>bo_.step4 n (bo_.o0.k (κe 0))):=fun κ κe x y=>by kernel_rfl
theorem bo_.ok (n:Nat):CxOk E (cx n bo_.d.nt)→KPar (cx n bo_.d.nt)→bo_.d.Ok E (bo_.F (n+1)) :=
 FD.ok (fs:=bo_.fs n) aW_ Tryz.func90 (by kernel_rfl) (by kernel_rfl) (by kernel_rfl) (by kernel_rfl) (fun _=>by kernel_rfl) (by kernel_rfl) (fun x=>by kernel_rfl) (.cons (FD.lp n (bo_.r4 n) (by kernel_rfl) fun _ _=>by kernel_rfl) (.nil))
noncomputable def cg_.fs (n:Nat):cg_.d.Fs:=()
theorem cg_.ok (n:Nat):CxOk E (cx n cg_.d.nt)→KPar (cx n cg_.d.nt)→cg_.d.Ok E (cg_.F (n+1)) :=
 FD.ok (fs:=cg_.fs n) aW_ Tryz.func49 (by kernel_rfl) (by kernel_rfl) (by kernel_rfl) (by kernel_rfl) (fun _=>by kernel_rfl) (by kernel_rfl) (fun x=>by kernel_rfl) (.nil)
noncomputable def bX_.fs (n:Nat):bX_.d.Fs:=()
theorem bX_.ok (n:Nat):CxOk E (cx n bX_.d.nt)→KPar (cx n bX_.d.nt)→bX_.d.Ok E (bX_.F (n+1)) :=
 FD.ok (fs:=bX_.fs n) aW_ Tryz.func104 (by kernel_rfl) (by kernel_rfl) (by kernel_rfl) (by kernel_rfl) (fun _=>by kernel_rfl) (by kernel_rfl) (fun x=>by kernel_rfl) (.nil)
noncomputable def a2_.fs (n:Nat):a2_.d.Fs:=(fun _ κe=>a2_.loop4 n (a2_.o0.k (κe 0)) n,())
theorem a2_.r4 (n:Nat):a2_.d.Round (a2_.fs n) (cx n a2_.d.nt) (cN_ Tryz.f93) 4 a2_.p4 (fun κe=>a2_.step4 n (a2_.o0.k (κe 0))):=fun κ κe x y=>by kernel_rfl
theorem a2_.ok (n:Nat):CxOk E (cx n a2_.d.nt)→KPar (cx n a2_.d.nt)→a2_.d.Ok E (a2_.F (n+1)) :=
 FD.ok (fs:=a2_.fs n) aW_ Tryz.func93 (by kernel_rfl) (by kernel_rfl) (by kernel_rfl) (by kernel_rfl) (fun _=>by kernel_rfl) (by kernel_rfl) (fun x=>by kernel_rfl) (.cons (FD.lp n (a2_.r4 n) (by kernel_rfl) fun _ _=>by kernel_rfl) (.nil))
noncomputable def b2_.fs (n:Nat):b2_.d.Fs:=()
theorem b2_.ok (n:Nat):CxOk E (cx n b2_.d.nt)→KPar (cx n b2_.d.nt)→b2_.d.Ok E (b2_.F (n+1)) :=
 FD.ok (fs:=b2_.fs n) aW_ Tryz.func107 (by kernel_rfl) (by kernel_rfl) (by kernel_rfl) (by kernel_rfl) (fun _=>by kernel_rfl) (by kernel_rfl) (fun x=>by kernel_rfl) (.nil)
noncomputable def cs_.fs (n:Nat):cs_.d.Fs:=()
theorem cs_.ok (n:Nat):CxOk E (cx n cs_.d.nt)→KPar (cx n cs_.d.nt)→cs_.d.Ok E (cs_.F (n+1)) :=
 FD.ok (fs:=cs_.fs n) aW_ Tryz.func66 (by kernel_rfl) (by kernel_rfl) (by kernel_rfl) (by kernel_rfl) (fun _=>by kernel_rfl) (by kernel_rfl) (fun x=>by kernel_rfl) (.nil)
noncomputable def cL_.fs (n:Nat):cL_.d.Fs:=()
theorem cL_.ok (n:Nat):CxOk E (cx n cL_.d.nt)→KPar (cx n cL_.d.nt)→cL_.d.Ok E (cL_.F (n+1)) :=
 FD.ok (fs:=cL_.fs n) aW_ Tryz.func91 (by kernel_rfl) (by kernel_rfl) (by kernel_rfl) (by kernel_rfl) (fun _=>by kernel_rfl) (by kernel_rfl) (fun x=>by kernel_rfl) (.nil)
end Go.Pi
end
section
namespace Go.Pi
open Go.Proofs
noncomputable def b3_.fs (n:Nat):b3_.d.Fs:=()
theorem b3_.ok (n:Nat):CxOk E (cx n b3_.d.nt)→KPar (cx n b3_.d.nt)→b3_.d.Ok E (b3_.F (n+1)) :=
 FD.ok (fs:=b3_.fs n) aW_ Tryz.func50 (by kernel_rfl) (by kernel_rfl) (by kernel_rfl) (by kernel_rfl) (fun _=>by kernel_rfl) (by kernel_rfl) (fun x=>by kernel_rfl) (.nil)
noncomputable def bP_.fs (n:Nat):bP_.d.Fs:=()
theorem bP_.ok (n:Nat):CxOk E (cx n bP_.d.nt)→KPar (cx n bP_.d.nt)→bP_.d.Ok E (bP_.F (n+1)) :=
 FD.ok (fs:=bP_.fs n) aW_ Tryz.func10 (by kernel_rfl) (by kernel_rfl) (by kernel_rfl) (by kernel_rfl) (fun _=>by kernel_rfl) (by kernel_rfl) (fun x=>by kernel_rfl) (.nil)
noncomputable def bt_.fs (n:Nat):bt_.d.Fs:=(fun _ κe=>bt_.loop5 n (bt_.o0.k (κe 0)) n,())
theorem bt_.r5 (n:Nat):bt_.d.Round (bt_.fs n) (cx n bt_.d.nt) (cN_ Tryz.f32) 5 bt_.p5 (fun κe=>bt_.step5 n (bt_.o0.k (κe 0))):=fun κ κe x y=>by kernel_rfl
theorem bt_.ok (n:Nat):CxOk E (cx n bt_.d.nt)→KPar (cx n bt_.d.nt)→bt_.d.Ok E (bt_.F (n+1)) :=
 FD.ok (fs:=bt_.fs n) aW_ Tryz.func32 (by kernel_rfl) (by kernel_rfl) (by kernel_rfl) (by kernel_rfl) (fun _=>by kernel_rfl) (by kernel_rfl) (fun x=>by kernel_rfl) (.cons (FD.lp n (bt_.r5 n) (by kernel_rfl) fun _ _=>by kernel_rfl) (.nil))
noncomputable def bU_.fs (n:Nat):bU_.d.Fs:=()
theorem bU_.ok (n:Nat):CxOk E (cx n bU_.d.nt)→KPar (cx n bU_.d.nt)→bU_.d.Ok E (bU_.F (n+1)) :=
 FD.ok (fs:=bU_.fs n) aW_ Tryz.func65 (by kernel_rfl) (by kernel_rfl) (by kernel_rfl) (by kernel_rfl) (fun _=>by kernel_rfl) (by kernel_rfl) (fun x=>by kernel_rfl) (.nil)
noncomputable def c1_.fs (n:Nat):c1_.d.Fs:=()
theorem c1_.ok (n:Nat):CxOk E (cx n c1_.d.nt)→KPar (cx n c1_.d.nt)→c1_.d.Ok E (c1_.F (n+1)) :=
 FD.ok (fs:=c1_.fs n) aW_ Tryz.func170 (by kernel_rfl) (by kernel_rfl) (by kernel_rfl) (by kernel_rfl) (fun _=>by kernel_rfl) (by kernel_rfl) (fun x=>by kernel_rfl) (.nil)
noncomputable def bz_.fs (n:Nat):bz_.d.Fs:=()
theorem bz_.ok (n:Nat):CxOk E (cx n bz_.d.nt)→KPar (cx n bz_.d.nt)→bz_.d.Ok E (bz_.F (n+1)) :=
 FD.ok (fs:=bz_.fs n) aW_ Tryz.func225 (by kernel_rfl) (by kernel_rfl) (by kernel_rfl) (by kernel_rfl) (fun _=>by kernel_rfl) (by kernel_rfl) (fun x=>by kernel_rfl) (.nil)
noncomputable def bL_.fs (n:Nat):bL_.d.Fs:=()
theorem bL_.ok (n:Nat):CxOk E (cx n bL_.d.nt)→KPar (cx n bL_.d.nt)→bL_.d.Ok E (bL_.F (n+1)) :=
 FD.ok (fs:=bL_.fs n) aW_ Tryz.func209 (by kernel_rfl) (by kernel_rfl) (by kernel_rfl) (by kernel_rfl) (fun _=>by kernel_rfl) (by kernel_rfl) (fun x=>by kernel_rfl) (.nil)
noncomputable def bg_.fs (n:Nat):bg_.d.Fs:=()
theorem bg_.ok (n:Nat):CxOk E (cx n bg_.d.nt)→KPar (cx n bg_.d.nt)→bg_.d.Ok E (bg_.F (n+1)) :=
 FD.ok (fs:=bg_.fs n) aW_ Tryz.func210 (by kernel_rfl) (by kernel_rfl) (by kernel_rfl) (by kernel_rfl) (fun _=>by kernel_rfl) (by kernel_rfl) (fun x=>by kernel_rfl) (.nil)
noncomputable def ad_.fs (n:Nat):ad_.d.Fs:=(fun _ κe=>ad_.loop4 n (ad_.o0.k (κe 0)) n,())
theorem ad_.r4 (n:Nat):ad_.d.Round (ad_.fs n) (cx n ad_.d.nt) (cN_ Tryz.f191) 4 ad_.p4 (fun κe=>ad_.step4 n (ad_.o0.k (κe 0))):=fun κ κe x y=>by kernel_rfl
theorem ad_.ok (n:Nat):CxOk E (cx n ad_.d.nt)→KPar (cx n ad_.d.nt)→ad_.d.Ok E (ad_.F (n+1)) :=
 FD.ok (fs:=ad_.fs n) aW_ Tryz.func191 (by kernel_rfl) (by kernel_rfl) (by kernel_rfl) (by kernel_rfl) (fun _=>by kernel_rfl) (by kernel_rfl) (fun x=>by kernel_rfl) (.cons (FD.lp n (ad_.r4 n) (by kernel_rfl) fun _ _=>by kernel_rfl) (.nil))
noncomputable def cr_.fs (n:Nat):cr_.d.Fs:=()
theorem cr_.ok (n:Nat):CxOk E (cx n cr_.d.nt)→KPar (cx n cr_.d.nt)→cr_.d.Ok E (cr_.F (n+1)) :=
 FD.ok (fs:=cr_.fs n) aW_ Tryz.func194 (by kernel_rfl) (by kernel_rfl) (by kernel_rfl) (by kernel_rfl) (fun _=>by kernel_rfl) (by kernel_rfl) (fun x=>by kernel_rfl) (.nil)
noncomputable def cA_.fs (n:Nat):cA_.d.Fs:=()
theorem cA_.ok (n:Nat):CxOk E (cx n cA_.d.nt)→KPar (cx n cA_.d.nt)→cA_.d.Ok E (cA_.F (n+1)) :=
 FD.ok (fs:=cA_.fs n) aW_ Tryz.func171 (by kernel_rfl) (by kernel_rfl) (by kernel_rfl) (by kernel_rfl) (fun _=>by kernel_rfl) (by kernel_rfl) (fun x=>by kernel_rfl) (.nil)
noncomputable def cq_.fs (n:Nat):cq_.d.Fs:=()
theorem cq_.ok (n:Nat):CxOk E (cx n cq_.d.nt)→KPar (cx n cq_.d.nt)→cq_.d.Ok E (cq_.F (n+1)) :=
 FD.ok (fs:=cq_.fs n) aW_ Tryz.func172 (by kernel_rfl) (by kernel_rfl) (by kernel_rfl) (by kernel_rfl) (fun _=>by kernel_rfl) (by kernel_rfl) (fun x=>by kernel_rfl) (.nil)
noncomputable def ca_.fs (n:Nat):ca_.d.Fs:=()
theorem ca_.ok (n:Nat):CxOk E (cx n ca_.d.nt)→KPar (cx n ca_.d.nt)→ca_.d.Ok E (ca_.F (n+1)) :=
 FD.ok (fs:=ca_.fs n) aW_ Tryz.func173 (by kernel_rfl) (by kernel_rfl) (by kernel_rfl) (by kernel_rfl) (fun _=>by kernel_rfl) (by kernel_rfl) (fun x=>by kernel_rfl) (.nil)
noncomputable def bY_.fs (n:Nat):bY_.d.Fs:=()
theorem bY_.ok (n:Nat):CxOk E (cx n bY_.d.nt)→KPar (cx n bY_.d.nt)→bY_.d.Ok E (bY_.F (n+1)) :=
 FD.ok (fs:=bY_.fs n) aW_ Tryz.func135 (by kernel_rfl) (by kernel_rfl) (by kernel_rfl) (by kernel_rfl) (fun _=>by kernel_rfl) (by kernel_rfl) (fun x=>by kernel_rfl) (.nil)
noncomputable def c3_.fs (n:Nat):c3_.d.Fs:=()
theorem c3_.ok (n:Nat):CxOk E (cx n c3_.d.nt)→KPar (cx n c3_.d.nt)→c3_.d.Ok E (c3_.F (n+1)) :=
 FD.ok (fs:=c3_.fs n) aW_ Tryz.func110 (by kernel_rfl) (by kernel_rfl) (by kernel_rfl) (by kernel_rfl) (fun _=>by kernel_rfl) (by kernel_rfl) (fun x=>by kernel_rfl) (.nil)
noncomputable def aZ_.fs (n:Nat):aZ_.d.Fs:=(fun _ κe=>aZ_.loop7 n (aZ_.o0.k (κe 0)) n,())
theorem aZ_.r7 (n:Nat):aZ_.d.Round (aZ_.fs n) (cx n aZ_.d.nt) (cN_ Tryz.f68) 7 aZ_.p7 (fun κe=>aZ_.step7 n (aZ_.o0.k (κe 0))):=fun κ κe x y=>by kernel_rfl
theorem aZ_.ok (n:Nat):CxOk E (cx n aZ_.d.nt)→KPar (cx n aZ_.d.nt)→aZ_.d.Ok E (aZ_.F (n+1)) :=
 FD.ok (fs:=aZ_.fs n) aW_ Tryz.func68 (by kernel_rfl) (by kernel_rfl) (by kernel_rfl) (by kernel_rfl) (fun _=>by kernel_rfl) (by kernel_rfl) (fun x=>by kernel_rfl) (.cons (FD.lp n (aZ_.r7 n) (by kernel_rfl) fun _ _=>by kernel_rfl) (.nil))
noncomputable def bV_.fs (n:Nat):bV_.d.Fs:=()
theorem bV_.ok (n:Nat):CxOk E (cx n bV_.d.nt)→KPar (cx n bV_.d.nt)→bV_.d.Ok E (bV_.F (n+1)) :=
 FD.ok (fs:=bV_.fs n) aW_ Tryz.func19 (by kernel_rfl) (by kernel_rfl) (by kernel_rfl) (by kernel_rfl) (fun _=>by kernel_rfl) (by kernel_rfl) (fun x=>by kernel_rfl) (.nil)
noncomputable def aR_.fs (n:Nat):aR_.d.Fs:=(fun _ κe=>aR_.loop4 n (aR_.o0.k (κe 0)) n,())
theorem aR_.r4 (n:Nat):aR_.d.Round (aR_.fs n) (cx n aR_.d.nt) (cN_ Tryz.f26) 4 aR_.p4 (fun κe=>aR_.step4 n (aR_.o0.k (κe 0))):=fun κ κe x y=>by kernel_rfl
theorem aR_.ok (n:Nat):CxOk E (cx n aR_.d.nt)→KPar (cx n aR_.d.nt)→aR_.d.Ok E (aR_.F (n+1)) :=
 FD.ok (fs:=aR_.fs n) aW_ Tryz.func26 (by kernel_rfl) (by kernel_rfl) (by kernel_rfl) (by kernel_rfl) (fun _=>by kernel_rfl) (by kernel_rfl) (fun x=>by kernel_rfl) (.cons (FD.lp n (aR_.r4 n) (by kernel_rfl) fun _ _=>by kernel_rfl) (.nil))
noncomputable def cb_.fs (n:Nat):cb_.d.Fs:=()
theorem cb_.ok (n:Nat):CxOk E (cx n cb_.d.nt)→KPar (cx n cb_.d.nt)→cb_.d.Ok E (cb_.F (n+1)) :=
 FD.ok (fs:=cb_.fs n) aW_ Tryz.func42 (by kernel_rfl) (by kernel_rfl) (by kernel_rfl) (by kernel_rfl) (fun _=>by kernel_rfl) (by kernel_rfl) (fun x=>by kernel_rfl) (.nil)
noncomputable def a8_.fs (n:Nat):a8_.d.Fs:=(fun _ κe=>a8_.loop6 n (b6_ n) (a8_.o0.k (κe 0)) n,())
theorem a8_.r6 (n:Nat):a8_.d.Round (a8_.fs n) (cx n a8_.d.nt) (cN_ Tryz.f94) 6 a8_.p6 (fun κe=>a8_.step6 n (b6_ n) (a8_.o0.k (κe 0))):=fun κ κe x y=>by kernel_rfl
theorem a8_.ok (n:Nat):CxOk E (cx n a8_.d.nt)→KPar (cx n a8_.d.nt)→a8_.d.Ok E (a8_.F (n+1)) :=
 FD.ok (fs:=a8_.fs n) aW_ Tryz.func94 (by kernel_rfl) (by kernel_rfl) (by kernel_rfl) (by kernel_rfl) (fun _=>by kernel_rfl) (by kernel_rfl) (fun x=>by kernel_rfl) (.cons (FD.lp n (a8_.r6 n) (by kernel_rfl) fun _ _=>by kernel_rfl) (.nil))
noncomputable def aQ_.fs (n:Nat):aQ_.d.Fs:=(fun _ κe=>aQ_.loop6 n (aQ_.o0.k (κe 0)) n,())
theorem aQ_.r6 (n:Nat):aQ_.d.Round (aQ_.fs n) (cx n aQ_.d.nt) (cN_ Tryz.f39) 6 aQ_.p6 (fun κe=>aQ_.step6 n (aQ_.o0.k (κe 0))):=fun κ κe x y=>by kernel_rfl
theorem aQ_.ok (n:Nat):CxOk E (cx n aQ_.d.nt)→KPar (cx n aQ_.d.nt)→aQ_.d.Ok E (aQ_.F (n+1)) :=
 FD.ok (fs:=aQ_.fs n) aW_ Tryz.func39 (by kernel_rfl) (by kernel_rfl) (by kernel_rfl) (by kernel_rfl) (fun _=>by kernel_rfl) (by kernel_rfl) (fun x=>by kernel_rfl) (.cons (FD.lp n (aQ_.r6 n) (by kernel_rfl) fun _ _=>by kernel_rfl) (.nil))
noncomputable def b6_.fs (n:Nat):b6_.d.Fs:=()
theorem b6_.ok (n:Nat):CxOk E (cx n b6_.d.nt)→KPar (cx n b6_.d.nt)→b6_.d.Ok E (b6_.F (n+1)) :=
 FD.ok (fs:=b6_.fs n) aW_ Tryz.func51 (by kernel_rfl) (by kernel_rfl) (by kernel_rfl) (by kernel_rfl) (fun _=>by kernel_rfl) (by kernel_rfl) (fun x=>by kernel_rfl) (.nil)
noncomputable def b9_.fs (n:Nat):b9_.d.Fs:=()
theorem b9_.ok (n:Nat):CxOk E (cx n b9_.d.nt)→KPar (cx n b9_.d.nt)→b9_.d.Ok E (b9_.F (n+1)) :=
 FD.ok (fs:=b9_.fs n) aW_ Tryz.func20 (by kernel_rfl) (by kernel_rfl) (by kernel_rfl) (by kernel_rfl) (fun _=>by kernel_rfl) (by kernel_rfl) (fun x=>by kernel_rfl) (.nil)
noncomputable def b8_.fs (n:Nat):b8_.d.Fs:=()
theorem b8_.ok (n:Nat):CxOk E (cx n b8_.d.nt)→KPar (cx n b8_.d.nt)→b8_.d.Ok E (b8_.F (n+1)) :=
 FD.ok (fs:=b8_.fs n) aW_ Tryz.func33 (by kernel_rfl) (by kernel_rfl) (by kernel_rfl) (by kernel_rfl) (fun _=>by kernel_rfl) (by kernel_rfl) (fun x=>by kernel_rfl) (.nil)
noncomputable def aK_.fs (n:Nat):aK_.d.Fs:=(fun _ κe=>aK_.loop6 n (aK_.o0.k (κe 0)) n,())
theorem aK_.r6 (n:Nat):aK_.d.Round (aK_.fs n) (cx n aK_.d.nt) (cN_ Tryz.f69) 6 aK_.p6 (fun κe=>aK_.step6 n (aK_.o0.k (κe 0))):=fun κ κe x y=>by kernel_rfl
theorem aK_.ok (n:Nat):CxOk E (cx n aK_.d.nt)→KPar (cx n aK_.d.nt)→aK_.d.Ok E (aK_.F (n+1)) :=
 FD.ok (fs:=aK_.fs n) aW_ Tryz.func69 (by kernel_rfl) (by kernel_rfl) (by kernel_rfl) (by kernel_rfl) (fun _=>by kernel_rfl) (by kernel_rfl) (fun x=>by kernel_rfl) (.cons (FD.lp n (aK_.r6 n) (by kernel_rfl) fun _ _=>by kernel_rfl) (.nil))
noncomputable def au_.fs (n:Nat):au_.d.Fs:=(fun _ κe=>au_.loop3 n (au_.o0.k (κe 0)) n,())
theorem au_.r3 (n:Nat):au_.d.Round (au_.fs n) (cx n au_.d.nt) (cN_ Tryz.f40) 3 au_.p3 (fun κe=>au_.step3 n (au_.o0.k (κe 0))):=fun κ κe x y=>by kernel_rfl
theorem au_.ok (n:Nat):CxOk E (cx n au_.d.nt)→KPar (cx n au_.d.nt)→au_.d.Ok E (au_.F (n+1)) :=
 FD.ok (fs:=au_.fs n) aW_ Tryz.func40 (by kernel_rfl) (by kernel_rfl) (by kernel_rfl) (by kernel_rfl) (fun _=>by kernel_rfl) (by kernel_rfl) (fun x=>by kernel_rfl) (.cons (FD.lp n (au_.r3 n) (by kernel_rfl) fun _ _=>by kernel_rfl) (.nil))
noncomputable def ax_.fs (n:Nat):ax_.d.Fs:=(fun _ κe=>ax_.loop3 n (ax_ n) (ax_.o0.k (κe 0)) n,())
theorem ax_.r3 (n:Nat):ax_.d.Round (ax_.fs n) (cx n ax_.d.nt) (cN_ Tryz.f70) 3 ax_.p3 (fun κe=>ax_.step3 n (ax_ n) (ax_.o0.k (κe 0))):=fun κ κe x y=>by kernel_rfl
theorem ax_.ok (n:Nat):CxOk E (cx n ax_.d.nt)→KPar (cx n ax_.d.nt)→ax_.d.Ok E (ax_.F (n+1)) :=
 FD.ok (fs:=ax_.fs n) aW_ Tryz.func70 (by kernel_rfl) (by kernel_rfl) (by kernel_rfl) (by kernel_rfl) (fun _=>by kernel_rfl) (by kernel_rfl) (fun x=>by kernel_rfl) (.cons (FD.lp n (ax_.r3 n) (by kernel_rfl) fun _ _=>by kernel_rfl) (.nil))
noncomputable def cj_.fs (n:Nat):cj_.d.Fs:=()
theorem cj_.ok (n:Nat):CxOk E (cx n cj_.d.nt)→KPar (cx n cj_.d.nt)→cj_.d.Ok E (cj_.F (n+1)) :=
 FD.ok (fs:=cj_.fs n) aW_ Tryz.func53 (by kernel_rfl) (by kernel_rfl) (by kernel_rfl) (by kernel_rfl) (fun _=>by kernel_rfl) (by kernel_rfl) (fun x=>by kernel_rfl) (.nil)
noncomputable def bT_.fs (n:Nat):bT_.d.Fs:=()
theorem bT_.ok (n:Nat):CxOk E (cx n bT_.d.nt)→KPar (cx n bT_.d.nt)→bT_.d.Ok E (bT_.F (n+1)) :=
 FD.ok (fs:=bT_.fs n) aW_ Tryz.func21 (by kernel_rfl) (by kernel_rfl) (by kernel_rfl) (by kernel_rfl) (fun _=>by kernel_rfl) (by kernel_rfl) (fun x=>by kernel_rfl) (.nil)
noncomputable def av_.fs (n:Nat):av_.d.Fs:=(fun _ κe=>av_.loop3 n (av_.o0.k (κe 0)) n,())
theorem av_.r3 (n:Nat):av_.d.Round (av_.fs n) (cx n av_.d.nt) (cN_ Tryz.f74) 3 av_.p3 (fun κe=>av_.step3 n (av_.o0.k (κe 0))):=fun κ κe x y=>by kernel_rfl
theorem av_.ok (n:Nat):CxOk E (cx n av_.d.nt)→KPar (cx n av_.d.nt)→av_.d.Ok E (av_.F (n+1)) :=
 FD.ok (fs:=av_.fs n) aW_ Tryz.func74 (by kernel_rfl) (by kernel_rfl) (by kernel_rfl) (by kernel_rfl) (fun _=>by kernel_rfl) (by kernel_rfl) (fun x=>by kernel_rfl) (.cons (FD.lp n (av_.r3 n) (by kernel_rfl) fun _ _=>by kernel_rfl) (.nil))
noncomputable def ay_.fs (n:Nat):ay_.d.Fs:=(fun _ κe=>ay_.loop3 n (ay_ n) (ay_.o0.k (κe 0)) n,())
theorem ay_.r3 (n:Nat):ay_.d.Round (ay_.fs n) (cx n ay_.d.nt) (cN_ Tryz.f73) 3 ay_.p3 (fun κe=>ay_.step3 n (ay_ n) (ay_.o0.k (κe 0))):=fun κ κe x y=>by kernel_rfl
theorem ay_.ok (n:Nat):CxOk E (cx n ay_.d.nt)→KPar (cx n ay_.d.nt)→ay_.d.Ok E (ay_.F (n+1)) :=
 FD.ok (fs:=ay_.fs n) aW_ Tryz.func73 (by kernel_rfl) (by kernel_rfl) (by kernel_rfl) (by kernel_rfl) (fun _=>by kernel_rfl) (by kernel_rfl) (fun x=>by kernel_rfl) (.cons (FD.lp n (ay_.r3 n) (by kernel_rfl) fun _ _=>by kernel_rfl) (.nil))
noncomputable def ck_.fs (n:Nat):ck_.d.Fs:=()
theorem ck_.ok (n:Nat):CxOk E (cx n ck_.d.nt)→KPar (cx n ck_.d.nt)→ck_.d.Ok E (ck_.F (n+1)) :=
 FD.ok (fs:=ck_.fs n) aW_ Tryz.func55 (by kernel_rfl) (by kernel_rfl) (by kernel_rfl) (by kernel_rfl) (fun _=>by kernel_rfl) (by kernel_rfl) (fun x=>by kernel_rfl) (.nil)
noncomputable def bO_.fs (n:Nat):bO_.d.Fs:=()
theorem bO_.ok (n:Nat):CxOk E (cx n bO_.d.nt)→KPar (cx n bO_.d.nt)→bO_.d.Ok E (bO_.F (n+1)) :=
 FD.ok (fs:=bO_.fs n) aW_ Tryz.func22 (by kernel_rfl) (by kernel_rfl) (by kernel_rfl) (by kernel_rfl) (fun _=>by kernel_rfl) (by kernel_rfl) (fun x=>by kernel_rfl) (.nil)
noncomputable def laws_FnExactClientOf.fs (n:Nat):laws_FnExactClientOf.d.Fs:=()
theorem laws_FnExactClientOf.ok (n:Nat):CxOk E (cx n laws_FnExactClientOf.d.nt)→KPar (cx n laws_FnExactClientOf.d.nt)→laws_FnExactClientOf.d.Ok E (laws_FnExactClientOf.F (n+1)) :=
 FD.ok (fs:=laws_FnExactClientOf.fs n) aW_ Tryz.func8 (by kernel_rfl) (by kernel_rfl) (by kernel_rfl) (by kernel_rfl) (fun _=>by kernel_rfl) (by kernel_rfl) (fun x=>by kernel_rfl) (.nil)
end Go.Pi
end
section
namespace Go.Pi
def InsM (P:Program) (f:FuncId) (e:TypeId) (K B:Nat):Prop :=
 ∀ (w:World) (S:Value) (n:Nat) (vals:List Value) (U:Value) (m:Nat) (us:List Value) (i:Nat),w.ownsRow 0 e K S n vals→w.ownsRow 0 e K U m us→(∀ b,cS_ S b≠0→cS_ U b=0)→i≤n →
   (∀ v ∈ vals,v.oneCell'=true)→(∀ v ∈ us,v.oneCell'=true)→(n+m)*B≤140737488355328 →
   Calls P f (List.toArray [S,.int .i64 i,U]) w fun e' w'=>∃ R,e' = .returned R∧w'.ownsRow 0 e K R (n+m) (vals.take (i*K)++us++vals.drop (i*K))∧iO_ w w' (fun b=>cS_ S b≠0) ∧
    ∀ b,cS_ R b≠0→(w.heap.size≤b∨cS_ S b≠0)∧b<w'.heap.size
def DelM (P:Program) (f:FuncId) (e:TypeId) (K:Nat):Prop :=
 ∀ (w:World) (S:Value) (n:Nat) (vals:List Value) (i j:Nat),w.ownsRow 0 e K S n vals→i≤j→j≤n→(∀ v ∈ vals,v.oneCell'=true) →
   Calls P f (List.toArray [S,.int .i64 i,.int .i64 j]) w fun e' w'=>∃ R,e' = .returned R∧w'.ownsRow 0 e K R (n - (j - i)) (vals.take (i*K)++vals.drop (j*K))∧iO_ w w' (fun b=>cS_ S b≠0) ∧
    ∀ b,cS_ R b≠0→(w.heap.size≤b∨cS_ S b≠0)∧b<w'.heap.size
def M.both:M→M→M
 |.d,.d=>.d
 |_,_=>.s
variable [an_]
open an_
variable {E:Env} {w w':World} {F F':Nat→Prop}
theorem RL.own_inv {m t xs v l vs φ} (hm:m ≠ .v) (h:RL E w F (.sl m t xs::l) (v::vs) φ):∃ vals φ₁ φ₂,w.ownsRow 0 (E.eid t) t.width v xs.length vals∧RL E w F (bl_ m.sub t xs) vals φ₁∧(∀ b,cS_ v b≠0→F b)∧RL E w F l vs φ₂∧∀ b,φ b=cS_ v b+φ₁ b+φ₂ b:=by
 cases h with
 |scal _ _ _ _ _ h=>exact h.elim
 |view=>exact absurd rfl hm
 |own m t xs v vals φ₁ l vs φ₂ φ h1 h2 h3 h4 h5 h6=>exact ⟨vals,φ₁,φ₂,h2,h3,h4,h5,h6⟩
theorem RL.len_inv {a l Vs φ} (h:RL E w F (a::l) Vs φ):∃ v vs,Vs=v::vs:=by
 obtain ⟨v,vs,_,_,h,_⟩:=RL.uncons h
 exact ⟨v,vs,h⟩
theorem ol_ [ao_] {φ:Nat→Nat} (h1:∀ b,φ b≤1) (low:∀ b,φ b≠0→F b∧b<w.heap.size) {S:Value} (hSF:∀ b,cS_ S b≠0→F b) {t:TC} {zs:List (El t)} {vals:List Value} {ψ:Nat→Nat}
  (hz:RL E w F (bl_ .d t zs) vals ψ) (eφ:∀ b,cS_ S b+ψ b≤φ b) {R:Value} (hR:w'.ownsRow 0 (E.eid t) t.width R zs.length vals) (hg:iO_ w w' (fun b=>cS_ S b≠0))
  (hRb:∀ b,cS_ R b≠0→(w.heap.size≤b∨cS_ S b≠0)∧b<w'.heap.size) :
  ∃ φ',RL E w' (fun b=>(F b∧φ b=0)∨φ' b≠0) [.sl .d t zs] [R] φ'∧(∀ b,φ' b≤1)∧(∀ b,φ' b≠0→φ b≠0∨w.heap.size≤b) ∧
    w'.os=w.os∧w'.tape=w.tape∧w'.output=w.output∧w.heap.size≤w'.heap.size∧∀ b,b<w.heap.size→φ b=0→w'.heap[b]?=w.heap[b]?:=by
 have key:∀ b,cS_ R b≠0→cS_ S b≠0∨w.heap.size≤b:=fun b hb=>(hRb b hb).1.symm
 have elt:∀ b,ψ b≠0→cS_ R b=0∧cS_ S b=0:=fun b hb=>by
  have q1:=eφ b;have q2:=h1 b
  have s0:cS_ S b=0:=by omega
  refine ⟨Classical.byContradiction fun hr => ?_,s0⟩
  rcases key b hr with hs|hs
  · exact hs s0
  · have:=(low b (by omega)).2;omega
 refine ⟨fun b=>cS_ R b+ψ b,?_,fun b => ?_,fun b hb => ?_,hg.os,hg.tape,hg.output,hg.size,fun b hb h0=>hg.heap b hb fun hc=>hc (by have:=eφ b;omega)⟩
 · refine .own .d t zs R vals ψ [] _ (fun _=>0) _ (by decide) hR ?_ (fun b hb=>.inr (by show cS_ R b+_≠0;omega)) (.nil _ fun _=>rfl) (fun b=>rfl)
   refine hz.frame hg.size (fun b hb=>⟨hg.heap b (hz.low b hb).2 fun hc=>hc (elt b hb).2,.inr (by show cS_ R b+ψ b≠0;omega)⟩) fun b hb hn=>⟨hg.heap b hb fun hc=>hn (hSF b hc),fun hc => ?_⟩
   rcases hc with ⟨hf,-⟩|hc
   · exact hn hf
   · have hc:cS_ R b+ψ b≠0:=hc
     by_cases hr0:cS_ R b=0
     · exact hn (hz.low b (by omega)).1
     · rcases key b hr0 with hs|hs
       · exact hn (hSF b hs)
       · omega
 · show cS_ R b+ψ b≤1
   have q1:=eφ b;have q2:=h1 b;have:=lB_ R b
   by_cases h0:ψ b=0
   · omega
   · have:=elt b h0;omega
 · have hb:cS_ R b+ψ b≠0:=hb
   by_cases h0:ψ b=0
   · rcases key b (by omega) with hs|hs
     · exact .inl (by have:=eφ b;omega)
     · exact .inr hs
   · exact .inl (by have:=eφ b;omega)
theorem kM_ [ao_] {φ:Nat→Nat} (h1:∀ b,φ b≤1) (low:∀ b,φ b≠0→F b∧b<w.heap.size) {S:Value} (hSF:∀ b,cS_ S b≠0→F b) {t:TC} {zs:List (El t)} {L:List AV} {vals:List Value} {ψ:Nat→Nat}
  (hz:RL E w F L vals ψ) (hL:L.map AV.asView=bl_ .v t zs) (eφ:∀ b,cS_ S b+ψ b≤φ b) {R:Value} (hR:w'.ownsRow 0 (E.eid t) t.width R zs.length vals) (hg:iO_ w w' (fun b=>cS_ S b≠0))
  (hRb:∀ b,cS_ R b≠0→(w.heap.size≤b∨cS_ S b≠0)∧b<w'.heap.size) :
  ∃ φ',RL E w' (fun b=>(F b∧φ b=0)∨φ' b≠0) [.sl .s t zs] [R] φ'∧(∀ b,φ' b≤1)∧(∀ b,φ' b≠0→φ b≠0∨w.heap.size≤b) ∧
    w'.os=w.os∧w'.tape=w.tape∧w'.output=w.output∧w.heap.size≤w'.heap.size∧∀ b,b<w.heap.size→φ b=0→w'.heap[b]?=w.heap[b]?:=by
 have key:∀ b,cS_ R b≠0→cS_ S b≠0∨w.heap.size≤b:=fun b hb=>(hRb b hb).1.symm
 have hv:=hz.seen (F':=fun b=>F b∧ψ b=0) (fun b hb hc=>hb hc.2) (fun b _ hn hc=>hn hc.1)
 rw [hL] at hv
 refine ⟨cS_ R,?_,lB_ R,fun b hb => ?_,hg.os,hg.tape,hg.output,hg.size,fun b hb h0=>hg.heap b hb fun hc=>hc (by have:=eφ b;omega)⟩
 · refine .own .s t zs R vals (fun _=>0) [] _ (fun _=>0) _ (by decide) hR ?_ (fun b hb=>.inr hb) (.nil _ fun _=>rfl) (fun b=>rfl)
   refine hv.frame hg.size (fun b hb=>absurd rfl hb) fun b hb hn=>⟨hg.heap b hb fun hc=>hn ⟨hSF b hc,by have:=eφ b;have:=h1 b;omega⟩,fun hc => ?_⟩
   rcases hc with ⟨hf,h0⟩|hc
   · exact hn ⟨hf,by have:=eφ b;omega⟩
   · rcases key b hc with hs|hs
     · exact hn ⟨hSF b hs,by have:=eφ b;have:=h1 b;omega⟩
     · omega
 · rcases key b hb with hs|hs
   · exact .inl (by have:=eφ b;omega)
   · exact .inr hs
theorem RL.int_inv {k n l v vs φ} (h:RL E w F (.i k n::l) (v::vs) φ):v = .int k n∧RL E w F l vs φ:=by
 cases h with
 |scal _ _ _ _ _ h1 h2=>exact ⟨h1,h2⟩
theorem codedD [ao_] {m:M} {t:TC} (zs:List (El t)):∀ a ∈ bl_ m t zs,∃ m,a.coded m:=fun a ha=>⟨m,dC_ a ha⟩
theorem px_ [ao_] {f:FuncId} {t:TC} {m1 m2:M} (hm1:m1 ≠ .v) (hm2:m2 ≠ .v) (h:InsM E.P f (E.eid t) t.width t.bytes) {xs ys:List (El t)} {i:Nat} (hi:i≤xs.length) (hb:(xs.length+ys.length)*t.bytes≤140737488355328) :
  dW_ E f [.sl m1 t xs,.i .i64 i,.sl m2 t ys] (.sl (M.both m1 m2) t (xs.take i++ys++xs.drop i)) [] [.o,.v,.o]:=by
 intro w F Vs φ hrl h1 hlow _
 have low:∀ b,φ b≠0→F b∧b<w.heap.size:=hrl.low
 obtain ⟨S,_,rfl⟩:=hrl.len_inv
 replace hrl:=hrl.own_inv hm1
 obtain ⟨vals,φx,φ2,hS,hx,hSF,hrl,e1⟩:=hrl
 obtain ⟨I,_,rfl⟩:=hrl.len_inv
 replace hrl:=hrl.int_inv
 obtain ⟨rfl,hrl⟩:=hrl
 obtain ⟨U,_,rfl⟩:=hrl.len_inv
 replace hrl:=hrl.own_inv hm2
 obtain ⟨us,φy,φ4,hU,hy,hUF,hrl,e3⟩:=hrl
 obtain ⟨rfl,e4⟩:=RL.nil_inv hrl
 have eφ:∀ b,φ b=cS_ S b+φx b+(cS_ U b+φy b):=fun b=>by rw [e1,e3,e4];omega
 refine (h w S xs.length vals U ys.length us i hS hU (fun b hb=>by have:=h1 b;have:=eφ b;omega) hi (hx.one (codedD _)) (hy.one (codedD _)) hb).mono ?_
 rintro e' w' ⟨R,rfl,hR,hg,hRb⟩
 have hx':RL E w F (bl_ m1.sub t (xs.take i)++bl_ m1.sub t (xs.drop i)) vals φx:=by rw [←cU_,List.take_append_drop];exact hx
 obtain ⟨va,vb,φa,φb,rfl,ha,hb',e6⟩:=hx'.split
 have hla:va.length=i*t.width:=by rw [←ha.length,dr_,List.length_take,Nat.min_eq_left hi]
 rw [←hla,List.take_left,List.drop_left] at hR
 have hz:RL E w F (bl_ m1.sub t (xs.take i)++bl_ m2.sub t ys++bl_ m1.sub t (xs.drop i)) (va++us++vb) (fun b=>φa b+φy b+φb b) :=
  (ha.append hy (ψ:=fun b=>φa b+φy b) (fun b=>rfl)).append hb' (fun b=>rfl)
 have hl:(xs.take i++ys++xs.drop i).length=xs.length+ys.length:=by simp;omega
 have he:∀ b,cS_ S b+(φa b+φy b+φb b)≤φ b:=fun b=>by have:=eφ b;have:=e6 b;omega
 by_cases hd:m1 = .d∧m2 = .d
 · obtain ⟨rfl,rfl⟩:=hd
   have hz':RL E w F (bl_ .d t (xs.take i++ys++xs.drop i)) (va++us++vb) (fun b=>φa b+φy b+φb b):=by
    rw [cU_,cU_];exact hz
   obtain ⟨φ',k1,k2⟩:=ol_ (S:=S) (R:=R) h1 low hSF hz' he (by rw [hl];exact hR) hg hRb
   exact ⟨R,φ',rfl,k1,k2⟩
 · have hb2:M.both m1 m2 = .s:=by cases m1<;>cases m2<;>first|rfl|exact absurd rfl hm1|exact absurd rfl hm2|exact absurd ⟨rfl,rfl⟩ hd
   rw [hb2]
   obtain ⟨φ',k1,k2⟩:=kM_ (S:=S) (R:=R) (t:=t) (zs:=xs.take i++ys++xs.drop i) h1 low hSF hz (by rw [List.map_append,List.map_append,eG_,eG_,eG_,cU_,cU_]) he (by rw [hl];exact hR) hg hRb
   exact ⟨R,φ',rfl,k1,k2⟩
theorem pM_ [ao_] {f:FuncId} {t:TC} {m:M} (hm0:m ≠ .v) (h:DelM E.P f (E.eid t) t.width) {xs:List (El t)} {i j:Nat} (hij:i≤j) (hj:j≤xs.length) :
  dW_ E f [.sl m t xs,.i .i64 i,.i .i64 j] (.sl (M.both m m) t (xs.take i++xs.drop j)) [] [.o,.v,.v]:=by
 intro w F Vs φ hrl h1 hlow _
 have low:∀ b,φ b≠0→F b∧b<w.heap.size:=hrl.low
 obtain ⟨S,_,rfl⟩:=hrl.len_inv
 replace hrl:=hrl.own_inv hm0
 obtain ⟨vals,φx,φ2,hS,hx,hSF,hrl,e1⟩:=hrl
 obtain ⟨I,_,rfl⟩:=hrl.len_inv
 replace hrl:=hrl.int_inv
 obtain ⟨rfl,hrl⟩:=hrl
 obtain ⟨J,_,rfl⟩:=hrl.len_inv
 replace hrl:=hrl.int_inv
 obtain ⟨rfl,hrl⟩:=hrl
 obtain ⟨rfl,e4⟩:=RL.nil_inv hrl
 have eφ:∀ b,φ b=cS_ S b+φx b:=fun b=>by rw [e1,e4];omega
 refine (h w S xs.length vals i j hS hij hj (hx.one (codedD _))).mono ?_
 rintro e' w' ⟨R,rfl,hR,hg,hRb⟩
 have hx':RL E w F (bl_ m.sub t (xs.take i)++(bl_ m.sub t ((xs.drop i).take (j - i))++bl_ m.sub t (xs.drop j))) vals φx:=by
  rw [←cU_,←cU_]
  have:xs.drop j=(xs.drop i).drop (j - i):=by rw [List.drop_drop];congr 1;omega
  rw [this,List.take_append_drop,List.take_append_drop];exact hx
 obtain ⟨va,vc,φa,φc,rfl,ha,hc,e6⟩:=hx'.split
 obtain ⟨vm,vb,φm,φb,rfl,hm,hb',e7⟩:=hc.split
 have hla:va.length=i*t.width:=by rw [←ha.length,dr_,List.length_take,Nat.min_eq_left (by omega)]
 have hlm:vm.length=(j - i)*t.width:=by rw [←hm.length,dr_,List.length_take,List.length_drop,Nat.min_eq_left (by omega)]
 have hlj:(va++vm).length=j*t.width:=by rw [List.length_append,hla,hlm,←Nat.add_mul];congr 1;omega
 rw [←hla,List.take_left,←hlj,←List.append_assoc,List.drop_left] at hR
 have hz:RL E w F (bl_ m.sub t (xs.take i)++bl_ m.sub t (xs.drop j)) (va++vb) (fun b=>φa b+φb b):=ha.append hb' (fun b=>rfl)
 have hl:(xs.take i++xs.drop j).length=xs.length - (j - i):=by simp;omega
 have he:∀ b,cS_ S b+(φa b+φb b)≤φ b:=fun b=>by have:=eφ b;have:=e6 b;have:=e7 b;omega
 cases m with
 |v=>exact absurd rfl hm0
 |d=>
  have hz':RL E w F (bl_ .d t (xs.take i++xs.drop j)) (va++vb) (fun b=>φa b+φb b):=by
   rw [cU_];exact hz
  obtain ⟨φ',k1,k2⟩:=ol_ (S:=S) (R:=R) h1 low hSF hz' he (by rw [hl];exact hR) hg hRb
  exact ⟨R,φ',rfl,k1,k2⟩
 |s=>
  obtain ⟨φ',k1,k2⟩:=kM_ (S:=S) (R:=R) (t:=t) (zs:=xs.take i++xs.drop j) h1 low hSF hz (by rw [List.map_append,eG_,eG_,cU_]) he (by rw [hl];exact hR) hg hRb
  exact ⟨R,φ',rfl,k1,k2⟩
theorem nDel_ok [ao_] {f:FuncId} {t:TC} {m:M} (hm0:m ≠ .v) (h:DelM E.P f (E.eid t) t.width) {xs r:List (El t)} {i j:Int} (hr:iC_ xs i j=some r) :
  dW_ E f [.sl m t xs,.i .i64 i,.i .i64 j] (.sl (M.both m m) t r) [] [.o,.v,.v]:=by
 unfold iC_ at hr
 by_cases hc:0≤i∧i≤j∧j≤(xs.length:Int)
 · obtain ⟨h1,h2,h3⟩:=hc
   obtain ⟨i,rfl⟩:=Int.eq_ofNat_of_zero_le h1
   obtain ⟨j,rfl⟩:=Int.eq_ofNat_of_zero_le (Int.le_trans h1 h2)
   simp only [h1,h2,h3,decide_true,Bool.and_true,cond_true,Option.some.injEq] at hr
   subst hr
   exact pM_ hm0 h (by omega) (by omega)
 · have:(decide (0≤i)&&(decide (i≤j)&&decide (j≤(xs.length:Int))))=false:=by
    rw [Bool.eq_false_iff];intro h;simp only [Bool.and_eq_true,decide_eq_true_eq] at h;exact hc h
   rw [this] at hr;cases hr
theorem nIns_ok [ao_] {f:FuncId} {t:TC} {m1 m2:M} (hm1:m1 ≠ .v) (hm2:m2 ≠ .v) (h:InsM E.P f (E.eid t) t.width t.bytes) {xs ys r:List (El t)} {i:Int} (hr:iB_ t.bytes xs i ys=some r) :
  dW_ E f [.sl m1 t xs,.i .i64 i,.sl m2 t ys] (.sl (M.both m1 m2) t r) [] [.o,.v,.o]:=by
 unfold iB_ at hr
 by_cases hc:0≤i∧i≤(xs.length:Int)
 · obtain ⟨h1,h2⟩:=hc
   obtain ⟨i,rfl⟩:=Int.eq_ofNat_of_zero_le h1
   by_cases hb:(xs.length+ys.length)*t.bytes≤140737488355328
   · simp only [h1,h2,hb,decide_true,Bool.and_true,cond_true,Option.some.injEq] at hr
     subst hr
     exact px_ hm1 hm2 h (by omega) hb
   · simp [h1,h2,hb] at hr
 · have:(decide (0≤i)&&decide (i≤(xs.length:Int)))=false:=by
    rw [Bool.eq_false_iff];intro h;simp only [Bool.and_eq_true,decide_eq_true_eq] at h;exact hc h
   rw [this] at hr;cases hr
end Go.Pi
end
section
namespace Go.Proofs
open Go.Shelf Go.RowKit Go.Lib Go.Pi
section
variable {P:Program}
theorem gh_ {ops:Array Oper} {o:Oper} {a:Act} {w:World} {K:Act→World→Prop} {Q:Exit→Act→World→Prop} {E:Prop}
  (hg:o.guard=none) (d x:Operand) (dT sT:TypeId) (hop:o.op=Op.call { callee:=Callee.builtin Builtin.append,args:=#[d,x],argTypes:=#[dT,sT] })
  (v u:Value) (hd:a.eval d=v) (hx:a.eval x=u) {v':Value} {w':World} (hr:(Builtin.append_ #[dT,sT] o.type #[v,u]).run P w = .ok v' w') (hK:K (a.put o.dst v') w') :
  if Region.wanted o (yielded ops a.tmps)=true then Oper.wp P o a w K Q else E:=by
 have hw:Region.wanted o (yielded ops a.tmps)=true:=by simp [Region.wanted,hg]
 rw [if_pos hw]
 unfold Oper.wp
 simp [execOp,hop,resolve,invoke,builtin,hd,hx,hr,Result.andThen]
 exact hK
theorem o9_ (w:World) {ops:Array Oper} {fX_:List Oper} {o:Oper} {a:Act} {Q:Exit→Act→World→Prop} (hgd:o.guard=none) (d:Operand) (t:TypeId)
  (ho:o.op = .call { callee:=.builtin .clear,args:=#[d],argTypes:=#[t] }) (v:Value) (hd:a.eval d=v) {v':Value} {w':World}
  (hr:(Builtin.clear_ #[t] o.type #[v]).run P w = .ok v' w') (h:wpList P ops Q fX_ (a.put o.dst v') w'):wpList P ops Q (o::fX_) a w :=
 wpList_plain hgd fun _ hK=>by
  unfold Oper.wp execOp
  simp only [ho,resolve,invoke,builtin,Sem.run_bind,Sem.run_pure,Result.andThen_ok,List.map_toArray,List.map_cons,List.map_nil,hd,hr]
  exact hK _ _ h
theorem jM_ (w:World) (t e ty:TypeId) (z:Value) (ht:P.underlying t=some (.slice e)) (hv:∀ w,(zeroValue e).run P w = .ok z w) (g o n c:Nat) (hn:0<n) (cur:Array Value) (T:TypeId) (hg:w.heap[g]?=some (.cells cur T (0,0)))
  (hfit:o+(Builtin.zeroCells z.cells n).toList.length≤cur.size) (h1:∀ v ∈ (Builtin.zeroCells z.cells n).toList,v.oneCell'=true) :
  (Builtin.clear_ #[t] ty #[.slice (some ⟨g,o,none⟩) n c]).run P w = .ok (.tuple #[]) (w.setRow g (cur.toList.take o++(Builtin.zeroCells z.cells n).toList++cur.toList.drop (o+(Builtin.zeroCells z.cells n).toList.length)).toArray):=by
 have hst:=run_storeCells_at P g o T (Builtin.zeroCells z.cells n).toList 0 cur w hg (by simpa using hfit) h1
 obtain ⟨m,rfl⟩:∃ m,n=m+1:=⟨n - 1,by omega⟩
 simp only [Builtin.clear_,run_underlying ht,Sem.run_bind,Result.andThen_ok,hv]
 simp only [List.getElem?_toArray,List.getElem?_cons_zero,Sem.run_bind,run_underlying ht,Result.andThen_ok,hv,hst,Nat.add_zero,Sem.run_pure]
end
theorem gf_ (w:World) {P:Program} {ops:Array Oper} {fX_:List Oper} {o:Oper} {a:Act} {Q:Exit→Act→World→Prop} (hgd:o.guard=none) (d s:Operand) (t t':TypeId)
  (ho:o.op = .call { callee:=.builtin .copy,args:=#[d,s],argTypes:=#[t,t'] }) (v u:Value) (hd:a.eval d=v) (hs:a.eval s=u) {v':Value} {w':World}
  (hr:(Builtin.copy_ #[t,t'] o.type #[v,u]).run P w = .ok v' w') (h:wpList P ops Q fX_ (a.put o.dst v') w'):wpList P ops Q (o::fX_) a w :=
 wpList_plain hgd fun _ hK=>by
  unfold Oper.wp execOp
  simp only [ho,resolve,invoke,builtin,Sem.run_bind,Sem.run_pure,Result.andThen_ok,List.map_toArray,List.map_cons,List.map_nil,hd,hs,hr]
  exact hK _ _ h
theorem eJ_ {P:Program} {ops:Array Oper} {o:Oper} {a:Act} {w:World} {K:Act→World→Prop} {Q:Exit→Act→World→Prop} {E:Prop}
  (hg:o.guard=none) (d x:Operand) (dT sT:TypeId) (hop:o.op=Op.call { callee:=Callee.builtin Builtin.copy,args:=#[d,x],argTypes:=#[dT,sT] })
  (v u:Value) (hd:a.eval d=v) (hx:a.eval x=u) {v':Value} {w':World} (hr:(Builtin.copy_ #[dT,sT] o.type #[v,u]).run P w = .ok v' w') (hK:K (a.put o.dst v') w') :
  if Region.wanted o (yielded ops a.tmps)=true then Oper.wp P o a w K Q else E:=by
 have hw:Region.wanted o (yielded ops a.tmps)=true:=by simp [Region.wanted,hg]
 rw [if_pos hw]
 unfold Oper.wp
 simp [execOp,hop,resolve,invoke,builtin,hd,hx,hr,Result.andThen]
 exact hK
theorem dD_ {P:Program} (w:World) (dT sT ty elem:TypeId) (k:Nat) (g o dLen dCap:Nat) (a:Addr) (sLen sCap:Nat) (cur:Array Value) (t:TypeId) (cs:List Value)
  (hu:P.underlying dT=some (.slice elem)) (hs:(P.info? elem).map (·.size)=some k)
  (hg:w.heap[g]?=some (.cells cur t (0,0))) (hn:cs.length=Nat.min sLen dLen*k)
  (hsrc:∀ j v,cs[j]?=some v→w.cell? (a.add j)=some v) (hfit:o+cs.length≤cur.size) (h1:∀ v ∈ cs,v.oneCell'=true) :
  (Builtin.copy_ #[dT,sT] ty #[.slice (some ⟨g,o,none⟩) dLen dCap,.slice (some a) sLen sCap]).run P w =
   .ok (goInt (Nat.min sLen dLen)) (w.setRow g (cur.toList.take o++cs++cur.toList.drop (o+cs.length)).toArray):=by
 have hl:=run_loadCells_list (P:=P) w a cs hsrc
 have hst:=run_storeCells_at P g o t cs 0 cur w hg (by simpa using hfit) h1
 cases hq:P.info? elem with
 |none=>simp [hq] at hs
 |some i=>
  have hi:i.size=k:=by simpa [hq] using hs
  simp [Builtin.copy_,run_underlying hu,Builtin.lenOf,Builtin.firstCells,sizeOf,typeInfo,hq,hi,←hn,hl,hst]
theorem zc_one (cs:Array Value) (h:cs.toList.all Value.oneCell'=true) (n:Nat):∀ v ∈ (Builtin.zeroCells cs n).toList,v.oneCell'=true:=by
 intro v hv
 simp only [Builtin.zeroCells,Array.toList_map,List.mem_map,Array.toList_range,List.mem_range] at hv
 obtain ⟨x,hx,rfl⟩:=hv
 have h0:0<cs.size:=Nat.pos_of_mul_pos_left (by omega:0<n*cs.size)
 have:x % cs.size<cs.size:=Nat.mod_lt _ h0
 rw [getElem!_pos cs _ this]
 exact List.all_eq_true.1 h _ (by simp)
theorem lA_ {w:World} {e:TypeId} {K:Nat} {S:Value} {n:Nat} {vals:List Value} (h:w.ownsRow 0 e K S n vals):∀ b,cS_ S b≠0→b<w.heap.size:=by
 intro b hb
 rcases h.2 with ⟨rfl,_⟩|⟨g,cap,cur,rfl,_,hg,_⟩
 · simp [cS_] at hb
 · have:g=b:=by simp only [cS_] at hb;exact Classical.byContradiction fun h=>hb (if_neg h)
   subst this
   exact (Array.getElem?_eq_some_iff.1 hg).1
theorem if_ (w:World) (g:Nat) (A:Array Value):w.heap.size≤(w.drew.setRow g A).heap.size:=by
 have:(w.drew.setRow g A).heap.size=w.drew.heap.size:=by simp [World.setRow]
 rw [this];exact Nat.le_refl _
theorem dE_ {w:World} {e:TypeId} {v:Value} {n:Nat} {xs:List Value}:w.ownsRow 0 e 1 v n xs ↔
  (xs.length=n∧(v = .slice none 0 0∧n=0∨∃ g cap cur,v = .slice (some ⟨g,0,none⟩) n cap∧0≤g∧w.heap[g]?=some (.cells cur e (0,0))∧n≤cap∧cap≤maxLen∧cur.size=cap∧cur.toList.take n=xs)):=by
 unfold World.ownsRow
 simp only [Nat.mul_one]
end Go.Proofs
end
section
namespace Go.Proofs
open Go.Shelf
def Tryz.lays143_ren:Go.Shelf.Ren:=⟨fun|143=>72|219=>111|217=>136|225=>137|224=>138|267=>139|266=>174|314=>175|n=>n,fun|9=>9|3=>3|4=>4|5=>5|46=>157|146=>175|51=>174|n=>n,fun|1=>0|n=>n⟩
theorem Tryz.lays143:Go.Proofs.Lays.n143 Tryz.prog Tryz.lays143_ren:={
 mixed:=by kernel_rfl
 f143:=Tryz.func72.trans (congrArg some (by kernel_rfl))
 f217:=Tryz.func136.trans (congrArg some (by kernel_rfl))
 f219:=Tryz.func111.trans (congrArg some (by kernel_rfl))
 f224:=Tryz.func138.trans (congrArg some (by kernel_rfl))
 f225:=Tryz.func137.trans (congrArg some (by kernel_rfl))
 f266:=Tryz.func174.trans (congrArg some (by kernel_rfl))
 f267:=Tryz.func139.trans (congrArg some (by kernel_rfl))
 f314:=Tryz.func175.trans (congrArg some (by kernel_rfl))
 t3:=Tryz.underlying3
 a3:=Tryz.isAgg3
 z3:=Tryz.sizeOf3
 v3:=Tryz.zeroValue3
 t4:=Tryz.underlying4
 a4:=Tryz.isAgg4
 z4:=Tryz.sizeOf4
 v4:=Tryz.zeroValue4
 t5:=Tryz.underlying5
 a5:=Tryz.isAgg5
 z5:=Tryz.sizeOf5
 v5:=Tryz.zeroValue5
 t9:=Tryz.underlying9
 a9:=Tryz.isAgg9
 z9:=Tryz.sizeOf9
 v9:=Tryz.zeroValue9
 t46:=Tryz.underlying157
 a46:=Tryz.isAgg157
 z46:=Tryz.sizeOf157
 v46:=Tryz.zeroValue157
 t51:=Tryz.underlying174
 a51:=Tryz.isAgg174
 z51:=Tryz.sizeOf174
 v51:=Tryz.zeroValue174
 t146:=Tryz.underlying175
 a146:=Tryz.isAgg175
 z146:=Tryz.sizeOf175
 v146:=Tryz.zeroValue175
 g1:=by kernel_rfl }
open Go.RowKit Go.Sort Go.Lib in
theorem Tryz.strings_Index (s sub:ByteArray) (m:Int) (w:World) (hs:s.size<4294967281) (hm:w.cell? ⟨0,0,none⟩=some (.int .i64 m)) :
  Calls Tryz.prog 72 #[.string s,.string sub] w fun e w'=>e = .returned (.int .i64 (Lib.index s.data.toList sub.data.toList))∧w'=w:=Any.strings_Index Tryz.lays143 s sub m w hs hm
end Go.Proofs
namespace Go.Pi
open Go.Proofs
theorem strings_Index.ok (n:Nat) (_:CxOk E (cx n strings_Index.d.nt)) (_:KPar (cx n strings_Index.d.nt)):strings_Index.d.Ok E (strings_Index.F (n+1)):=fun _ _ h=>pp_ (g:=0) (fun s sep m w h1 h2=>Tryz.strings_Index s sep m w h1 h2) (.tail _ (.head _)) h
end Go.Pi
end
section
namespace Go.Proofs
open Go.Shelf
def Tryz.laysC172_ren:Go.Shelf.Ren:=⟨fun|172=>87|244=>123|245=>124|247=>144|279=>145|280=>146|281=>147|282=>148|287=>176|316=>177|171=>128|205=>178|321=>197|322=>198|243=>159|246=>183|283=>203|284=>204|285=>205|286=>206|129=>219|317=>218|318=>220|319=>221|320=>222|337=>231|338=>232|n=>n,fun|9=>9|3=>3|75=>121|76=>122|4=>4|5=>5|167=>160|37=>139|0=>0|85=>161|2=>2|168=>163|53=>177|175=>178|46=>157|210=>181|127=>198|145=>201|143=>199|21=>21|171=>205|173=>208|212=>216|51=>174|20=>20|213=>217|232=>229|233=>230|80=>166|n=>n,fun|15=>1|16=>2|17=>3|18=>6|19=>7|n=>n⟩
theorem Tryz.laysC172:Go.Proofs.LaysC.n172 Tryz.prog Tryz.laysC172_ren:={
 mixed:=by kernel_rfl
 f129:=Tryz.func219.trans (congrArg some (by kernel_rfl))
 f171:=Tryz.func128.trans (congrArg some (by kernel_rfl))
 f172:=Tryz.func87.trans (congrArg some (by kernel_rfl))
 f205:=Tryz.func178.trans (congrArg some (by kernel_rfl))
 f243:=Tryz.func159.trans (congrArg some (by kernel_rfl))
 f244:=Tryz.func123.trans (congrArg some (by kernel_rfl))
 f245:=Tryz.func124.trans (congrArg some (by kernel_rfl))
 f246:=Tryz.func183.trans (congrArg some (by kernel_rfl))
 f247:=Tryz.func144.trans (congrArg some (by kernel_rfl))
 f279:=Tryz.func145.trans (congrArg some (by kernel_rfl))
 f280:=Tryz.func146.trans (congrArg some (by kernel_rfl))
 f281:=Tryz.func147.trans (congrArg some (by kernel_rfl))
 f282:=Tryz.func148.trans (congrArg some (by kernel_rfl))
 f283:=Tryz.func203.trans (congrArg some (by kernel_rfl))
 f284:=Tryz.func204.trans (congrArg some (by kernel_rfl))
 f285:=Tryz.func205.trans (congrArg some (by kernel_rfl))
 f286:=Tryz.func206.trans (congrArg some (by kernel_rfl))
 f287:=Tryz.func176.trans (congrArg some (by kernel_rfl))
 f316:=Tryz.func177.trans (congrArg some (by kernel_rfl))
 f317:=Tryz.func218.trans (congrArg some (by kernel_rfl))
 f318:=Tryz.func220.trans (congrArg some (by kernel_rfl))
 f319:=Tryz.func221.trans (congrArg some (by kernel_rfl))
 f320:=Tryz.func222.trans (congrArg some (by kernel_rfl))
 f321:=Tryz.func197.trans (congrArg some (by kernel_rfl))
 f322:=Tryz.func198.trans (congrArg some (by kernel_rfl))
 f337:=Tryz.func231.trans (congrArg some (by kernel_rfl))
 f338:=Tryz.func232.trans (congrArg some (by kernel_rfl))
 t0:=Tryz.underlying0
 a0:=Tryz.isAgg0
 z0:=Tryz.sizeOf0
 v0:=Tryz.zeroValue0
 t2:=Tryz.underlying2
 a2:=Tryz.isAgg2
 z2:=Tryz.sizeOf2
 v2:=Tryz.zeroValue2
 t3:=Tryz.underlying3
 a3:=Tryz.isAgg3
 z3:=Tryz.sizeOf3
 v3:=Tryz.zeroValue3
 t4:=Tryz.underlying4
 a4:=Tryz.isAgg4
 z4:=Tryz.sizeOf4
 v4:=Tryz.zeroValue4
 t5:=Tryz.underlying5
 a5:=Tryz.isAgg5
 z5:=Tryz.sizeOf5
 v5:=Tryz.zeroValue5
 t9:=Tryz.underlying9
 a9:=Tryz.isAgg9
 z9:=Tryz.sizeOf9
 v9:=Tryz.zeroValue9
 t20:=Tryz.underlying20
 a20:=Tryz.isAgg20
 z20:=Tryz.sizeOf20
 v20:=Tryz.zeroValue20
 t21:=Tryz.underlying21
 a21:=Tryz.isAgg21
 z21:=Tryz.sizeOf21
 v21:=Tryz.zeroValue21
 t37:=Tryz.underlying139
 a37:=Tryz.isAgg139
 z37:=Tryz.sizeOf139
 v37:=Tryz.zeroValue139
 t46:=Tryz.underlying157
 a46:=Tryz.isAgg157
 z46:=Tryz.sizeOf157
 v46:=Tryz.zeroValue157
 t51:=Tryz.underlying174
 a51:=Tryz.isAgg174
 z51:=Tryz.sizeOf174
 v51:=Tryz.zeroValue174
 t53:=Tryz.underlying177
 a53:=Tryz.isAgg177
 z53:=Tryz.sizeOf177
 v53:=Tryz.zeroValue177
 t75:=Tryz.underlying121
 a75:=Tryz.isAgg121
 z75:=Tryz.sizeOf121
 v75:=Tryz.zeroValue121
 t76:=Tryz.underlying122
 a76:=Tryz.isAgg122
 z76:=Tryz.sizeOf122
 v76:=Tryz.zeroValue122
 t85:=Tryz.underlying161
 a85:=Tryz.isAgg161
 z85:=Tryz.sizeOf161
 v85:=Tryz.zeroValue161
 t127:=Tryz.underlying198
 a127:=Tryz.isAgg198
 z127:=Tryz.sizeOf198
 v127:=Tryz.zeroValue198
 t143:=Tryz.underlying199
 a143:=Tryz.isAgg199
 z143:=Tryz.sizeOf199
 v143:=Tryz.zeroValue199
 t145:=Tryz.underlying201
 a145:=Tryz.isAgg201
 z145:=Tryz.sizeOf201
 v145:=Tryz.zeroValue201
 t167:=Tryz.underlying160
 a167:=Tryz.isAgg160
 z167:=Tryz.sizeOf160
 v167:=Tryz.zeroValue160
 t168:=Tryz.underlying163
 a168:=Tryz.isAgg163
 z168:=Tryz.sizeOf163
 v168:=Tryz.zeroValue163
 t171:=Tryz.underlying205
 a171:=Tryz.isAgg205
 z171:=Tryz.sizeOf205
 v171:=Tryz.zeroValue205
 t173:=Tryz.underlying208
 a173:=Tryz.isAgg208
 z173:=Tryz.sizeOf208
 v173:=Tryz.zeroValue208
 t175:=Tryz.underlying178
 a175:=Tryz.isAgg178
 z175:=Tryz.sizeOf178
 v175:=Tryz.zeroValue178
 t210:=Tryz.underlying181
 a210:=Tryz.isAgg181
 z210:=Tryz.sizeOf181
 v210:=Tryz.zeroValue181
 t212:=Tryz.underlying216
 a212:=Tryz.isAgg216
 z212:=Tryz.sizeOf216
 v212:=Tryz.zeroValue216
 t213:=Tryz.underlying217
 a213:=Tryz.isAgg217
 z213:=Tryz.sizeOf217
 t232:=Tryz.underlying229
 a232:=Tryz.isAgg229
 z232:=Tryz.sizeOf229
 v232:=Tryz.zeroValue229
 t233:=Tryz.underlying230
 a233:=Tryz.isAgg230
 z233:=Tryz.sizeOf230
 v233:=Tryz.zeroValue230
 g15:=by kernel_rfl
 g16:=by kernel_rfl
 g17:=by kernel_rfl
 g18:=by kernel_rfl
 g19:=by kernel_rfl
 t80:=Tryz.underlying166
 a80:=Tryz.isAgg166
 z80:=Tryz.sizeOf166
 v80:=Tryz.zeroValue166
 i0:=by kernel_rfl
 i2:=by kernel_rfl
 i3:=by kernel_rfl
 i4:=by kernel_rfl
 i5:=by kernel_rfl
 i9:=by kernel_rfl
 i20:=by kernel_rfl
 i21:=by kernel_rfl
 i37:=by kernel_rfl
 i46:=by kernel_rfl
 i51:=by kernel_rfl
 i53:=by kernel_rfl
 i75:=by kernel_rfl
 i76:=by kernel_rfl
 i80:=by kernel_rfl
 i85:=by kernel_rfl
 i127:=by kernel_rfl
 i143:=by kernel_rfl
 i145:=by kernel_rfl
 i167:=by kernel_rfl
 i168:=by kernel_rfl
 i171:=by kernel_rfl
 i173:=by kernel_rfl
 i175:=by kernel_rfl
 i210:=by kernel_rfl
 i212:=by kernel_rfl
 i232:=by kernel_rfl
 i233:=by kernel_rfl
 m15:=by kernel_rfl
 m16:=by kernel_rfl
 m17:=by kernel_rfl
 m18:=by kernel_rfl
 m19:=by kernel_rfl
 c0:=by kernel_rfl
 c2:=by kernel_rfl
 c3:=by kernel_rfl
 c4:=by kernel_rfl
 c5:=by kernel_rfl
 c9:=by kernel_rfl
 c20:=by kernel_rfl
 c21:=by kernel_rfl
 c37:=by kernel_rfl
 c46:=by kernel_rfl
 c51:=by kernel_rfl
 c53:=by kernel_rfl
 c75:=by kernel_rfl
 c76:=by kernel_rfl
 c80:=by kernel_rfl
 c85:=by kernel_rfl
 c127:=by kernel_rfl
 c143:=by kernel_rfl
 c145:=by kernel_rfl
 c167:=by kernel_rfl
 c168:=by kernel_rfl
 c171:=by kernel_rfl
 c173:=by kernel_rfl
 c175:=by kernel_rfl
 c210:=by kernel_rfl
 c212:=by kernel_rfl
 c213:=by kernel_rfl
 c232:=by kernel_rfl
 c233:=by kernel_rfl }
end Go.Proofs
namespace Go.Pi
open Go.Proofs
theorem atoiM:AtoiM E.P 87 1 2 5:=⟨fun s v w h1 h2=>Any.strconv_Atoi_ok Tryz.laysC172 s h1 v h2 w,fun s ev w h1 h2 h3 h4=>by
 cases ha:Lib.atoiAll s.data.toList
 · rename_i v;exact absurd ha (h2.1 v)
 · exact (Any.strconv_Atoi_syntax Tryz.laysC172 s h1 ha ev w h3 h4).mono fun e w' ⟨N,he,_,_,hb⟩=>⟨⟨_,_,he⟩,hb⟩
 · exact absurd ha h2.2,fun s ev w h1 h2 h3 h4=>(Any.strconv_Atoi_range Tryz.laysC172 s h1 h2 ev w h3 h4).mono fun e w' ⟨N,he,_,_,hb⟩=>⟨⟨_,_,he⟩,hb⟩⟩
end Go.Pi
namespace Go.Pi
open Go.Proofs
theorem b4_.ok (n:Nat) (_:CxOk E (cx n b4_.d.nt)) (_:KPar (cx n b4_.d.nt)):b4_.d.Ok E (b4_.F (n+1)):=fun _ _ h=>nAtoi_ok atoiM (.tail _ (.tail _ (.head _))) (.tail _ (.tail _ (.tail _ (.head _)))) h
end Go.Pi
end
section
namespace Go.Proofs
open Go.Shelf
def Tryz.lays219_ren:Go.Shelf.Ren:=⟨fun|219=>111|217=>136|225=>137|224=>138|267=>139|266=>174|314=>175|n=>n,fun|9=>9|3=>3|4=>4|5=>5|46=>157|146=>175|51=>174|n=>n,fun|1=>0|n=>n⟩
theorem Tryz.lays219:Go.Proofs.Lays.n219 Tryz.prog Tryz.lays219_ren:={
 mixed:=by kernel_rfl
 f217:=Tryz.func136.trans (congrArg some (by kernel_rfl))
 f219:=Tryz.func111.trans (congrArg some (by kernel_rfl))
 f224:=Tryz.func138.trans (congrArg some (by kernel_rfl))
 f225:=Tryz.func137.trans (congrArg some (by kernel_rfl))
 f266:=Tryz.func174.trans (congrArg some (by kernel_rfl))
 f267:=Tryz.func139.trans (congrArg some (by kernel_rfl))
 f314:=Tryz.func175.trans (congrArg some (by kernel_rfl))
 t3:=Tryz.underlying3
 a3:=Tryz.isAgg3
 z3:=Tryz.sizeOf3
 v3:=Tryz.zeroValue3
 t4:=Tryz.underlying4
 a4:=Tryz.isAgg4
 z4:=Tryz.sizeOf4
 v4:=Tryz.zeroValue4
 t5:=Tryz.underlying5
 a5:=Tryz.isAgg5
 z5:=Tryz.sizeOf5
 v5:=Tryz.zeroValue5
 t9:=Tryz.underlying9
 a9:=Tryz.isAgg9
 z9:=Tryz.sizeOf9
 v9:=Tryz.zeroValue9
 t46:=Tryz.underlying157
 a46:=Tryz.isAgg157
 z46:=Tryz.sizeOf157
 v46:=Tryz.zeroValue157
 t51:=Tryz.underlying174
 a51:=Tryz.isAgg174
 z51:=Tryz.sizeOf174
 v51:=Tryz.zeroValue174
 t146:=Tryz.underlying175
 a146:=Tryz.isAgg175
 z146:=Tryz.sizeOf175
 v146:=Tryz.zeroValue175
 g1:=by kernel_rfl }
open Go.RowKit Go.Sort Go.Lib in
theorem Tryz.stringslite_Index_one (s:ByteArray) (c:UInt8) (w:World) :
  Calls Tryz.prog 111 #[.string s,.string ⟨#[c]⟩] w fun e w'=>e = .returned (.int .i64 (Lib.indexByte s.data.toList c))∧w'=w:=Any.stringslite_Index_one Tryz.lays219 s c w
end Go.Proofs
namespace Go.Pi
open Go.Proofs
theorem bb_.ok (n:Nat) (_:CxOk E (cx n bb_.d.nt)) (_:KPar (cx n bb_.d.nt)):bb_.d.Ok E (bb_.F (n+1)):=fun _ _ h=>nIndex_ok (fun s c w=>Tryz.stringslite_Index_one s c w) h
end Go.Pi
end
section
namespace Go.Proofs
open Go.Shelf
def Tryz.laysM171_ren:Go.Shelf.Ren:=⟨fun|171=>128|243=>159|246=>183|283=>203|284=>204|285=>205|286=>206|129=>219|317=>218|318=>220|319=>221|320=>222|337=>231|338=>232|n=>n,fun|3=>3|9=>9|2=>2|4=>4|171=>205|0=>0|53=>177|37=>139|5=>5|173=>208|212=>216|51=>174|20=>20|213=>217|46=>157|232=>229|233=>230|n=>n,fun|17=>3|18=>6|19=>7|n=>n⟩
theorem Tryz.laysM171:Go.Proofs.LaysM.n171 Tryz.prog Tryz.laysM171_ren:={
 mixed:=by kernel_rfl
 f129:=Tryz.func219.trans (congrArg some (by kernel_rfl))
 f171:=Tryz.func128.trans (congrArg some (by kernel_rfl))
 f243:=Tryz.func159.trans (congrArg some (by kernel_rfl))
 f246:=Tryz.func183.trans (congrArg some (by kernel_rfl))
 f283:=Tryz.func203.trans (congrArg some (by kernel_rfl))
 f284:=Tryz.func204.trans (congrArg some (by kernel_rfl))
 f285:=Tryz.func205.trans (congrArg some (by kernel_rfl))
 f286:=Tryz.func206.trans (congrArg some (by kernel_rfl))
 f317:=Tryz.func218.trans (congrArg some (by kernel_rfl))
 f318:=Tryz.func220.trans (congrArg some (by kernel_rfl))
 f319:=Tryz.func221.trans (congrArg some (by kernel_rfl))
 f320:=Tryz.func222.trans (congrArg some (by kernel_rfl))
 f337:=Tryz.func231.trans (congrArg some (by kernel_rfl))
 f338:=Tryz.func232.trans (congrArg some (by kernel_rfl))
 t0:=Tryz.underlying0
 a0:=Tryz.isAgg0
 z0:=Tryz.sizeOf0
 v0:=Tryz.zeroValue0
 t2:=Tryz.underlying2
 a2:=Tryz.isAgg2
 z2:=Tryz.sizeOf2
 v2:=Tryz.zeroValue2
 t3:=Tryz.underlying3
 a3:=Tryz.isAgg3
 z3:=Tryz.sizeOf3
 v3:=Tryz.zeroValue3
 t4:=Tryz.underlying4
 a4:=Tryz.isAgg4
 z4:=Tryz.sizeOf4
 v4:=Tryz.zeroValue4
 t5:=Tryz.underlying5
 a5:=Tryz.isAgg5
 z5:=Tryz.sizeOf5
 v5:=Tryz.zeroValue5
 t9:=Tryz.underlying9
 a9:=Tryz.isAgg9
 z9:=Tryz.sizeOf9
 v9:=Tryz.zeroValue9
 t20:=Tryz.underlying20
 a20:=Tryz.isAgg20
 z20:=Tryz.sizeOf20
 v20:=Tryz.zeroValue20
 t37:=Tryz.underlying139
 a37:=Tryz.isAgg139
 z37:=Tryz.sizeOf139
 v37:=Tryz.zeroValue139
 t46:=Tryz.underlying157
 a46:=Tryz.isAgg157
 z46:=Tryz.sizeOf157
 v46:=Tryz.zeroValue157
 t51:=Tryz.underlying174
 a51:=Tryz.isAgg174
 z51:=Tryz.sizeOf174
 v51:=Tryz.zeroValue174
 t53:=Tryz.underlying177
 a53:=Tryz.isAgg177
 z53:=Tryz.sizeOf177
 v53:=Tryz.zeroValue177
 t171:=Tryz.underlying205
 a171:=Tryz.isAgg205
 z171:=Tryz.sizeOf205
 v171:=Tryz.zeroValue205
 t173:=Tryz.underlying208
 a173:=Tryz.isAgg208
 z173:=Tryz.sizeOf208
 v173:=Tryz.zeroValue208
 t212:=Tryz.underlying216
 a212:=Tryz.isAgg216
 z212:=Tryz.sizeOf216
 v212:=Tryz.zeroValue216
 t213:=Tryz.underlying217
 a213:=Tryz.isAgg217
 z213:=Tryz.sizeOf217
 t232:=Tryz.underlying229
 a232:=Tryz.isAgg229
 z232:=Tryz.sizeOf229
 v232:=Tryz.zeroValue229
 t233:=Tryz.underlying230
 a233:=Tryz.isAgg230
 z233:=Tryz.sizeOf230
 v233:=Tryz.zeroValue230
 g17:=by kernel_rfl
 g18:=by kernel_rfl
 g19:=by kernel_rfl
 i0:=by kernel_rfl
 i2:=by kernel_rfl
 i3:=by kernel_rfl
 i4:=by kernel_rfl
 i5:=by kernel_rfl
 i9:=by kernel_rfl
 i20:=by kernel_rfl
 i37:=by kernel_rfl
 i46:=by kernel_rfl
 i51:=by kernel_rfl
 i53:=by kernel_rfl
 i171:=by kernel_rfl
 i173:=by kernel_rfl
 i212:=by kernel_rfl
 i232:=by kernel_rfl
 i233:=by kernel_rfl
 m17:=by kernel_rfl
 m18:=by kernel_rfl
 m19:=by kernel_rfl }
open Go.RowKit Go.Sort Go.Lib in
theorem Tryz.strconv_Itoa (n:Int) (h0 : -9223372036854775808≤n) (h1:n≤9223372036854775807) (w:World) (htab:Lib.TabIs Tryz.prog w "internal/strconv.uint64pow10" .u64 Lib.pow10Tab) :
  Calls Tryz.prog 128 #[.int .i64 n] w fun e w'=>e = .returned (.string ⟨(Lib.itoa n).toArray⟩)∧∃ k os,w'=grow (w.drewN k) os:=Any.strconv_Itoa Tryz.laysM171 n h0 h1 w htab
end Go.Proofs
namespace Go.Pi
open Go.Proofs
theorem j6_:E.P.globalNamed "internal/strconv.uint64pow10" = some 3:=by kernel_rfl
theorem strconv_Itoa.ok (n:Nat) (_:CxOk E (cx n strconv_Itoa.d.nt)) (_:KPar (cx n strconv_Itoa.d.nt)):strconv_Itoa.d.Ok E (strconv_Itoa.F (n+1)):=fun _ _ h=>nItoa_ok (fun n h0 h1 w ht=>Tryz.strconv_Itoa n h0 h1 w ht) (.head _) j6_ h
end Go.Pi
end
section
namespace Go.Proofs
open Go.Shelf
def Tryz.lays156_ren:Go.Shelf.Ren:=⟨fun|156=>161|165=>184|166=>185|169=>186|240=>207|241=>208|276=>223|277=>224|n=>n,fun|31=>23|9=>9|3=>3|4=>4|0=>0|20=>20|72=>189|76=>122|70=>187|37=>139|75=>121|127=>198|164=>219|5=>5|80=>166|n=>n,fun|n=>n⟩
theorem Tryz.lays156:Go.Proofs.Lays.n156 Tryz.prog Tryz.lays156_ren:={
 mixed:=by kernel_rfl
 f156:=Tryz.func161.trans (congrArg some (by kernel_rfl))
 f165:=Tryz.func184.trans (congrArg some (by kernel_rfl))
 f166:=Tryz.func185.trans (congrArg some (by kernel_rfl))
 f169:=Tryz.func186.trans (congrArg some (by kernel_rfl))
 f240:=Tryz.func207.trans (congrArg some (by kernel_rfl))
 f241:=Tryz.func208.trans (congrArg some (by kernel_rfl))
 f276:=Tryz.func223.trans (congrArg some (by kernel_rfl))
 f277:=Tryz.func224.trans (congrArg some (by kernel_rfl))
 t0:=Tryz.underlying0
 a0:=Tryz.isAgg0
 z0:=Tryz.sizeOf0
 v0:=Tryz.zeroValue0
 t3:=Tryz.underlying3
 a3:=Tryz.isAgg3
 z3:=Tryz.sizeOf3
 v3:=Tryz.zeroValue3
 t4:=Tryz.underlying4
 a4:=Tryz.isAgg4
 z4:=Tryz.sizeOf4
 v4:=Tryz.zeroValue4
 t9:=Tryz.underlying9
 a9:=Tryz.isAgg9
 z9:=Tryz.sizeOf9
 v9:=Tryz.zeroValue9
 t20:=Tryz.underlying20
 a20:=Tryz.isAgg20
 z20:=Tryz.sizeOf20
 v20:=Tryz.zeroValue20
 t31:=Tryz.underlying23
 a31:=Tryz.isAgg23
 z31:=Tryz.sizeOf23
 v31:=Tryz.zeroValue23
 t37:=Tryz.underlying139
 a37:=Tryz.isAgg139
 z37:=Tryz.sizeOf139
 v37:=Tryz.zeroValue139
 t70:=Tryz.underlying187
 a70:=Tryz.isAgg187
 z70:=Tryz.sizeOf187
 v70:=Tryz.zeroValue187
 t72:=Tryz.underlying189
 a72:=Tryz.isAgg189
 z72:=Tryz.sizeOf189
 v72:=Tryz.zeroValue189
 t75:=Tryz.underlying121
 a75:=Tryz.isAgg121
 z75:=Tryz.sizeOf121
 v75:=Tryz.zeroValue121
 t76:=Tryz.underlying122
 a76:=Tryz.isAgg122
 z76:=Tryz.sizeOf122
 v76:=Tryz.zeroValue122
 t127:=Tryz.underlying198
 a127:=Tryz.isAgg198
 z127:=Tryz.sizeOf198
 v127:=Tryz.zeroValue198
 t164:=Tryz.underlying219
 a164:=Tryz.isAgg219
 z164:=Tryz.sizeOf219
 v164:=Tryz.zeroValue219 }
theorem Tryz.Builder_Extra_156:Builder.Extra Tryz.prog Tryz.lays156_ren:={
 sizeBuilder:=by kernel_rfl
 liesBuilder:=by kernel_rfl
 t5:=Tryz.underlying5
 a5:=Tryz.isAgg5
 z5:=Tryz.sizeOf5
 v5:=Tryz.zeroValue5
 infoByte:=by kernel_rfl
 cellsByte:=by kernel_rfl
 sizeByte:=by kernel_rfl
 neB5:=by decide }
open Go.RowKit Go.Sort Go.Lib in
theorem Tryz.strings_Join_none (a:Option Addr) (c:Nat) (sep:ByteArray) (w:World) :
  Calls Tryz.prog 161 #[.slice a 0 c,.string sep] w fun e w'=>e = .returned (.string ⟨#[]⟩)∧w'=w:=Any.strings_Join_none Tryz.lays156 Tryz.Builder_Extra_156 a c sep w
open Go.RowKit Go.Sort Go.Lib in
theorem Tryz.strings_Join (bk o c:Nat) (xs:List ByteArray) (sep:ByteArray) (w:World) (hcells:∀ (j:Nat) x,xs[j]?=some x→w.cell? ⟨bk,o+j,none⟩=some (.string x)) (hbk:bk<w.heap.size) (hN:xs.length≤140737488355328) (hcap:xs.length≤c) (hlen:(Lib.join (xs.map (·.data.toList)) sep.data.toList).length≤140737488355328) :
  Calls Tryz.prog 161 #[.slice (some ⟨bk,o,none⟩) xs.length c,.string sep] w fun e w'=>e = .returned (.string ⟨(Lib.join (xs.map (·.data.toList)) sep.data.toList).toArray⟩)∧Below w.heap.size w w':=Any.strings_Join Tryz.lays156 Tryz.Builder_Extra_156 bk o c xs sep w hcells hbk hN hcap hlen
end Go.Proofs
namespace Go.Pi
open Go.Proofs
theorem strings_Join.ok (n:Nat) (_:CxOk E (cx n strings_Join.d.nt)) (_:KPar (cx n strings_Join.d.nt)):strings_Join.d.Ok E (strings_Join.F (n+1)):=fun _ _ h=>nJoin_ok ⟨fun a c sep w=>Tryz.strings_Join_none a c sep w,fun bk o c xs sep w h1 h2 h3 h4 h5=>Tryz.strings_Join bk o c xs sep w h1 h2 h3 h4 h5⟩ (fun _=>rfl) h
end Go.Pi
end
section
namespace Go.Proofs
open Go.Shelf
def Tryz.lays146_ren:Go.Shelf.Ren:=⟨fun|146=>180|221=>199|268=>215|138=>216|143=>72|195=>228|197=>217|218=>229|219=>111|260=>230|217=>136|225=>137|224=>138|267=>139|266=>174|314=>175|n=>n,fun|9=>9|31=>23|3=>3|4=>4|0=>0|105=>213|21=>21|5=>5|46=>157|119=>225|139=>228|138=>227|146=>175|51=>174|n=>n,fun|1=>0|3=>4|4=>5|n=>n⟩
theorem Tryz.lays146:Go.Proofs.Lays.n146 Tryz.prog Tryz.lays146_ren:={
 mixed:=by kernel_rfl
 f138:=Tryz.func216.trans (congrArg some (by kernel_rfl))
 f143:=Tryz.func72.trans (congrArg some (by kernel_rfl))
 f146:=Tryz.func180.trans (congrArg some (by kernel_rfl))
 f195:=Tryz.func228.trans (congrArg some (by kernel_rfl))
 f197:=Tryz.func217.trans (congrArg some (by kernel_rfl))
 f217:=Tryz.func136.trans (congrArg some (by kernel_rfl))
 f218:=Tryz.func229.trans (congrArg some (by kernel_rfl))
 f219:=Tryz.func111.trans (congrArg some (by kernel_rfl))
 f221:=Tryz.func199.trans (congrArg some (by kernel_rfl))
 f224:=Tryz.func138.trans (congrArg some (by kernel_rfl))
 f225:=Tryz.func137.trans (congrArg some (by kernel_rfl))
 f260:=Tryz.func230.trans (congrArg some (by kernel_rfl))
 f266:=Tryz.func174.trans (congrArg some (by kernel_rfl))
 f267:=Tryz.func139.trans (congrArg some (by kernel_rfl))
 f268:=Tryz.func215.trans (congrArg some (by kernel_rfl))
 f314:=Tryz.func175.trans (congrArg some (by kernel_rfl))
 t0:=Tryz.underlying0
 a0:=Tryz.isAgg0
 z0:=Tryz.sizeOf0
 v0:=Tryz.zeroValue0
 t3:=Tryz.underlying3
 a3:=Tryz.isAgg3
 z3:=Tryz.sizeOf3
 v3:=Tryz.zeroValue3
 t4:=Tryz.underlying4
 a4:=Tryz.isAgg4
 z4:=Tryz.sizeOf4
 v4:=Tryz.zeroValue4
 t5:=Tryz.underlying5
 a5:=Tryz.isAgg5
 z5:=Tryz.sizeOf5
 v5:=Tryz.zeroValue5
 t9:=Tryz.underlying9
 a9:=Tryz.isAgg9
 z9:=Tryz.sizeOf9
 v9:=Tryz.zeroValue9
 t21:=Tryz.underlying21
 a21:=Tryz.isAgg21
 z21:=Tryz.sizeOf21
 v21:=Tryz.zeroValue21
 t31:=Tryz.underlying23
 a31:=Tryz.isAgg23
 z31:=Tryz.sizeOf23
 v31:=Tryz.zeroValue23
 t46:=Tryz.underlying157
 a46:=Tryz.isAgg157
 z46:=Tryz.sizeOf157
 v46:=Tryz.zeroValue157
 t51:=Tryz.underlying174
 a51:=Tryz.isAgg174
 z51:=Tryz.sizeOf174
 v51:=Tryz.zeroValue174
 t105:=Tryz.underlying213
 a105:=Tryz.isAgg213
 z105:=Tryz.sizeOf213
 v105:=Tryz.zeroValue213
 t119:=Tryz.underlying225
 a119:=Tryz.isAgg225
 z119:=Tryz.sizeOf225
 t138:=Tryz.underlying227
 a138:=Tryz.isAgg227
 z138:=Tryz.sizeOf227
 v138:=Tryz.zeroValue227
 t139:=Tryz.underlying228
 a139:=Tryz.isAgg228
 z139:=Tryz.sizeOf228
 v139:=Tryz.zeroValue228
 t146:=Tryz.underlying175
 a146:=Tryz.isAgg175
 z146:=Tryz.sizeOf175
 v146:=Tryz.zeroValue175
 g1:=by kernel_rfl
 g3:=by kernel_rfl
 g4:=by kernel_rfl }
open Go.RowKit Go.Sort Go.Lib in
theorem Tryz.strings_Split (s sep:ByteArray) (m:Int) (w:World) (hs:s.size<4294967281) (hm:w.cell? ⟨0,0,none⟩=some (.int .i64 m)) (h1:1≤sep.size) :
  Calls Tryz.prog 180 #[.string s,.string sep] w fun e w'=>
   e = .returned (.slice (some ⟨w.heap.size,0,none⟩) (Lib.countB s sep+1) (Lib.countB s sep+1))∧w'=w.alloc (.cells ((Lib.splitB sep 0 (Lib.countB s sep) s).map Value.string).toArray 9):=Any.strings_Split Tryz.lays146 (by kernel_rfl) s sep m w hs hm h1
end Go.Proofs
namespace Go.Pi
open Go.Proofs
theorem strings_Split.ok (n:Nat) (_:CxOk E (cx n strings_Split.d.nt)) (_:KPar (cx n strings_Split.d.nt)):strings_Split.d.Ok E (strings_Split.F (n+1)):=fun _ _ h=>nSplit_ok (g:=0) (T:=9) (fun s sep m w h1 h2 h3=>Tryz.strings_Split s sep m w h1 h2 h3) (.tail _ (.head _)) rfl (fun _ _=>rfl) rfl h
end Go.Pi
end
section
namespace Go.Proofs
open Go.Shelf
def Tryz.lays155_ren:Go.Shelf.Ren:=⟨fun|155=>181|154=>200|138=>216|165=>184|143=>72|166=>185|197=>217|169=>186|195=>228|218=>229|240=>207|241=>208|219=>111|260=>230|276=>223|277=>224|217=>136|225=>137|224=>138|267=>139|266=>174|314=>175|n=>n,fun|9=>9|3=>3|4=>4|72=>189|0=>0|76=>122|105=>213|21=>21|5=>5|70=>187|20=>20|37=>139|75=>121|127=>198|164=>219|46=>157|119=>225|139=>228|138=>227|146=>175|51=>174|80=>166|n=>n,fun|1=>0|3=>4|4=>5|n=>n⟩
theorem Tryz.lays155:Go.Proofs.Lays.n155 Tryz.prog Tryz.lays155_ren:={
 mixed:=by kernel_rfl
 f138:=Tryz.func216.trans (congrArg some (by kernel_rfl))
 f143:=Tryz.func72.trans (congrArg some (by kernel_rfl))
 f154:=Tryz.func200.trans (congrArg some (by kernel_rfl))
 f155:=Tryz.func181.trans (congrArg some (by kernel_rfl))
 f165:=Tryz.func184.trans (congrArg some (by kernel_rfl))
 f166:=Tryz.func185.trans (congrArg some (by kernel_rfl))
 f169:=Tryz.func186.trans (congrArg some (by kernel_rfl))
 f195:=Tryz.func228.trans (congrArg some (by kernel_rfl))
 f197:=Tryz.func217.trans (congrArg some (by kernel_rfl))
 f217:=Tryz.func136.trans (congrArg some (by kernel_rfl))
 f218:=Tryz.func229.trans (congrArg some (by kernel_rfl))
 f219:=Tryz.func111.trans (congrArg some (by kernel_rfl))
 f224:=Tryz.func138.trans (congrArg some (by kernel_rfl))
 f225:=Tryz.func137.trans (congrArg some (by kernel_rfl))
 f240:=Tryz.func207.trans (congrArg some (by kernel_rfl))
 f241:=Tryz.func208.trans (congrArg some (by kernel_rfl))
 f260:=Tryz.func230.trans (congrArg some (by kernel_rfl))
 f266:=Tryz.func174.trans (congrArg some (by kernel_rfl))
 f267:=Tryz.func139.trans (congrArg some (by kernel_rfl))
 f276:=Tryz.func223.trans (congrArg some (by kernel_rfl))
 f277:=Tryz.func224.trans (congrArg some (by kernel_rfl))
 f314:=Tryz.func175.trans (congrArg some (by kernel_rfl))
 t0:=Tryz.underlying0
 a0:=Tryz.isAgg0
 z0:=Tryz.sizeOf0
 v0:=Tryz.zeroValue0
 t3:=Tryz.underlying3
 a3:=Tryz.isAgg3
 z3:=Tryz.sizeOf3
 v3:=Tryz.zeroValue3
 t4:=Tryz.underlying4
 a4:=Tryz.isAgg4
 z4:=Tryz.sizeOf4
 v4:=Tryz.zeroValue4
 t5:=Tryz.underlying5
 a5:=Tryz.isAgg5
 z5:=Tryz.sizeOf5
 v5:=Tryz.zeroValue5
 t9:=Tryz.underlying9
 a9:=Tryz.isAgg9
 z9:=Tryz.sizeOf9
 v9:=Tryz.zeroValue9
 t20:=Tryz.underlying20
 a20:=Tryz.isAgg20
 z20:=Tryz.sizeOf20
 v20:=Tryz.zeroValue20
 t21:=Tryz.underlying21
 a21:=Tryz.isAgg21
 z21:=Tryz.sizeOf21
 v21:=Tryz.zeroValue21
 t37:=Tryz.underlying139
 a37:=Tryz.isAgg139
 z37:=Tryz.sizeOf139
 v37:=Tryz.zeroValue139
 t46:=Tryz.underlying157
 a46:=Tryz.isAgg157
 z46:=Tryz.sizeOf157
 v46:=Tryz.zeroValue157
 t51:=Tryz.underlying174
 a51:=Tryz.isAgg174
 z51:=Tryz.sizeOf174
 v51:=Tryz.zeroValue174
 t70:=Tryz.underlying187
 a70:=Tryz.isAgg187
 z70:=Tryz.sizeOf187
 v70:=Tryz.zeroValue187
 t72:=Tryz.underlying189
 a72:=Tryz.isAgg189
 z72:=Tryz.sizeOf189
 v72:=Tryz.zeroValue189
 t75:=Tryz.underlying121
 a75:=Tryz.isAgg121
 z75:=Tryz.sizeOf121
 v75:=Tryz.zeroValue121
 t76:=Tryz.underlying122
 a76:=Tryz.isAgg122
 z76:=Tryz.sizeOf122
 v76:=Tryz.zeroValue122
 t105:=Tryz.underlying213
 a105:=Tryz.isAgg213
 z105:=Tryz.sizeOf213
 v105:=Tryz.zeroValue213
 t119:=Tryz.underlying225
 a119:=Tryz.isAgg225
 z119:=Tryz.sizeOf225
 t127:=Tryz.underlying198
 a127:=Tryz.isAgg198
 z127:=Tryz.sizeOf198
 v127:=Tryz.zeroValue198
 t138:=Tryz.underlying227
 a138:=Tryz.isAgg227
 z138:=Tryz.sizeOf227
 v138:=Tryz.zeroValue227
 t139:=Tryz.underlying228
 a139:=Tryz.isAgg228
 z139:=Tryz.sizeOf228
 v139:=Tryz.zeroValue228
 t146:=Tryz.underlying175
 a146:=Tryz.isAgg175
 z146:=Tryz.sizeOf175
 v146:=Tryz.zeroValue175
 t164:=Tryz.underlying219
 a164:=Tryz.isAgg219
 z164:=Tryz.sizeOf219
 v164:=Tryz.zeroValue219
 g1:=by kernel_rfl
 g3:=by kernel_rfl
 g4:=by kernel_rfl }
theorem Tryz.Builder_Extra_155:Builder.Extra Tryz.prog Tryz.lays155_ren:={
 sizeBuilder:=by kernel_rfl
 liesBuilder:=by kernel_rfl
 t5:=Tryz.underlying5
 a5:=Tryz.isAgg5
 z5:=Tryz.sizeOf5
 v5:=Tryz.zeroValue5
 infoByte:=by kernel_rfl
 cellsByte:=by kernel_rfl
 sizeByte:=by kernel_rfl
 neB5:=by decide }
open Go.RowKit Go.Sort Go.Lib in
theorem Tryz.strings_ReplaceAll (s old new:ByteArray) (m:Int) (w:World) (hs:s.size<4294967281) (hm:w.cell? ⟨0,0,none⟩=some (.int .i64 m)) (h1:1≤old.size) (hlen:s.size+Lib.countB s old*new.size≤140737488355328) :
  Calls Tryz.prog 181 #[.string s,.string old,.string new] w fun e w'=>
   e = .returned (.string ⟨(Lib.replaceAll s.data.toList old.data.toList new.data.toList).toArray⟩)∧Below w.heap.size w w':=Any.strings_ReplaceAll Tryz.lays155 Tryz.Builder_Extra_155 s old new m w hs hm h1 hlen
end Go.Proofs
namespace Go.Pi
open Go.Proofs
theorem strings_ReplaceAll.ok (n:Nat) (_:CxOk E (cx n strings_ReplaceAll.d.nt)) (_:KPar (cx n strings_ReplaceAll.d.nt)):strings_ReplaceAll.d.Ok E (strings_ReplaceAll.F (n+1)):=fun _ _ h=>nRepl_ok (g:=0) (fun s old new m w h1 h2 h3 h4=>Tryz.strings_ReplaceAll s old new m w h1 h2 h3 h4) (.tail _ (.head _)) h
end Go.Pi
end
section
namespace Go.Proofs
open Go.Shelf Go.RowKit Go.Lib Go.Pi
section
variable {P:Program}
theorem pz_ (TS TE:TypeId) (TI:TypeId) (Z:Value) (i0:TypeInfo) (uS:P.underlying TS=some (.slice TE)) (uI:P.underlying TI=some (.int .i64)) (hi0:P.info? TE=some i0) (hz2:i0.zero=some Z) (hz0:i0.size=1) (hz1:i0.bytes=16) (hZK:Z.cells.size=1)
  (w:World) (g n c i:Nat) (cur:Array Value) (hg:w.heap[g]?=some (.cells cur TE (0,0))) (hs:cur.size=c) (hnc:n≤c) (hi:i<n)
  (gv m vc:Nat) (curv:Array Value) (Tv:TypeId) (hgv:w.heap[gv]?=some (.cells curv Tv (0,0))) (hmv:m≤curv.size) (us:List Value) (hul:us=curv.toList.take (m)) (h1u:∀ v ∈ us,v.oneCell'=true) (hm:0<m) (hroom:c<n+m)
  (hbig:(n+m)*16≤140737488355328) (h1:∀ v ∈ cur.toList.take (n),v.oneCell'=true) :
  ∃ G N W1 R1 W2 A,Hid (N=w.heap.size)∧n+m≤G∧G≤maxLen ∧
    (∀ ty,(Builtin.append_ #[TS,TI] ty #[.slice (some ⟨g,0,none⟩) i c,.int .i64 ((n:Int)+(m:Int) - (i:Int))]).run P w = .ok (.slice (some ⟨N,0,none⟩) (n+m) G) W1) ∧
    (∀ ty dc,(Builtin.copy_ #[TS,TS] ty #[.slice (some ⟨N,i,none⟩) (n+m - i) dc,.slice (some ⟨gv,0,none⟩) m vc]).run P W1 = .ok (goInt m) (W1.setRow N R1)) ∧
    (W1.setRow N R1).drew=W2 ∧
    (∀ ty dc sc,(Builtin.copy_ #[TS,TS] ty #[.slice (some ⟨N,(i+m),none⟩) (n+m - (i+m)) dc,.slice (some ⟨g,i,none⟩) (n - i) sc]).run P W2 = .ok (goInt (n - i)) (W2.setRow N A)) ∧
    Hid (n+m≤G∧G≤maxLen∧(W2.setRow N A).heap[w.heap.size]?=some (.cells A TE (0,0))∧A.size=G∧A.toList.take ((n+m))=(cur.toList.take (n)).take (i)++us++(cur.toList.take (n)).drop (i)∧w.grownBy (W2.setRow N A) none):=by
 have hul2:us.length=m:=by rw [hul,List.length_take,Array.length_toList];omega
 have hsz:(P.info? TE).map (·.size)=some 1:=by rw [hi0];simp [hz0]
 have hgd:w.drew.heap[g]?=some (.cells cur TE (0,0)):=hg
 have hgl:g<w.heap.size:=(Array.getElem?_eq_some_iff.1 hg).1
 have hgvl:gv<w.heap.size:=(Array.getElem?_eq_some_iff.1 hgv).1
 obtain ⟨olds,holds⟩:∃ olds,olds=(cur.toList.take (n)).take (i):=⟨_,rfl⟩
 have hol:olds.length=i:=by rw [holds];simp [hs];omega
 obtain ⟨G,hG⟩:∃ G,G=grownCap w (n+m) c TE:=⟨_,rfl⟩
 have hGn:n+m≤G:=by rw [hG];exact grownCap_ge w _ _ _
 have hGm:G≤maxLen:=by rw [hG];exact grownCap_le_maxLen w (n+m) c TE (by unfold maxLen;omega)
 obtain ⟨ROW,hROW⟩:∃ ROW:Array Value,ROW=olds.toArray++Builtin.zeroCells Z.cells (n+m - i)++Builtin.zeroCells Z.cells (G - (n+m)):=⟨_,rfl⟩
 have hRl:ROW.size=G:=by rw [hROW];simp [Builtin.zeroCells,hol,hZK];omega
 have hRt:ROW.toList.take (i)=olds:=by
  rw [hROW];simp only [Array.toList_append,List.append_assoc]
  rw [List.take_append_of_le_length (by simp [hol]),List.take_of_length_le (by simp [hol])]
 have hkk:(n:Int)+(m:Int) - (i:Int)=((n+m - i:Nat):Int):=by omega
 have hrz:∀ ty,(Builtin.append_ #[TS,TI] ty #[.slice (some ⟨g,0,none⟩) i c,.int .i64 ((n:Int)+(m:Int) - (i:Int))]).run P w =
   .ok (.slice (some ⟨w.heap.size,0,none⟩) (n+m) G) (w.drew.alloc (.cells ROW TE)):=fun ty=>by
  have h:=Lib.run_append_grow_zeros (P:=P) w TS TI ty TE i0 _ .i64 .i64 uS uI hi0 hz2 (some ⟨g,0,none⟩) i c olds (by
   rw [hz0]
   exact run_firstCells_some w.drew 1 i ⟨g,0,none⟩ i c olds (by rw [Nat.mul_one];exact hol) (fun j v hj=>by
    have hj2:=(List.getElem?_eq_some_iff.1 hj).1
    rw [holds,List.getElem?_take_of_lt (by omega),List.getElem?_take_of_lt (by omega),Array.getElem?_toList] at hj
    rw [Addr.add_lit,Nat.zero_add]
    simp only [World.cell?,hgd]
    exact hj)) (n+m - i) (by omega) (by omega) (by omega) (by omega) (by rw [hz1];omega) (by rw [hz1,show i+(n+m - i)=n+m by omega];exact growslice_fits hroom hbig)
  rw [show i+(n+m - i)=n+m by omega,←hG,←hROW] at h
  rw [hkk]
  exact h
 obtain ⟨N,hN⟩:∃ N,N=w.heap.size:=⟨_,rfl⟩
 rw [←hN] at hrz
 obtain ⟨W1,hW1⟩:∃ W1,W1=w.drew.alloc (.cells ROW TE):=⟨_,rfl⟩
 rw [←hW1] at hrz
 have hN1:W1.heap[N]?=some (.cells ROW TE (0,0)):=by rw [hW1,hN];exact heap_alloc_new w.drew _
 have hold:∀ b,b<w.heap.size→W1.heap[b]?=w.heap[b]?:=fun b hb=>by rw [hW1];exact heap_alloc_old w.drew _ hb
 have hgr1:w.grownBy W1 none:=by rw [hW1];exact ⟨rfl,rfl,rfl,by simp,fun k hk _=>heap_alloc_old w.drew _ hk⟩
 obtain ⟨R1,hR1⟩:∃ R1,R1=(ROW.toList.take (i)++us++ROW.toList.drop (i+us.length)).toArray:=⟨_,rfl⟩
 have hR1s:R1.size=G:=by rw [hR1];simp [hul2,hRl];omega
 have hcp1:∀ ty dc,(Builtin.copy_ #[TS,TS] ty #[.slice (some ⟨N,i,none⟩) (n+m - i) dc,.slice (some ⟨gv,0,none⟩) m vc]).run P W1 = .ok (goInt m) (W1.setRow N R1):=fun ty dc=>by
  have:=dD_ (P:=P) W1 TS TS ty TE 1 N (i) (n+m - i) dc ⟨gv,0,none⟩ m vc ROW TE us uS hsz hN1 (by rw [hul2];simp only [Nat.min_def];split<;>omega)
   (fun j v hj=>by
     have hj2:=(List.getElem?_eq_some_iff.1 hj).1
     rw [hul,List.getElem?_take_of_lt (by omega),Array.getElem?_toList] at hj
     rw [Addr.add_lit,Nat.zero_add]
     simp only [World.cell?,hold gv hgvl,hgv]
     exact hj) (by rw [hul2,hRl];omega) h1u
  rw [this,hR1]
  congr 2
  simp only [Nat.min_def];split<;>omega
 obtain ⟨W2,hW2⟩:∃ W2,W2=(W1.setRow N R1).drew:=⟨_,rfl⟩
 have hN2:W2.heap[N]?=some (.cells R1 TE (0,0)):=by rw [hW2];exact setRow_heap _ _ _ _ _ _ hN1
 have hg2:W2.heap[g]?=some (.cells cur TE (0,0)):=by
  rw [hW2];show (W1.setRow N R1).heap[g]?=_
  rw [setRow_other _ _ _ _ (by omega),hold g hgl];exact hg
 obtain ⟨mv,hmv2⟩:∃ mv,mv=(cur.toList.take (n)).drop (i):=⟨_,rfl⟩
 have hml:mv.length=(n - i):=by rw [hmv2];simp [hs];omega
 obtain ⟨A,hA⟩:∃ A,A=(R1.toList.take ((i+m))++mv++R1.toList.drop ((i+m)+mv.length)).toArray:=⟨_,rfl⟩
 have hcp2:∀ ty dc sc,(Builtin.copy_ #[TS,TS] ty #[.slice (some ⟨N,(i+m),none⟩) (n+m - (i+m)) dc,.slice (some ⟨g,i,none⟩) (n - i) sc]).run P W2 = .ok (goInt (n - i)) (W2.setRow N A):=fun ty dc sc=>by
  have:=dD_ (P:=P) W2 TS TS ty TE 1 N ((i+m)) (n+m - (i+m)) dc ⟨g,i,none⟩ (n - i) sc R1 TE mv uS hsz hN2 (by rw [hml];simp only [Nat.min_def];split<;>omega)
   (fun j v hj=>by
     have hj2:=(List.getElem?_eq_some_iff.1 hj).1
     rw [hmv2,List.getElem?_drop,List.getElem?_take_of_lt (by omega),Array.getElem?_toList] at hj
     rw [Addr.add_lit]
     simp only [World.cell?,hg2]
     exact hj) (by rw [hml,hR1s];omega) (fun v hv=>h1 v (by rw [hmv2] at hv;exact List.mem_of_mem_drop hv))
  rw [this,hA]
  congr 2
  simp only [Nat.min_def];split<;>omega
 have kA:Hid (n+m≤G∧G≤maxLen∧(W2.setRow N A).heap[w.heap.size]?=some (.cells A TE (0,0))∧A.size=G∧A.toList.take ((n+m))=(cur.toList.take (n)).take (i)++us++(cur.toList.take (n)).drop (i)∧w.grownBy (W2.setRow N A) none):=by
  refine ⟨hGn,hGm,by rw [←hN];exact setRow_heap _ _ _ _ _ _ hN2,by rw [hA];simp [hml,hR1s];omega,?_,?_⟩
  · have e1:R1.toList.take ((i+m))=olds++us:=by
     rw [hR1];simp only [List.toList_toArray]
     rw [List.take_append_of_le_length (by simp [hul2,hRl];omega),List.take_of_length_le (by simp [hul2,hRl];omega),hRt]
    rw [hA];simp only [List.toList_toArray]
    rw [e1,List.take_append_of_le_length (by simp [hol,hul2,hml];omega),List.take_of_length_le (by simp [hol,hul2,hml];omega),holds,hmv2]
  · refine ⟨by rw [hW2];exact hgr1.os,by rw [hW2];exact hgr1.tape,by rw [hW2];exact hgr1.output,?_,fun k hk hne => ?_⟩
    · have:(W2.setRow N A).heap.size=W1.heap.size:=by rw [hW2];simp [World.setRow,World.drew]
      rw [this];exact hgr1.size
    · rw [setRow_other _ _ _ _ (by omega),hW2]
      show (W1.setRow N R1).heap[k]?=_
      rw [setRow_other _ _ _ _ (by omega)];exact hold k hk
 exact ⟨G,N,W1,R1,W2,A,hN,hGn,hGm,hrz,hcp1,hW2.symm,hcp2,kA⟩
end
set_option maxRecDepth 1000000 in
theorem InsEnd192 (w:World) (S:Value) (n:Nat) (vals:List Value) (hS:w.ownsRow 0 9 1 S n vals) (gv m vc:Nat) (us:List Value) (hul:us.length=m) (hus:∀ j u,us[j]?=some u→w.cell? ⟨gv,j,none⟩=some u) (h1u:∀ v ∈ us,v.oneCell'=true) (hm:0<m) (hb:(n+m)*16≤140737488355328) :
  Calls Tryz.prog 192 #[S,.int .i64 n,.slice (some ⟨gv,0,none⟩) m vc] w fun e w'=>∃ R,e = .returned R∧w'.ownsRow 0 9 1 R (n+m) (vals++us)∧iO_ w w' (fun b=>cS_ S b≠0) ∧
   ∀ b,cS_ R b≠0→(w.heap.size≤b∨cS_ S b≠0)∧b<w'.heap.size:=by
 obtain ⟨i0,hi0⟩:=Option.isSome_iff_exists.1 (show (Tryz.prog.info? 9).isSome=true by kernel_rfl)
 have hz0:i0.size=1:=by
  have:(Tryz.prog.info? 9).map (·.size)=some 1:=by kernel_rfl
  rw [hi0] at this;simpa using this
 have hz1:i0.bytes=16:=by
  have:(Tryz.prog.info? 9).map (·.bytes)=some 16:=by kernel_rfl
  rw [hi0] at this;simpa using this
 have hz2:i0.zero=some (.string ByteArray.empty):=by
  have:(Tryz.prog.info? 9).bind (·.zero)=some (.string ByteArray.empty):=by kernel_rfl
  rw [hi0] at this;simpa using this
 have hz3:¬ ((m:Int)=0):=by omega
 have mixed:Tryz.prog.follows .mixedOrders=true:=by kernel_rfl
 have key:∀ ty,∃ v' w',(Builtin.append_ #[23,23] ty #[S,.slice (some ⟨gv,0,none⟩) m vc]).run Tryz.prog w = .ok v' w'∧w'.ownsRow 0 9 1 v' (n+m) (vals++us)∧iO_ w w' (fun b=>cS_ S b≠0) ∧
   ∀ b,cS_ v' b≠0→(w.heap.size≤b∨cS_ S b≠0)∧b<w'.heap.size:=fun ty=>by
  have:=e3_ (P:=Tryz.prog) w 23 ty 9 i0 _ Tryz.underlying23 hi0 hz2 (by rw [hz0];rfl) (by rw [hz0];decide) S n vals (by rw [hz0];exact hS) (.slice (some ⟨gv,0,none⟩) m vc) m us (by rw [hz0,Nat.mul_one];exact hul) (.inl ⟨_,_,rfl,fun j u h=>by rw [Addr.add_lit,Nat.zero_add];exact hus j u h⟩) h1u (by unfold maxLen;omega) (by rw [hz1];exact hb)
  rw [hz0] at this
  exact this
 obtain ⟨v',w',k1,k2,k3⟩:=key 23
 rcases (dE_.1 hS).2 with ⟨rfl,rfl⟩|⟨g,c,cur,rfl,-,hg,hnc,hcm,hcs,htake⟩
 · clear key hS hus hz2 hi0 hz0 hz1
   go_enter Tryz.func192,Tryz.ntmps192
   go_wp2_with (at_builtin;refine Lib.wpList_append_run _ rfl _ _ 23 23 rfl _ _ rfl rfl _ _ k1 ?_)
   go_ret
   exact ⟨_,rfl,k2,k3⟩
 · clear key hS hus hz2 hg htake hcs hi0 hz0 hz1
   unfold maxLen at hcm
   go_enter Tryz.func192,Tryz.ntmps192
   go_wp2_with (at_builtin;refine Lib.wpList_append_run _ rfl _ _ 23 23 rfl _ _ rfl rfl _ _ k1 ?_)
   all_goals (go_ret;exact ⟨_,rfl,k2,k3⟩)
set_option maxRecDepth 1000000 in
theorem pX_ (w:World) (S:Value) (n i:Nat) (vals:List Value) (hS:w.ownsRow 0 9 1 S n vals) (U:Value) (us:List Value) (hU:w.ownsRow 0 9 1 U 0 us) (hi:i≤n) :
  Calls Tryz.prog 192 #[S,.int .i64 i,U] w fun e w'=>e = .returned S∧w'=w:=by
 rcases (dE_.1 hS).2 with ⟨rfl,rfl⟩|⟨g,c,cur,rfl,-,hg,hnc,hcm,hcs,htake⟩
 · have hi0:i=0:=by omega
   subst hi0
   rcases (dE_.1 hU).2 with ⟨rfl,-⟩|⟨gv,vc,curv,rfl,-,hgv,hmc,hcm,hcs,htake⟩
   · clear hS hU
     go_enter Tryz.func192,Tryz.ntmps192
     go_wp2_with fail
     go_ret
     exact ⟨rfl,rfl⟩
   · clear hS hU hgv hcs htake
     go_enter Tryz.func192,Tryz.ntmps192
     go_wp2_with fail
     go_ret
     exact ⟨rfl,rfl⟩
 · unfold maxLen at hcm
   have hic:i≤c:=by omega
   rcases (dE_.1 hU).2 with ⟨rfl,-⟩|⟨gv,vc,curv,rfl,-,hgv,hmc,hcm2,hcs2,htake2⟩
   · clear hS hU hg hcs htake
     go_enter Tryz.func192,Tryz.ntmps192
     go_wp2_with fail
     all_goals (go_ret;exact ⟨rfl,rfl⟩)
   · clear hS hU hg hcs htake hgv hcs2 htake2
     go_enter Tryz.func192,Tryz.ntmps192
     go_wp2_with fail
     all_goals (go_ret;exact ⟨rfl,rfl⟩)
set_option maxRecDepth 1000000 in
theorem n2_ (w:World) (g n c i:Nat) (cur:Array Value) (hg:w.heap[g]?=some (.cells cur 9 (0,0))) (hs:cur.size=c) (hc:c≤9223372036854775807) (hi:i<n)
  (gv m vc:Nat) (curv:Array Value) (Tv:TypeId) (hgv:w.heap[gv]?=some (.cells curv Tv (0,0))) (hmv:m≤curv.size) (hne:gv≠g) (us:List Value) (hul:us=curv.toList.take (m)) (h1u:∀ v ∈ us,v.oneCell'=true) (hm:0<m) (hroom:n+m≤c)
  (h1:∀ v ∈ cur.toList.take (n),v.oneCell'=true) :
  Calls Tryz.prog 192 #[.slice (some ⟨g,0,none⟩) n c,.int .i64 i,.slice (some ⟨gv,0,none⟩) m vc] w fun e w'=>e = .returned (.slice (some ⟨g,0,none⟩) (n+m) c) ∧
   ∃ A,w'=w.drew.setRow g A∧A.size=cur.size∧A.toList.take ((n+m))=(cur.toList.take (n)).take (i)++us++(cur.toList.take (n)).drop (i):=by
 have hsz:(Tryz.prog.info? 9).map (·.size)=some 1:=by kernel_rfl
 have hul2:us.length=m:=by rw [hul,List.length_take,Array.length_toList];omega
 have hov:∀ lb cb,(callFunc 211 #[.slice (some ⟨gv,0,none⟩) m vc,.slice (some ⟨g,(i+m),none⟩) lb cb]).run Tryz.prog w = .ok (.value (.bool false)) w:=fun lb cb=>by
  rw [run_callFunc_extern Tryz.func211 (by kernel_rfl) (by kernel_rfl) (by kernel_rfl) (e:=Extern.SlicesOverlaps.overlaps #[23,23] #[4]) (by kernel_rfl),
   Lib.run_overlaps_apart w 23 4 9 Tryz.underlying23 1 Tryz.sizeOf9 ⟨gv,0,none⟩ ⟨g,(i+m),none⟩ m vc lb cb hne Tv 9 curv.size cur.size (by simp [World.shape?,hgv]) (by simp [World.shape?,hg]) (by omega) (by simp [World.frozen?,hgv]) (by simp [World.frozen?,hgv])]
  rfl
 obtain ⟨mv,hmv2⟩:∃ mv,mv=(cur.toList.take (n)).drop (i):=⟨_,rfl⟩
 have hml:mv.length=(n - i):=by rw [hmv2];simp [hs];omega
 have hgd:w.drew.heap[g]?=some (.cells cur 9 (0,0)):=hg
 obtain ⟨B,hB⟩:∃ B,B=(cur.toList.take ((i+m))++mv++cur.toList.drop ((i+m)+mv.length)).toArray:=⟨_,rfl⟩
 have hcp1:∀ ty dc sc,(Builtin.copy_ #[23,23] ty #[.slice (some ⟨g,(i+m),none⟩) (n+m - (i+m)) dc,.slice (some ⟨g,i,none⟩) (n+m - i) sc]).run Tryz.prog w.drew = .ok (goInt (n - i)) (w.drew.setRow g B):=fun ty dc sc=>by
  have:=dD_ (P:=Tryz.prog) w.drew 23 23 ty 9 1 g ((i+m)) (n+m - (i+m)) dc ⟨g,i,none⟩ (n+m - i) sc cur 9 mv Tryz.underlying23 hsz hgd (by rw [hml];simp only [Nat.min_def];split<;>omega)
   (fun j v hj=>by
     have hj2:=(List.getElem?_eq_some_iff.1 hj).1
     rw [hmv2,List.getElem?_drop,List.getElem?_take_of_lt (by omega),Array.getElem?_toList] at hj
     rw [Addr.add_lit]
     simp only [World.cell?,hgd]
     exact hj) (by rw [hml,hs];omega) (fun v hv=>h1 v (by rw [hmv2] at hv;exact List.mem_of_mem_drop hv))
  rw [this,hB]
  congr 2
  simp only [Nat.min_def];split<;>omega
 have hBs:B.size=cur.size:=by rw [hB];simp [hml,hs];omega
 have hgB:(w.drew.setRow g B).heap[g]?=some (.cells B 9 (0,0)):=setRow_heap _ _ _ _ _ _ hgd
 obtain ⟨A,hA⟩:∃ A,A=(B.toList.take (i)++us++B.toList.drop (i+us.length)).toArray:=⟨_,rfl⟩
 have hcp2:∀ ty dc,(Builtin.copy_ #[23,23] ty #[.slice (some ⟨g,i,none⟩) (n+m - i) dc,.slice (some ⟨gv,0,none⟩) m vc]).run Tryz.prog (w.drew.setRow g B) = .ok (goInt m) (w.drew.setRow g A):=fun ty dc=>by
  have:=dD_ (P:=Tryz.prog) (w.drew.setRow g B) 23 23 ty 9 1 g (i) (n+m - i) dc ⟨gv,0,none⟩ m vc B 9 us Tryz.underlying23 hsz hgB (by rw [hul2];simp only [Nat.min_def];split<;>omega)
   (fun j v hj=>by
     have hj2:=(List.getElem?_eq_some_iff.1 hj).1
     rw [hul,List.getElem?_take_of_lt (by omega),Array.getElem?_toList] at hj
     rw [Addr.add_lit,Nat.zero_add]
     have e:(w.drew.setRow g B).heap[gv]?=some (.cells curv Tv (0,0)):=by rw [setRow_other _ _ _ _ hne];exact hgv
     simp only [World.cell?,e]
     exact hj) (by rw [hul2,hBs,hs];omega) h1u
  rw [this,hA,setRow_setRow]
  congr 2
  simp only [Nat.min_def];split<;>omega
 have kA:Hid (A.size=cur.size∧A.toList.take ((n+m))=(cur.toList.take (n)).take (i)++us++mv):=by
  have e1:B.toList.take (i)=(cur.toList.take (n)).take (i):=by
   rw [hB];simp only [List.toList_toArray,List.append_assoc]
   rw [List.take_append_of_le_length (by simp [hs];omega),List.take_take,List.take_take]
   congr 1;omega
  have e2:(B.toList.drop (i+us.length)).take mv.length=mv:=by
   rw [hB];simp only [List.toList_toArray,List.append_assoc]
   rw [List.drop_append,List.drop_eq_nil_of_le (by simp [hul2,hs];omega),List.nil_append,List.length_take,show i+us.length - min ((i+m)) cur.toList.length=0 by simp [hul2,hs];omega,List.drop_zero,List.take_append_of_le_length (Nat.le_refl _),List.take_of_length_le (Nat.le_refl _)]
  refine ⟨by rw [hA];simp [hul2,hBs,hs];omega,?_⟩
  rw [hA];simp only [List.toList_toArray]
  rw [List.take_append,List.take_of_length_le (by simp [hul2,hBs,hs];omega),e1]
  congr 1
  rw [show (n+m) - (List.take (i) (List.take (n) cur.toList)++us).length=mv.length by simp [hul2,hml,hs];omega]
  exact e2
 rw [hmv2] at kA
 have hnc:n≤c:=by omega
 have hic:i≤c:=by omega
 have hz1:¬ ((m:Int)=0):=by omega
 have hz2:¬ ((i:Int)=(n:Int)):=by omega
 have mixed:Tryz.prog.follows .mixedOrders=true:=by kernel_rfl
 have hw1:IntKind.i64.wrap ((i:Int)+(m:Int))=(i:Int)+(m:Int):=by rw [IntKind.wrap_i64];omega
 have hb1:(0:Int)≤(i:Int)+(m:Int):=by omega
 have hin:i≤n:=by omega
 have htn:((i:Int)+(m:Int)).toNat=i+m:=by omega
 have hb2:¬ (c=i+m):=by omega
 have hb3:(i:Int)≤(n:Int)+(m:Int):=by omega
 have hb4:¬ (c=i):=by omega
 clear hB hBs hgB hA hmv2 hml hgd hg hgv hul hul2 h1 h1u hsz hs hmv
 go_enter Tryz.func192,Tryz.ntmps192
 go_wp2_with (simp only [hov])
 go_region_law_o (refine eJ_ rfl _ _ 23 23 rfl _ _ (by simp [Act.eval,Act.put]) (by simp [Act.eval,Act.put]) (hcp1 _ _ _) ?_)
 go_wp2_with (at_builtin;refine gf_ _ rfl _ _ 23 23 rfl _ _ rfl rfl (hcp2 _ _) ?_)
 go_ret
 exact ⟨rfl,A,rfl,kA.out.1,kA.out.2⟩
set_option maxRecDepth 1000000 in
theorem pZ_ (w:World) (g n c i:Nat) (cur:Array Value) (hg:w.heap[g]?=some (.cells cur 9 (0,0))) (hs:cur.size=c) (hnc:n≤c) (hi:i<n)
  (gv m vc:Nat) (curv:Array Value) (Tv:TypeId) (hgv:w.heap[gv]?=some (.cells curv Tv (0,0))) (hmv:m≤curv.size) (us:List Value) (hul:us=curv.toList.take (m)) (h1u:∀ v ∈ us,v.oneCell'=true) (hm:0<m) (hroom:c<n+m)
  (hbig:(n+m)*16≤140737488355328) (h1:∀ v ∈ cur.toList.take (n),v.oneCell'=true) :
  Calls Tryz.prog 192 #[.slice (some ⟨g,0,none⟩) n c,.int .i64 i,.slice (some ⟨gv,0,none⟩) m vc] w fun e w'=>∃ C A,e = .returned (.slice (some ⟨w.heap.size,0,none⟩) (n+m) C)∧n+m≤C∧C≤maxLen ∧
   w'.heap[w.heap.size]?=some (.cells A 9 (0,0))∧A.size=C∧A.toList.take ((n+m))=(cur.toList.take (n)).take (i)++us++(cur.toList.take (n)).drop (i)∧w.grownBy w' none:=by
 obtain ⟨i0,hi0⟩:=Option.isSome_iff_exists.1 (show (Tryz.prog.info? 9).isSome=true by kernel_rfl)
 have hz0:i0.size=1:=by
  have:(Tryz.prog.info? 9).map (·.size)=some 1:=by kernel_rfl
  rw [hi0] at this;simpa using this
 have hz1:i0.bytes=16:=by
  have:(Tryz.prog.info? 9).map (·.bytes)=some 16:=by kernel_rfl
  rw [hi0] at this;simpa using this
 have hz2:i0.zero=some (.string ByteArray.empty):=by
  have:(Tryz.prog.info? 9).bind (·.zero)=some (.string ByteArray.empty):=by kernel_rfl
  rw [hi0] at this;simpa using this
 obtain ⟨G,N,W1,R1,W2,A,hNN,hGn,hGm,hrz,hcp1,hW2',hcp2,kA⟩:=pz_ 23 9 3 _ i0 Tryz.underlying23 Tryz.underlying3 hi0 hz2 hz0 hz1 rfl w g n c i cur hg hs hnc hi gv m vc curv Tv hgv hmv us hul h1u hm hroom hbig h1
 have hic:i≤c:=by omega
 have hz3:¬ ((m:Int)=0):=by omega
 have hz4:¬ ((i:Int)=(n:Int)):=by omega
 have hz5:(c:Int)<(n:Int)+(m:Int):=by omega
 have mixed:Tryz.prog.follows .mixedOrders=true:=by kernel_rfl
 have hG63:G≤9223372036854775807:=by unfold maxLen at hGm;omega
 have hw1:IntKind.i64.wrap ((n:Int)+(m:Int))=(n:Int)+(m:Int):=by rw [IntKind.wrap_i64];omega
 have hw2:IntKind.i64.wrap ((n:Int)+(m:Int) - (i:Int))=(n:Int)+(m:Int) - (i:Int):=by rw [IntKind.wrap_i64];omega
 have hw3:IntKind.i64.wrap ((i:Int)+(m:Int))=(i:Int)+(m:Int):=by rw [IntKind.wrap_i64];omega
 have hb1:(0:Int)≤(i:Int)+(m:Int):=by omega
 have htn:((i:Int)+(m:Int)).toNat=i+m:=by omega
 have hGi:¬ (G=i):=by omega
 have hGim:¬ (G=i+m):=by omega
 have hb3:(i:Int)≤(n:Int)+(m:Int):=by omega
 have hb4:¬ (c=i):=by omega
 have hinm:i≤n+m:=by omega
 have himn:i+m≤n+m:=by omega
 have hin:i≤n:=by omega
 clear hul h1 h1u hg hgv hs hmv hz0 hz1 hz2 hi0 hbig
 go_enter Tryz.func192,Tryz.ntmps192
 go_wp2_with (at_builtin;refine Lib.wpList_append_run _ rfl _ _ 23 3 rfl _ _ rfl rfl _ _ (hrz _) ?_)
 go_region_law_o (simp only [hW2'];refine eJ_ rfl _ _ 23 23 rfl _ _ (by simp [Act.eval,Act.put]) (by simp [Act.eval,Act.put]) (hcp2 _ _ _) ?_)
 go_wp2_with fail
 go_ret
 exact ⟨G,A,by rw [hNN.out];rfl,kA.out⟩
theorem insM192:InsM Tryz.prog 192 9 1 16:=by
 intro w S n vals U m us i hS hU hdis hi h1 h1u hb
 simp only [Nat.mul_one]
 have hvl:=(dE_.1 hS).1
 by_cases hm:m=0
 · subst hm
   have hus:us=[]:=by have:=(dE_.1 hU).1;(try rw [Nat.zero_mul] at this);exact List.eq_nil_of_length_eq_zero this
   subst hus
   refine (pX_ w S n i vals hS U [] hU hi).mono ?_
   rintro e w' ⟨rfl,rfl⟩
   refine ⟨S,rfl,by rw [List.append_nil,List.take_append_drop];exact hS,⟨rfl,rfl,rfl,Nat.le_refl _,fun _ _ _=>rfl⟩,fun b hb=>⟨.inr hb,lA_ hS b hb⟩⟩
 · rcases (dE_.1 hU).2 with ⟨rfl,h0⟩|⟨gv,vc,curv,rfl,-,hgv,hmc,hcm,hcs,htake⟩
   · exact absurd h0 hm
   · by_cases hin:i=n
     · subst hin
       rw [List.take_of_length_le (by omega),List.drop_eq_nil_of_le (by omega),List.append_nil]
       exact InsEnd192 w S i vals hS gv m vc us (dE_.1 hU).1 (fun j u h=>by have:=hU.cells (g:=gv) rfl j u h;rwa [Addr.add_lit,Nat.zero_add] at this) h1u (by omega) hb
     · rcases (dE_.1 hS).2 with ⟨rfl,h0⟩|⟨g,c,cur,rfl,-,hg,hnc,hcm',hcs',htake'⟩
       · omega
       · have hne:gv≠g:=fun e=>by subst e;have:=hdis gv (by simp [cS_]);simp [cS_] at this
         have hmv:m≤curv.size:=by rw [hcs];exact hmc
         by_cases hroom:n+m≤c
         · refine (n2_ w g n c i cur hg hcs' (by unfold maxLen at hcm';omega) (by omega) gv m vc curv 9 hgv hmv hne us htake.symm h1u (by omega) hroom (by rw [htake'];exact h1)).mono ?_
           rintro e w' ⟨rfl,A,rfl,hA,ht⟩
           rw [htake'] at ht
           have hgd:w.drew.heap[g]?=some (.cells cur 9 (0,0)):=hg
           have hA2:=setRow_heap w.drew g cur A _ _ hgd
           refine ⟨_,rfl,dE_.2 ⟨by rw [←ht];simp [hA,hcs'];omega,.inr ⟨g,c,A,rfl,Nat.zero_le _,hA2,hroom,hcm',by rw [hA,hcs'],ht⟩⟩,⟨rfl,rfl,rfl,if_ w g A,fun b _ hn => ?_⟩,fun b hb=>⟨.inr hb,?_⟩⟩
           · rw [setRow_other _ _ _ _ (fun e=>hn (by subst e;simp [cS_]))];rfl
           · have:g=b:=by simp only [cS_] at hb;exact Classical.byContradiction fun h=>hb (if_neg h)
             subst this
             exact (Array.getElem?_eq_some_iff.1 hA2).1
         · refine (pZ_ w g n c i cur hg hcs' hnc (by omega) gv m vc curv 9 hgv hmv us htake.symm h1u (by omega) (by omega) hb (by rw [htake'];exact h1)).mono ?_
           rintro e w' ⟨C,A,rfl,hC,hCm,hN,hA,ht,hgr⟩
           rw [htake'] at ht
           refine ⟨_,rfl,dE_.2 ⟨by rw [←ht];simp [hA];omega,.inr ⟨_,C,A,rfl,Nat.zero_le _,hN,hC,hCm,hA,ht⟩⟩,⟨hgr.os,hgr.tape,hgr.output,hgr.size,fun b hb _=>hgr.block b hb (by simp)⟩,fun b hb => ?_⟩
           have:w.heap.size=b:=by simp only [cS_] at hb;exact Classical.byContradiction fun h=>hb (if_neg h)
           subst this
           exact ⟨.inl (Nat.le_refl _),(Array.getElem?_eq_some_iff.1 hN).1⟩
end Go.Proofs
namespace Go.Pi
open Go.Proofs
theorem bv_.ok (n:Nat) (_:CxOk E (cx n bv_.d.nt)) (_:KPar (cx n bv_.d.nt)):bv_.d.Ok E (bv_.F (n+1)):=fun _ _ h=>nIns_ok (t:=.str) (m1:=.d) (m2:=.d) (by decide) (by decide) insM192 h
end Go.Pi
end
section
namespace Go.Proofs
open Go.Shelf Go.RowKit Go.Lib Go.Pi
section
variable {P:Program}
theorem py_ (TS TE:TypeId) (TI:TypeId) (Z:Value) (i0:TypeInfo) (uS:P.underlying TS=some (.slice TE)) (uI:P.underlying TI=some (.int .i64)) (hi0:P.info? TE=some i0) (hz2:i0.zero=some Z) (hz0:i0.size=5) (hz1:i0.bytes=80) (hZK:Z.cells.size=5)
  (w:World) (g n c i:Nat) (cur:Array Value) (hg:w.heap[g]?=some (.cells cur TE (0,0))) (hs:cur.size=c*5) (hnc:n≤c) (hi:i<n)
  (gv m vc:Nat) (curv:Array Value) (Tv:TypeId) (hgv:w.heap[gv]?=some (.cells curv Tv (0,0))) (hmv:m*5≤curv.size) (us:List Value) (hul:us=curv.toList.take (m*5)) (h1u:∀ v ∈ us,v.oneCell'=true) (hm:0<m) (hroom:c<n+m)
  (hbig:(n+m)*80≤140737488355328) (h1:∀ v ∈ cur.toList.take (n*5),v.oneCell'=true) :
  ∃ G N W1 R1 W2 A,Hid (N=w.heap.size)∧n+m≤G∧G≤maxLen ∧
    (∀ ty,(Builtin.append_ #[TS,TI] ty #[.slice (some ⟨g,0,none⟩) i c,.int .i64 ((n:Int)+(m:Int) - (i:Int))]).run P w = .ok (.slice (some ⟨N,0,none⟩) (n+m) G) W1) ∧
    (∀ ty dc,(Builtin.copy_ #[TS,TS] ty #[.slice (some ⟨N,i*5,none⟩) (n+m - i) dc,.slice (some ⟨gv,0,none⟩) m vc]).run P W1 = .ok (goInt m) (W1.setRow N R1)) ∧
    (W1.setRow N R1).drew=W2 ∧
    (∀ ty dc sc,(Builtin.copy_ #[TS,TS] ty #[.slice (some ⟨N,(i+m)*5,none⟩) (n+m - (i+m)) dc,.slice (some ⟨g,i*5,none⟩) (n - i) sc]).run P W2 = .ok (goInt (n - i)) (W2.setRow N A)) ∧
    Hid (n+m≤G∧G≤maxLen∧(W2.setRow N A).heap[w.heap.size]?=some (.cells A TE (0,0))∧A.size=G*5∧A.toList.take ((n+m)*5)=(cur.toList.take (n*5)).take (i*5)++us++(cur.toList.take (n*5)).drop (i*5)∧w.grownBy (W2.setRow N A) none):=by
 have hul2:us.length=m*5:=by rw [hul,List.length_take,Array.length_toList];omega
 have hsz:(P.info? TE).map (·.size)=some 5:=by rw [hi0];simp [hz0]
 have hgd:w.drew.heap[g]?=some (.cells cur TE (0,0)):=hg
 have hgl:g<w.heap.size:=(Array.getElem?_eq_some_iff.1 hg).1
 have hgvl:gv<w.heap.size:=(Array.getElem?_eq_some_iff.1 hgv).1
 obtain ⟨olds,holds⟩:∃ olds,olds=(cur.toList.take (n*5)).take (i*5):=⟨_,rfl⟩
 have hol:olds.length=i*5:=by rw [holds];simp [hs];omega
 obtain ⟨G,hG⟩:∃ G,G=grownCap w (n+m) c TE:=⟨_,rfl⟩
 have hGn:n+m≤G:=by rw [hG];exact grownCap_ge w _ _ _
 have hGm:G≤maxLen:=by rw [hG];exact grownCap_le_maxLen w (n+m) c TE (by unfold maxLen;omega)
 obtain ⟨ROW,hROW⟩:∃ ROW:Array Value,ROW=olds.toArray++Builtin.zeroCells Z.cells (n+m - i)++Builtin.zeroCells Z.cells (G - (n+m)):=⟨_,rfl⟩
 have hRl:ROW.size=G*5:=by rw [hROW];simp [Builtin.zeroCells,hol,hZK];omega
 have hRt:ROW.toList.take (i*5)=olds:=by
  rw [hROW];simp only [Array.toList_append,List.append_assoc]
  rw [List.take_append_of_le_length (by simp [hol]),List.take_of_length_le (by simp [hol])]
 have hkk:(n:Int)+(m:Int) - (i:Int)=((n+m - i:Nat):Int):=by omega
 have hrz:∀ ty,(Builtin.append_ #[TS,TI] ty #[.slice (some ⟨g,0,none⟩) i c,.int .i64 ((n:Int)+(m:Int) - (i:Int))]).run P w =
   .ok (.slice (some ⟨w.heap.size,0,none⟩) (n+m) G) (w.drew.alloc (.cells ROW TE)):=fun ty=>by
  have h:=Lib.run_append_grow_zeros (P:=P) w TS TI ty TE i0 _ .i64 .i64 uS uI hi0 hz2 (some ⟨g,0,none⟩) i c olds (by
   rw [hz0]
   exact run_firstCells_some w.drew 5 i ⟨g,0,none⟩ i c olds hol (fun j v hj=>by
    have hj2:=(List.getElem?_eq_some_iff.1 hj).1
    rw [holds,List.getElem?_take_of_lt (by omega),List.getElem?_take_of_lt (by omega),Array.getElem?_toList] at hj
    rw [Addr.add_lit,Nat.zero_add]
    simp only [World.cell?,hgd]
    exact hj)) (n+m - i) (by omega) (by omega) (by omega) (by omega) (by rw [hz1];omega) (by rw [hz1,show i+(n+m - i)=n+m by omega];exact growslice_fits hroom hbig)
  rw [show i+(n+m - i)=n+m by omega,←hG,←hROW] at h
  rw [hkk]
  exact h
 obtain ⟨N,hN⟩:∃ N,N=w.heap.size:=⟨_,rfl⟩
 rw [←hN] at hrz
 obtain ⟨W1,hW1⟩:∃ W1,W1=w.drew.alloc (.cells ROW TE):=⟨_,rfl⟩
 rw [←hW1] at hrz
 have hN1:W1.heap[N]?=some (.cells ROW TE (0,0)):=by rw [hW1,hN];exact heap_alloc_new w.drew _
 have hold:∀ b,b<w.heap.size→W1.heap[b]?=w.heap[b]?:=fun b hb=>by rw [hW1];exact heap_alloc_old w.drew _ hb
 have hgr1:w.grownBy W1 none:=by rw [hW1];exact ⟨rfl,rfl,rfl,by simp,fun k hk _=>heap_alloc_old w.drew _ hk⟩
 obtain ⟨R1,hR1⟩:∃ R1,R1=(ROW.toList.take (i*5)++us++ROW.toList.drop (i*5+us.length)).toArray:=⟨_,rfl⟩
 have hR1s:R1.size=G*5:=by rw [hR1];simp [hul2,hRl];omega
 have hcp1:∀ ty dc,(Builtin.copy_ #[TS,TS] ty #[.slice (some ⟨N,i*5,none⟩) (n+m - i) dc,.slice (some ⟨gv,0,none⟩) m vc]).run P W1 = .ok (goInt m) (W1.setRow N R1):=fun ty dc=>by
  have:=dD_ (P:=P) W1 TS TS ty TE 5 N (i*5) (n+m - i) dc ⟨gv,0,none⟩ m vc ROW TE us uS hsz hN1 (by rw [hul2];simp only [Nat.min_def];split<;>omega)
   (fun j v hj=>by
     have hj2:=(List.getElem?_eq_some_iff.1 hj).1
     rw [hul,List.getElem?_take_of_lt (by omega),Array.getElem?_toList] at hj
     rw [Addr.add_lit,Nat.zero_add]
     simp only [World.cell?,hold gv hgvl,hgv]
     exact hj) (by rw [hul2,hRl];omega) h1u
  rw [this,hR1]
  congr 2
  simp only [Nat.min_def];split<;>omega
 obtain ⟨W2,hW2⟩:∃ W2,W2=(W1.setRow N R1).drew:=⟨_,rfl⟩
 have hN2:W2.heap[N]?=some (.cells R1 TE (0,0)):=by rw [hW2];exact setRow_heap _ _ _ _ _ _ hN1
 have hg2:W2.heap[g]?=some (.cells cur TE (0,0)):=by
  rw [hW2];show (W1.setRow N R1).heap[g]?=_
  rw [setRow_other _ _ _ _ (by omega),hold g hgl];exact hg
 obtain ⟨mv,hmv2⟩:∃ mv,mv=(cur.toList.take (n*5)).drop (i*5):=⟨_,rfl⟩
 have hml:mv.length=(n - i)*5:=by rw [hmv2];simp [hs];omega
 obtain ⟨A,hA⟩:∃ A,A=(R1.toList.take ((i+m)*5)++mv++R1.toList.drop ((i+m)*5+mv.length)).toArray:=⟨_,rfl⟩
 have hcp2:∀ ty dc sc,(Builtin.copy_ #[TS,TS] ty #[.slice (some ⟨N,(i+m)*5,none⟩) (n+m - (i+m)) dc,.slice (some ⟨g,i*5,none⟩) (n - i) sc]).run P W2 = .ok (goInt (n - i)) (W2.setRow N A):=fun ty dc sc=>by
  have:=dD_ (P:=P) W2 TS TS ty TE 5 N ((i+m)*5) (n+m - (i+m)) dc ⟨g,i*5,none⟩ (n - i) sc R1 TE mv uS hsz hN2 (by rw [hml];simp only [Nat.min_def];split<;>omega)
   (fun j v hj=>by
     have hj2:=(List.getElem?_eq_some_iff.1 hj).1
     rw [hmv2,List.getElem?_drop,List.getElem?_take_of_lt (by omega),Array.getElem?_toList] at hj
     rw [Addr.add_lit]
     simp only [World.cell?,hg2]
     exact hj) (by rw [hml,hR1s];omega) (fun v hv=>h1 v (by rw [hmv2] at hv;exact List.mem_of_mem_drop hv))
  rw [this,hA]
  congr 2
  simp only [Nat.min_def];split<;>omega
 have kA:Hid (n+m≤G∧G≤maxLen∧(W2.setRow N A).heap[w.heap.size]?=some (.cells A TE (0,0))∧A.size=G*5∧A.toList.take ((n+m)*5)=(cur.toList.take (n*5)).take (i*5)++us++(cur.toList.take (n*5)).drop (i*5)∧w.grownBy (W2.setRow N A) none):=by
  refine ⟨hGn,hGm,by rw [←hN];exact setRow_heap _ _ _ _ _ _ hN2,by rw [hA];simp [hml,hR1s];omega,?_,?_⟩
  · have e1:R1.toList.take ((i+m)*5)=olds++us:=by
     rw [hR1];simp only [List.toList_toArray]
     rw [List.take_append_of_le_length (by simp [hul2,hRl];omega),List.take_of_length_le (by simp [hul2,hRl];omega),hRt]
    rw [hA];simp only [List.toList_toArray]
    rw [e1,List.take_append_of_le_length (by simp [hol,hul2,hml];omega),List.take_of_length_le (by simp [hol,hul2,hml];omega),holds,hmv2]
  · refine ⟨by rw [hW2];exact hgr1.os,by rw [hW2];exact hgr1.tape,by rw [hW2];exact hgr1.output,?_,fun k hk hne => ?_⟩
    · have:(W2.setRow N A).heap.size=W1.heap.size:=by rw [hW2];simp [World.setRow,World.drew]
      rw [this];exact hgr1.size
    · rw [setRow_other _ _ _ _ (by omega),hW2]
      show (W1.setRow N R1).heap[k]?=_
      rw [setRow_other _ _ _ _ (by omega)];exact hold k hk
 exact ⟨G,N,W1,R1,W2,A,hN,hGn,hGm,hrz,hcp1,hW2.symm,hcp2,kA⟩
end
set_option maxRecDepth 1000000 in
theorem InsEnd193 (w:World) (S:Value) (n:Nat) (vals:List Value) (hS:w.ownsRow 0 25 5 S n vals) (gv m vc:Nat) (us:List Value) (hul:us.length=m*5) (hus:∀ j u,us[j]?=some u→w.cell? ⟨gv,j,none⟩=some u) (h1u:∀ v ∈ us,v.oneCell'=true) (hm:0<m) (hb:(n+m)*80≤140737488355328) :
  Calls Tryz.prog 193 #[S,.int .i64 n,.slice (some ⟨gv,0,none⟩) m vc] w fun e w'=>∃ R,e = .returned R∧w'.ownsRow 0 25 5 R (n+m) (vals++us)∧iO_ w w' (fun b=>cS_ S b≠0) ∧
   ∀ b,cS_ R b≠0→(w.heap.size≤b∨cS_ S b≠0)∧b<w'.heap.size:=by
 obtain ⟨i0,hi0⟩:=Option.isSome_iff_exists.1 (show (Tryz.prog.info? 25).isSome=true by kernel_rfl)
 have hz0:i0.size=5:=by
  have:(Tryz.prog.info? 25).map (·.size)=some 5:=by kernel_rfl
  rw [hi0] at this;simpa using this
 have hz1:i0.bytes=80:=by
  have:(Tryz.prog.info? 25).map (·.bytes)=some 80:=by kernel_rfl
  rw [hi0] at this;simpa using this
 have hz2:i0.zero=some (.agg #[.int .i64 0,.int .i64 0,.string ByteArray.empty,.slice none 0 0,.slice none 0 0]):=by
  have:(Tryz.prog.info? 25).bind (·.zero)=some (.agg #[.int .i64 0,.int .i64 0,.string ByteArray.empty,.slice none 0 0,.slice none 0 0]):=by kernel_rfl
  rw [hi0] at this;simpa using this
 have hz3:¬ ((m:Int)=0):=by omega
 have mixed:Tryz.prog.follows .mixedOrders=true:=by kernel_rfl
 have key:∀ ty,∃ v' w',(Builtin.append_ #[22,22] ty #[S,.slice (some ⟨gv,0,none⟩) m vc]).run Tryz.prog w = .ok v' w'∧w'.ownsRow 0 25 5 v' (n+m) (vals++us)∧iO_ w w' (fun b=>cS_ S b≠0) ∧
   ∀ b,cS_ v' b≠0→(w.heap.size≤b∨cS_ S b≠0)∧b<w'.heap.size:=fun ty=>by
  have:=e3_ (P:=Tryz.prog) w 22 ty 25 i0 _ Tryz.underlying22 hi0 hz2 (by rw [hz0];rfl) (by rw [hz0];decide) S n vals (by rw [hz0];exact hS) (.slice (some ⟨gv,0,none⟩) m vc) m us (by rw [hz0];exact hul) (.inl ⟨_,_,rfl,fun j u h=>by rw [Addr.add_lit,Nat.zero_add];exact hus j u h⟩) h1u (by unfold maxLen;omega) (by rw [hz1];exact hb)
  rw [hz0] at this
  exact this
 obtain ⟨v',w',k1,k2,k3⟩:=key 22
 rcases hS.2 with ⟨rfl,rfl⟩|⟨g,c,cur,rfl,-,hg,hnc,hcm,hcs,htake⟩
 · clear key hS hus hz2 hi0 hz0 hz1
   go_enter Tryz.func193,Tryz.ntmps193
   go_wp2_with (at_builtin;refine Lib.wpList_append_run _ rfl _ _ 22 22 rfl _ _ rfl rfl _ _ k1 ?_)
   go_ret
   exact ⟨_,rfl,k2,k3⟩
 · clear key hS hus hz2 hg htake hcs hi0 hz0 hz1
   unfold maxLen at hcm
   go_enter Tryz.func193,Tryz.ntmps193
   go_wp2_with (at_builtin;refine Lib.wpList_append_run _ rfl _ _ 22 22 rfl _ _ rfl rfl _ _ k1 ?_)
   all_goals (go_ret;exact ⟨_,rfl,k2,k3⟩)
set_option maxRecDepth 1000000 in
theorem pW_ (w:World) (S:Value) (n i:Nat) (vals:List Value) (hS:w.ownsRow 0 25 5 S n vals) (U:Value) (us:List Value) (hU:w.ownsRow 0 25 5 U 0 us) (hi:i≤n) :
  Calls Tryz.prog 193 #[S,.int .i64 i,U] w fun e w'=>e = .returned S∧w'=w:=by
 rcases hS.2 with ⟨rfl,rfl⟩|⟨g,c,cur,rfl,-,hg,hnc,hcm,hcs,htake⟩
 · have hi0:i=0:=by omega
   subst hi0
   rcases hU.2 with ⟨rfl,-⟩|⟨gv,vc,curv,rfl,-,hgv,hmc,hcm,hcs,htake⟩
   · clear hS hU
     go_enter Tryz.func193,Tryz.ntmps193
     go_wp2_with fail
     go_ret
     exact ⟨rfl,rfl⟩
   · clear hS hU hgv hcs htake
     go_enter Tryz.func193,Tryz.ntmps193
     go_wp2_with fail
     go_ret
     exact ⟨rfl,rfl⟩
 · unfold maxLen at hcm
   have hic:i≤c:=by omega
   rcases hU.2 with ⟨rfl,-⟩|⟨gv,vc,curv,rfl,-,hgv,hmc,hcm2,hcs2,htake2⟩
   · clear hS hU hg hcs htake
     go_enter Tryz.func193,Tryz.ntmps193
     go_wp2_with fail
     all_goals (go_ret;exact ⟨rfl,rfl⟩)
   · clear hS hU hg hcs htake hgv hcs2 htake2
     go_enter Tryz.func193,Tryz.ntmps193
     go_wp2_with fail
     all_goals (go_ret;exact ⟨rfl,rfl⟩)
set_option maxRecDepth 1000000 in
theorem n1_ (w:World) (g n c i:Nat) (cur:Array Value) (hg:w.heap[g]?=some (.cells cur 25 (0,0))) (hs:cur.size=c*5) (hc:c≤9223372036854775807) (hi:i<n)
  (gv m vc:Nat) (curv:Array Value) (Tv:TypeId) (hgv:w.heap[gv]?=some (.cells curv Tv (0,0))) (hmv:m*5≤curv.size) (hne:gv≠g) (us:List Value) (hul:us=curv.toList.take (m*5)) (h1u:∀ v ∈ us,v.oneCell'=true) (hm:0<m) (hroom:n+m≤c)
  (h1:∀ v ∈ cur.toList.take (n*5),v.oneCell'=true) :
  Calls Tryz.prog 193 #[.slice (some ⟨g,0,none⟩) n c,.int .i64 i,.slice (some ⟨gv,0,none⟩) m vc] w fun e w'=>e = .returned (.slice (some ⟨g,0,none⟩) (n+m) c) ∧
   ∃ A,w'=w.drew.setRow g A∧A.size=cur.size∧A.toList.take ((n+m)*5)=(cur.toList.take (n*5)).take (i*5)++us++(cur.toList.take (n*5)).drop (i*5):=by
 have hsz:(Tryz.prog.info? 25).map (·.size)=some 5:=by kernel_rfl
 have hul2:us.length=m*5:=by rw [hul,List.length_take,Array.length_toList];omega
 have hov:∀ lb cb,(callFunc 213 #[.slice (some ⟨gv,0,none⟩) m vc,.slice (some ⟨g,(i+m)*5,none⟩) lb cb]).run Tryz.prog w = .ok (.value (.bool false)) w:=fun lb cb=>by
  rw [run_callFunc_extern Tryz.func213 (by kernel_rfl) (by kernel_rfl) (by kernel_rfl) (e:=Extern.SlicesOverlaps.overlaps #[22,22] #[4]) (by kernel_rfl),
   Lib.run_overlaps_apart w 22 4 25 Tryz.underlying22 5 Tryz.sizeOf25 ⟨gv,0,none⟩ ⟨g,(i+m)*5,none⟩ m vc lb cb hne Tv 25 curv.size cur.size (by simp [World.shape?,hgv]) (by simp [World.shape?,hg]) (by omega) (by simp [World.frozen?,hgv]) (by simp [World.frozen?,hgv])]
  rfl
 obtain ⟨mv,hmv2⟩:∃ mv,mv=(cur.toList.take (n*5)).drop (i*5):=⟨_,rfl⟩
 have hml:mv.length=(n - i)*5:=by rw [hmv2];simp [hs];omega
 have hgd:w.drew.heap[g]?=some (.cells cur 25 (0,0)):=hg
 obtain ⟨B,hB⟩:∃ B,B=(cur.toList.take ((i+m)*5)++mv++cur.toList.drop ((i+m)*5+mv.length)).toArray:=⟨_,rfl⟩
 have hcp1:∀ ty dc sc,(Builtin.copy_ #[22,22] ty #[.slice (some ⟨g,(i+m)*5,none⟩) (n+m - (i+m)) dc,.slice (some ⟨g,i*5,none⟩) (n+m - i) sc]).run Tryz.prog w.drew = .ok (goInt (n - i)) (w.drew.setRow g B):=fun ty dc sc=>by
  have:=dD_ (P:=Tryz.prog) w.drew 22 22 ty 25 5 g ((i+m)*5) (n+m - (i+m)) dc ⟨g,i*5,none⟩ (n+m - i) sc cur 25 mv Tryz.underlying22 hsz hgd (by rw [hml];simp only [Nat.min_def];split<;>omega)
   (fun j v hj=>by
     have hj2:=(List.getElem?_eq_some_iff.1 hj).1
     rw [hmv2,List.getElem?_drop,List.getElem?_take_of_lt (by omega),Array.getElem?_toList] at hj
     rw [Addr.add_lit]
     simp only [World.cell?,hgd]
     exact hj) (by rw [hml,hs];omega) (fun v hv=>h1 v (by rw [hmv2] at hv;exact List.mem_of_mem_drop hv))
  rw [this,hB]
  congr 2
  simp only [Nat.min_def];split<;>omega
 have hBs:B.size=cur.size:=by rw [hB];simp [hml,hs];omega
 have hgB:(w.drew.setRow g B).heap[g]?=some (.cells B 25 (0,0)):=setRow_heap _ _ _ _ _ _ hgd
 obtain ⟨A,hA⟩:∃ A,A=(B.toList.take (i*5)++us++B.toList.drop (i*5+us.length)).toArray:=⟨_,rfl⟩
 have hcp2:∀ ty dc,(Builtin.copy_ #[22,22] ty #[.slice (some ⟨g,i*5,none⟩) (n+m - i) dc,.slice (some ⟨gv,0,none⟩) m vc]).run Tryz.prog (w.drew.setRow g B) = .ok (goInt m) (w.drew.setRow g A):=fun ty dc=>by
  have:=dD_ (P:=Tryz.prog) (w.drew.setRow g B) 22 22 ty 25 5 g (i*5) (n+m - i) dc ⟨gv,0,none⟩ m vc B 25 us Tryz.underlying22 hsz hgB (by rw [hul2];simp only [Nat.min_def];split<;>omega)
   (fun j v hj=>by
     have hj2:=(List.getElem?_eq_some_iff.1 hj).1
     rw [hul,List.getElem?_take_of_lt (by omega),Array.getElem?_toList] at hj
     rw [Addr.add_lit,Nat.zero_add]
     have e:(w.drew.setRow g B).heap[gv]?=some (.cells curv Tv (0,0)):=by rw [setRow_other _ _ _ _ hne];exact hgv
     simp only [World.cell?,e]
     exact hj) (by rw [hul2,hBs,hs];omega) h1u
  rw [this,hA,setRow_setRow]
  congr 2
  simp only [Nat.min_def];split<;>omega
 have kA:Hid (A.size=cur.size∧A.toList.take ((n+m)*5)=(cur.toList.take (n*5)).take (i*5)++us++mv):=by
  have e1:B.toList.take (i*5)=(cur.toList.take (n*5)).take (i*5):=by
   rw [hB];simp only [List.toList_toArray,List.append_assoc]
   rw [List.take_append_of_le_length (by simp [hs];omega),List.take_take,List.take_take]
   congr 1;omega
  have e2:(B.toList.drop (i*5+us.length)).take mv.length=mv:=by
   rw [hB];simp only [List.toList_toArray,List.append_assoc]
   rw [List.drop_append,List.drop_eq_nil_of_le (by simp [hul2,hs];omega),List.nil_append,List.length_take,show i*5+us.length - min ((i+m)*5) cur.toList.length=0 by simp [hul2,hs];omega,List.drop_zero,List.take_append_of_le_length (Nat.le_refl _),List.take_of_length_le (Nat.le_refl _)]
  refine ⟨by rw [hA];simp [hul2,hBs,hs];omega,?_⟩
  rw [hA];simp only [List.toList_toArray]
  rw [List.take_append,List.take_of_length_le (by simp [hul2,hBs,hs];omega),e1]
  congr 1
  rw [show (n+m)*5 - (List.take (i*5) (List.take (n*5) cur.toList)++us).length=mv.length by simp [hul2,hml,hs];omega]
  exact e2
 rw [hmv2] at kA
 have hnc:n≤c:=by omega
 have hic:i≤c:=by omega
 have hz1:¬ ((m:Int)=0):=by omega
 have hz2:¬ ((i:Int)=(n:Int)):=by omega
 have mixed:Tryz.prog.follows .mixedOrders=true:=by kernel_rfl
 have hw1:IntKind.i64.wrap ((i:Int)+(m:Int))=(i:Int)+(m:Int):=by rw [IntKind.wrap_i64];omega
 have hb1:(0:Int)≤(i:Int)+(m:Int):=by omega
 have hin:i≤n:=by omega
 have htn:((i:Int)+(m:Int)).toNat=i+m:=by omega
 have hb2:¬ (c=i+m):=by omega
 have hb3:(i:Int)≤(n:Int)+(m:Int):=by omega
 have hb4:¬ (c=i):=by omega
 clear hB hBs hgB hA hmv2 hml hgd hg hgv hul hul2 h1 h1u hsz hs hmv
 go_enter Tryz.func193,Tryz.ntmps193
 go_wp2_with (simp only [hov])
 go_region_law_o (refine eJ_ rfl _ _ 22 22 rfl _ _ (by simp [Act.eval,Act.put]) (by simp [Act.eval,Act.put]) (hcp1 _ _ _) ?_)
 go_wp2_with (at_builtin;refine gf_ _ rfl _ _ 22 22 rfl _ _ rfl rfl (hcp2 _ _) ?_)
 go_ret
 exact ⟨rfl,A,rfl,kA.out.1,kA.out.2⟩
set_option maxRecDepth 1000000 in
theorem pY_ (w:World) (g n c i:Nat) (cur:Array Value) (hg:w.heap[g]?=some (.cells cur 25 (0,0))) (hs:cur.size=c*5) (hnc:n≤c) (hi:i<n)
  (gv m vc:Nat) (curv:Array Value) (Tv:TypeId) (hgv:w.heap[gv]?=some (.cells curv Tv (0,0))) (hmv:m*5≤curv.size) (us:List Value) (hul:us=curv.toList.take (m*5)) (h1u:∀ v ∈ us,v.oneCell'=true) (hm:0<m) (hroom:c<n+m)
  (hbig:(n+m)*80≤140737488355328) (h1:∀ v ∈ cur.toList.take (n*5),v.oneCell'=true) :
  Calls Tryz.prog 193 #[.slice (some ⟨g,0,none⟩) n c,.int .i64 i,.slice (some ⟨gv,0,none⟩) m vc] w fun e w'=>∃ C A,e = .returned (.slice (some ⟨w.heap.size,0,none⟩) (n+m) C)∧n+m≤C∧C≤maxLen ∧
   w'.heap[w.heap.size]?=some (.cells A 25 (0,0))∧A.size=C*5∧A.toList.take ((n+m)*5)=(cur.toList.take (n*5)).take (i*5)++us++(cur.toList.take (n*5)).drop (i*5)∧w.grownBy w' none:=by
 obtain ⟨i0,hi0⟩:=Option.isSome_iff_exists.1 (show (Tryz.prog.info? 25).isSome=true by kernel_rfl)
 have hz0:i0.size=5:=by
  have:(Tryz.prog.info? 25).map (·.size)=some 5:=by kernel_rfl
  rw [hi0] at this;simpa using this
 have hz1:i0.bytes=80:=by
  have:(Tryz.prog.info? 25).map (·.bytes)=some 80:=by kernel_rfl
  rw [hi0] at this;simpa using this
 have hz2:i0.zero=some (.agg #[.int .i64 0,.int .i64 0,.string ByteArray.empty,.slice none 0 0,.slice none 0 0]):=by
  have:(Tryz.prog.info? 25).bind (·.zero)=some (.agg #[.int .i64 0,.int .i64 0,.string ByteArray.empty,.slice none 0 0,.slice none 0 0]):=by kernel_rfl
  rw [hi0] at this;simpa using this
 obtain ⟨G,N,W1,R1,W2,A,hNN,hGn,hGm,hrz,hcp1,hW2',hcp2,kA⟩:=py_ 22 25 3 _ i0 Tryz.underlying22 Tryz.underlying3 hi0 hz2 hz0 hz1 rfl w g n c i cur hg hs hnc hi gv m vc curv Tv hgv hmv us hul h1u hm hroom hbig h1
 have hic:i≤c:=by omega
 have hz3:¬ ((m:Int)=0):=by omega
 have hz4:¬ ((i:Int)=(n:Int)):=by omega
 have hz5:(c:Int)<(n:Int)+(m:Int):=by omega
 have mixed:Tryz.prog.follows .mixedOrders=true:=by kernel_rfl
 have hG63:G≤9223372036854775807:=by unfold maxLen at hGm;omega
 have hw1:IntKind.i64.wrap ((n:Int)+(m:Int))=(n:Int)+(m:Int):=by rw [IntKind.wrap_i64];omega
 have hw2:IntKind.i64.wrap ((n:Int)+(m:Int) - (i:Int))=(n:Int)+(m:Int) - (i:Int):=by rw [IntKind.wrap_i64];omega
 have hw3:IntKind.i64.wrap ((i:Int)+(m:Int))=(i:Int)+(m:Int):=by rw [IntKind.wrap_i64];omega
 have hb1:(0:Int)≤(i:Int)+(m:Int):=by omega
 have htn:((i:Int)+(m:Int)).toNat=i+m:=by omega
 have hGi:¬ (G=i):=by omega
 have hGim:¬ (G=i+m):=by omega
 have hb3:(i:Int)≤(n:Int)+(m:Int):=by omega
 have hb4:¬ (c=i):=by omega
 have hinm:i≤n+m:=by omega
 have himn:i+m≤n+m:=by omega
 have hin:i≤n:=by omega
 clear hul h1 h1u hg hgv hs hmv hz0 hz1 hz2 hi0 hbig
 go_enter Tryz.func193,Tryz.ntmps193
 go_wp2_with (at_builtin;refine Lib.wpList_append_run _ rfl _ _ 22 3 rfl _ _ rfl rfl _ _ (hrz _) ?_)
 go_region_law_o (simp only [hW2'];refine eJ_ rfl _ _ 22 22 rfl _ _ (by simp [Act.eval,Act.put]) (by simp [Act.eval,Act.put]) (hcp2 _ _ _) ?_)
 go_wp2_with fail
 go_ret
 exact ⟨G,A,by rw [hNN.out];rfl,kA.out⟩
theorem insM193:InsM Tryz.prog 193 25 5 80:=by
 intro w S n vals U m us i hS hU hdis hi h1 h1u hb
 have hvl:=hS.1
 by_cases hm:m=0
 · subst hm
   have hus:us=[]:=by have:=hU.1;rw [Nat.zero_mul] at this;exact List.eq_nil_of_length_eq_zero this
   subst hus
   refine (pW_ w S n i vals hS U [] hU hi).mono ?_
   rintro e w' ⟨rfl,rfl⟩
   refine ⟨S,rfl,by rw [List.append_nil,List.take_append_drop];exact hS,⟨rfl,rfl,rfl,Nat.le_refl _,fun _ _ _=>rfl⟩,fun b hb=>⟨.inr hb,lA_ hS b hb⟩⟩
 · rcases hU.2 with ⟨rfl,h0⟩|⟨gv,vc,curv,rfl,-,hgv,hmc,hcm,hcs,htake⟩
   · exact absurd h0 hm
   · by_cases hin:i=n
     · subst hin
       rw [List.take_of_length_le (by omega),List.drop_eq_nil_of_le (by omega),List.append_nil]
       exact InsEnd193 w S i vals hS gv m vc us hU.1 (fun j u h=>by have:=hU.cells (g:=gv) rfl j u h;rwa [Addr.add_lit,Nat.zero_add] at this) h1u (by omega) hb
     · rcases hS.2 with ⟨rfl,h0⟩|⟨g,c,cur,rfl,-,hg,hnc,hcm',hcs',htake'⟩
       · omega
       · have hne:gv≠g:=fun e=>by subst e;have:=hdis gv (by simp [cS_]);simp [cS_] at this
         have hmv:m*5≤curv.size:=by rw [hcs];exact Nat.mul_le_mul_right _ hmc
         by_cases hroom:n+m≤c
         · refine (n1_ w g n c i cur hg hcs' (by unfold maxLen at hcm';omega) (by omega) gv m vc curv 25 hgv hmv hne us htake.symm h1u (by omega) hroom (by rw [htake'];exact h1)).mono ?_
           rintro e w' ⟨rfl,A,rfl,hA,ht⟩
           rw [htake'] at ht
           have hgd:w.drew.heap[g]?=some (.cells cur 25 (0,0)):=hg
           have hA2:=setRow_heap w.drew g cur A _ _ hgd
           refine ⟨_,rfl,⟨by rw [←ht];simp [hA,hcs'];omega,.inr ⟨g,c,A,rfl,Nat.zero_le _,hA2,hroom,hcm',by rw [hA,hcs'],ht⟩⟩,⟨rfl,rfl,rfl,if_ w g A,fun b _ hn => ?_⟩,fun b hb=>⟨.inr hb,?_⟩⟩
           · rw [setRow_other _ _ _ _ (fun e=>hn (by subst e;simp [cS_]))];rfl
           · have:g=b:=by simp only [cS_] at hb;exact Classical.byContradiction fun h=>hb (if_neg h)
             subst this
             exact (Array.getElem?_eq_some_iff.1 hA2).1
         · refine (pY_ w g n c i cur hg hcs' hnc (by omega) gv m vc curv 25 hgv hmv us htake.symm h1u (by omega) (by omega) hb (by rw [htake'];exact h1)).mono ?_
           rintro e w' ⟨C,A,rfl,hC,hCm,hN,hA,ht,hgr⟩
           rw [htake'] at ht
           refine ⟨_,rfl,⟨by rw [←ht];simp [hA];omega,.inr ⟨_,C,A,rfl,Nat.zero_le _,hN,hC,hCm,hA,ht⟩⟩,⟨hgr.os,hgr.tape,hgr.output,hgr.size,fun b hb _=>hgr.block b hb (by simp)⟩,fun b hb => ?_⟩
           have:w.heap.size=b:=by simp only [cS_] at hb;exact Classical.byContradiction fun h=>hb (if_neg h)
           subst this
           exact ⟨.inl (Nat.le_refl _),(Array.getElem?_eq_some_iff.1 hN).1⟩
end Go.Proofs
namespace Go.Pi
open Go.Proofs
theorem bA_.ok (n:Nat) (_:CxOk E (cx n bA_.d.nt)) (_:KPar (cx n bA_.d.nt)):bA_.d.Ok E (bA_.F (n+1)):=fun _ _ h=>nIns_ok (t:=.iJson) (m1:=.d) (m2:=.d) (by decide) (by decide) insM193 h
end Go.Pi
end
section
namespace Go.Proofs
open Go.Shelf Go.RowKit Go.Lib Go.Pi
set_option maxRecDepth 1000000 in
theorem Delete195 (w:World) (g n c i j:Nat) (cur:Array Value) (hg:w.heap[g]?=some (.cells cur 25 (0,0))) (hs:cur.size=c*5) (hn:n≤c) (hc:c≤9223372036854775807) (hij:i<j) (hj:j≤n)
  (h1:∀ v ∈ cur.toList.take (n*5),v.oneCell'=true) :
  Calls Tryz.prog 195 #[.slice (some ⟨g,0,none⟩) n c,.int .i64 i,.int .i64 j] w fun e w'=>e = .returned (.slice (some ⟨g,0,none⟩) (n - (j - i)) c) ∧
   ∃ A,w'=w.drew.setRow g A∧A.size=cur.size∧A.toList.take ((n - (j - i))*5)=(cur.toList.take (n*5)).take (i*5)++(cur.toList.take (n*5)).drop (j*5):=by
 have hic:i≤c:=by omega
 have hjc:j≤c:=by omega
 obtain ⟨news,hnews⟩:∃ news,news=(cur.toList.take (n*5)).drop (j*5):=⟨_,rfl⟩
 have hlen:news.length=(n - j)*5:=by rw [hnews,List.length_drop,List.length_take,Array.length_toList,hs];omega
 have hgd:w.drew.heap[g]?=some (.cells cur 25 (0,0)):=hg
 obtain ⟨A,hA,hsrc⟩:∃ A:Addr,(if c=j then some (⟨g,0,none⟩:Addr) else some ⟨g,j*5,none⟩)=some A∧Hid (∀ t u,news[t]?=some u→w.drew.cell? (A.add t)=some u):=by
  by_cases h:c=j
  · refine ⟨⟨g,0,none⟩,by simp [h],fun t u hu => ?_⟩
    have h0:news.length=0:=by rw [hlen];omega
    rw [List.length_eq_zero_iff.1 h0] at hu
    simp at hu
  · refine ⟨⟨g,j*5,none⟩,by simp [h],fun t u hu => ?_⟩
    have ht:=(List.getElem?_eq_some_iff.1 hu).1
    rw [hlen] at ht
    rw [hnews,List.getElem?_drop,List.getElem?_take_of_lt (by omega),Array.getElem?_toList] at hu
    rw [Addr.add_lit]
    simp only [World.cell?,hgd]
    exact hu
 obtain ⟨i0,hi0⟩:=Option.isSome_iff_exists.1 (show (Tryz.prog.info? 25).isSome=true by kernel_rfl)
 have hz0:i0.size=5:=by
  have:(Tryz.prog.info? 25).map (·.size)=some 5:=by kernel_rfl
  rw [hi0] at this
  simpa using this
 have hr1:∀ ty,(Builtin.append_ #[22,22] ty #[.slice (some ⟨g,0,none⟩) i c,.slice (some A) (n - j) (c - j)]).run Tryz.prog w.drew = .ok (.slice (some ⟨g,0,none⟩) (i+(n - j)) c) (w.drew.setRow g (cur.toList.take (i*5)++news++cur.toList.drop (i*5+news.length)).toArray):=fun ty=>by
  have:=run_append_room (P:=Tryz.prog) w.drew 22 ty 25 i0 Tryz.underlying22 hi0 g i c cur hgd A (n - j) (c - j) news (by rw [hlen,hz0];try rw [Nat.mul_one]) hsrc.out (fun u hu=>h1 u (by rw [hnews] at hu;exact List.mem_of_mem_drop hu)) (by omega) (by rw [hz0,hlen,hs];omega)
  rw [hz0] at this
  first|exact this|(rw [Nat.mul_one] at this;exact this)
 obtain ⟨B,hB⟩:∃ B,B=(cur.toList.take (i*5)++news++cur.toList.drop (i*5+news.length)).toArray:=⟨_,rfl⟩
 have hBs:B.size=cur.size:=by rw [hB];simp [hlen,hs];omega
 have hBt:B.toList.take ((i+(n - j))*5)=(cur.toList.take (n*5)).take (i*5)++news:=by
  rw [hB]
  simp only [List.toList_toArray]
  rw [List.take_append_of_le_length (by simp [hlen,hs];omega),List.take_of_length_le (by simp [hlen,hs];omega),List.take_take,Nat.min_eq_left (by omega)]
 have hgB:(w.drew.setRow g B).heap[g]?=some (.cells B 25 (0,0)):=setRow_heap _ _ _ _ _ _ hgd
 obtain ⟨Z,hZ⟩:∃ Z,Z=(Builtin.zeroCells (Value.agg #[.int .i64 0,.int .i64 0,.string ByteArray.empty,.slice none 0 0,.slice none 0 0]).cells (n - (i+(n - j)))).toList:=⟨_,rfl⟩
 have hZl:Z.length=(n - (i+(n - j)))*5:=by rw [hZ];simp [Builtin.zeroCells,Value.cells]
 have hcl:∀ ty,(Builtin.clear_ #[22] ty #[.slice (some ⟨g,(i+(n - j))*5,none⟩) (n - (i+(n - j))) (c - (i+(n - j)))]).run Tryz.prog (w.drew.setRow g B) = .ok (.tuple #[]) ((w.drew.setRow g B).setRow g (B.toList.take ((i+(n - j))*5)++Z++B.toList.drop ((i+(n - j))*5+Z.length)).toArray):=fun ty=>by
  rw [hZ]
  refine jM_ _ 22 25 ty _ Tryz.underlying22 Tryz.zeroValue25 g _ _ _ (by omega) B 25 hgB (by
   have e:=hZl
   rw [hZ] at e
   exact Nat.le_trans (Nat.le_of_eq (congrArg (fun q=>(i+(n - j))*5+q) e)) (by first|(rw [hBs,hs,←Nat.add_mul];exact Nat.mul_le_mul_right _ (by omega))|(rw [hBs,hs];omega))) (fun v hv => ?_)
  exact zc_one _ (by kernel_rfl) _ v hv
 rw [←hB] at hr1
 obtain ⟨Z',hZ'⟩:∃ Z',Z'=(B.toList.take ((i+(n - j))*5)++Z++B.toList.drop ((i+(n - j))*5+Z.length)).toArray:=⟨_,rfl⟩
 have kZ:Hid (Z'.size=cur.size∧Z'.toList.take ((i+(n - j))*5)=(cur.toList.take (n*5)).take (i*5)++(cur.toList.take (n*5)).drop (j*5)):=by
  refine ⟨by rw [hZ'];simp [hZl,hBs,hs];omega,?_⟩
  rw [hZ',←hnews,←hBt]
  simp only [List.toList_toArray,List.append_assoc]
  rw [List.take_append_of_le_length (by simp [hBs,hs];omega),List.take_take,Nat.min_self]
 rw [←hZ'] at hcl
 clear hsrc h1 hB hBs hBt hgB hZ hZl hZ' hnews hlen hgd hg
 have hw1:¬ ((i:Int)=(j:Int)):=by omega
 have mixed:Tryz.prog.follows .mixedOrders=true:=by kernel_rfl
 go_enter Tryz.func195,Tryz.ntmps195
 go_wp2_with fail
 go_region_law_o (refine gh_ rfl (.tmp 22) (.tmp 25) 22 22 rfl _ _ (by simp [Act.eval,Act.put]) (by simp [Act.eval,Act.put,hA]) (hr1 _) ?_)
 go_wp2_with fail
 go_ret
 exact ⟨by rw [show n - (j - i)=i+(n - j) by omega];rfl,Z',by rw [setRow_setRow],kZ.out.1,by rw [show n - (j - i)=i+(n - j) by omega];exact kZ.out.2⟩
set_option maxRecDepth 1000000 in
theorem p1_ (w:World) (S:Value) (n i:Nat) (vals:List Value) (hS:w.ownsRow 0 25 5 S n vals) (hi:i≤n) :
  Calls Tryz.prog 195 #[S,.int .i64 i,.int .i64 i] w fun e w'=>e = .returned S∧w'=w:=by
 rcases hS.2 with ⟨rfl,rfl⟩|⟨g,c,cur,rfl,-,hg,hnc,hcm,hcs,htake⟩
 · have hi0:i=0:=by omega
   subst hi0
   clear hS
   go_enter Tryz.func195,Tryz.ntmps195
   go_wp2_with fail
   all_goals (go_ret;exact ⟨rfl,rfl⟩)
 · unfold maxLen at hcm
   have hic:i≤c:=by omega
   clear hS hg hcs htake
   go_enter Tryz.func195,Tryz.ntmps195
   go_wp2_with fail
   all_goals (go_ret;exact ⟨rfl,rfl⟩)
theorem delM195:DelM Tryz.prog 195 25 5:=by
 intro w S n vals i j hS hij hj h1
 by_cases e:i=j
 · subst e
   refine (p1_ w S n i vals hS hj).mono ?_
   rintro e w' ⟨rfl,rfl⟩
   refine ⟨S,rfl,by rw [Nat.sub_self,Nat.sub_zero,List.take_append_drop];exact hS,⟨rfl,rfl,rfl,Nat.le_refl _,fun _ _ _=>rfl⟩,fun b hb=>⟨.inr hb,lA_ hS b hb⟩⟩
 · rcases hS.2 with ⟨rfl,rfl⟩|⟨g,c,cur,rfl,-,hg,hnc,hcm,hcs,htake⟩
   · omega
   · refine (Delete195 w g n c i j cur hg hcs hnc (by unfold maxLen at hcm;omega) (by omega) hj (by rw [htake];exact h1)).mono ?_
     rintro e w' ⟨rfl,A,rfl,hA,ht⟩
     rw [htake] at ht
     have hgd:w.drew.heap[g]?=some (.cells cur 25 (0,0)):=hg
     have hA2:=setRow_heap w.drew g cur A _ _ hgd
     refine ⟨_,rfl,⟨by rw [←ht];simp [hA,hcs];omega,.inr ⟨g,c,A,rfl,Nat.zero_le _,hA2,by omega,hcm,by rw [hA,hcs],ht⟩⟩,⟨rfl,rfl,rfl,if_ w g A,fun b _ hn => ?_⟩,fun b hb=>⟨.inr hb,?_⟩⟩
     · rw [setRow_other _ _ _ _ (fun e=>hn (by subst e;simp [cS_]))];rfl
     · have:g=b:=by simp only [cS_] at hb;exact Classical.byContradiction fun h=>hb (if_neg h)
       subst this
       exact (Array.getElem?_eq_some_iff.1 hA2).1
end Go.Proofs
namespace Go.Pi
open Go.Proofs
theorem bK_.ok (n:Nat) (_:CxOk E (cx n bK_.d.nt)) (_:KPar (cx n bK_.d.nt)):bK_.d.Ok E (bK_.F (n+1)):=fun _ _ h=>nDel_ok (t:=.iJson) (m:=.d) (by decide) delM195 h
end Go.Pi
end
section
namespace Go.Proofs
open Go.Shelf Go.RowKit Go.Lib Go.Pi
set_option maxRecDepth 1000000 in
theorem Delete196 (w:World) (g n c i j:Nat) (cur:Array Value) (hg:w.heap[g]?=some (.cells cur 9 (0,0))) (hs:cur.size=c) (hn:n≤c) (hc:c≤9223372036854775807) (hij:i<j) (hj:j≤n)
  (h1:∀ v ∈ cur.toList.take (n),v.oneCell'=true) :
  Calls Tryz.prog 196 #[.slice (some ⟨g,0,none⟩) n c,.int .i64 i,.int .i64 j] w fun e w'=>e = .returned (.slice (some ⟨g,0,none⟩) (n - (j - i)) c) ∧
   ∃ A,w'=w.drew.setRow g A∧A.size=cur.size∧A.toList.take ((n - (j - i)))=(cur.toList.take (n)).take (i)++(cur.toList.take (n)).drop (j):=by
 have hic:i≤c:=by omega
 have hjc:j≤c:=by omega
 obtain ⟨news,hnews⟩:∃ news,news=(cur.toList.take (n)).drop (j):=⟨_,rfl⟩
 have hlen:news.length=(n - j):=by rw [hnews,List.length_drop,List.length_take,Array.length_toList,hs];omega
 have hgd:w.drew.heap[g]?=some (.cells cur 9 (0,0)):=hg
 obtain ⟨A,hA,hsrc⟩:∃ A:Addr,(if c=j then some (⟨g,0,none⟩:Addr) else some ⟨g,j,none⟩)=some A∧Hid (∀ t u,news[t]?=some u→w.drew.cell? (A.add t)=some u):=by
  by_cases h:c=j
  · refine ⟨⟨g,0,none⟩,by simp [h],fun t u hu => ?_⟩
    have h0:news.length=0:=by rw [hlen];omega
    rw [List.length_eq_zero_iff.1 h0] at hu
    simp at hu
  · refine ⟨⟨g,j,none⟩,by simp [h],fun t u hu => ?_⟩
    have ht:=(List.getElem?_eq_some_iff.1 hu).1
    rw [hlen] at ht
    rw [hnews,List.getElem?_drop,List.getElem?_take_of_lt (by omega),Array.getElem?_toList] at hu
    rw [Addr.add_lit]
    simp only [World.cell?,hgd]
    exact hu
 obtain ⟨i0,hi0⟩:=Option.isSome_iff_exists.1 (show (Tryz.prog.info? 9).isSome=true by kernel_rfl)
 have hz0:i0.size=1:=by
  have:(Tryz.prog.info? 9).map (·.size)=some 1:=by kernel_rfl
  rw [hi0] at this
  simpa using this
 have hr1:∀ ty,(Builtin.append_ #[23,23] ty #[.slice (some ⟨g,0,none⟩) i c,.slice (some A) (n - j) (c - j)]).run Tryz.prog w.drew = .ok (.slice (some ⟨g,0,none⟩) (i+(n - j)) c) (w.drew.setRow g (cur.toList.take (i)++news++cur.toList.drop (i+news.length)).toArray):=fun ty=>by
  have:=run_append_room (P:=Tryz.prog) w.drew 23 ty 9 i0 Tryz.underlying23 hi0 g i c cur hgd A (n - j) (c - j) news (by rw [hlen,hz0];try rw [Nat.mul_one]) hsrc.out (fun u hu=>h1 u (by rw [hnews] at hu;exact List.mem_of_mem_drop hu)) (by omega) (by rw [hz0,hlen,hs];omega)
  rw [hz0] at this
  first|exact this|(rw [Nat.mul_one] at this;exact this)
 obtain ⟨B,hB⟩:∃ B,B=(cur.toList.take (i)++news++cur.toList.drop (i+news.length)).toArray:=⟨_,rfl⟩
 have hBs:B.size=cur.size:=by rw [hB];simp [hlen,hs];omega
 have hBt:B.toList.take ((i+(n - j)))=(cur.toList.take (n)).take (i)++news:=by
  rw [hB]
  simp only [List.toList_toArray]
  rw [List.take_append_of_le_length (by simp [hlen,hs];omega),List.take_of_length_le (by simp [hlen,hs];omega),List.take_take,Nat.min_eq_left (by omega)]
 have hgB:(w.drew.setRow g B).heap[g]?=some (.cells B 9 (0,0)):=setRow_heap _ _ _ _ _ _ hgd
 obtain ⟨Z,hZ⟩:∃ Z,Z=(Builtin.zeroCells (Value.string ByteArray.empty).cells (n - (i+(n - j)))).toList:=⟨_,rfl⟩
 have hZl:Z.length=(n - (i+(n - j))):=by rw [hZ];simp [Builtin.zeroCells,Value.cells]
 have hcl:∀ ty,(Builtin.clear_ #[23] ty #[.slice (some ⟨g,(i+(n - j)),none⟩) (n - (i+(n - j))) (c - (i+(n - j)))]).run Tryz.prog (w.drew.setRow g B) = .ok (.tuple #[]) ((w.drew.setRow g B).setRow g (B.toList.take ((i+(n - j)))++Z++B.toList.drop ((i+(n - j))+Z.length)).toArray):=fun ty=>by
  rw [hZ]
  refine jM_ _ 23 9 ty _ Tryz.underlying23 Tryz.zeroValue9 g _ _ _ (by omega) B 9 hgB (by
   have e:=hZl
   rw [hZ] at e
   exact Nat.le_trans (Nat.le_of_eq (congrArg (fun q=>(i+(n - j))+q) e)) (by first|(rw [hBs,hs,←Nat.add_mul];exact Nat.mul_le_mul_right _ (by omega))|(rw [hBs,hs];omega))) (fun v hv => ?_)
  exact zc_one _ (by kernel_rfl) _ v hv
 rw [←hB] at hr1
 obtain ⟨Z',hZ'⟩:∃ Z',Z'=(B.toList.take ((i+(n - j)))++Z++B.toList.drop ((i+(n - j))+Z.length)).toArray:=⟨_,rfl⟩
 have kZ:Hid (Z'.size=cur.size∧Z'.toList.take ((i+(n - j)))=(cur.toList.take (n)).take (i)++(cur.toList.take (n)).drop (j)):=by
  refine ⟨by rw [hZ'];simp [hZl,hBs,hs];omega,?_⟩
  rw [hZ',←hnews,←hBt]
  simp only [List.toList_toArray,List.append_assoc]
  rw [List.take_append_of_le_length (by simp [hBs,hs];omega),List.take_take,Nat.min_self]
 rw [←hZ'] at hcl
 clear hsrc h1 hB hBs hBt hgB hZ hZl hZ' hnews hlen hgd hg
 have hw1:¬ ((i:Int)=(j:Int)):=by omega
 have mixed:Tryz.prog.follows .mixedOrders=true:=by kernel_rfl
 go_enter Tryz.func196,Tryz.ntmps196
 go_wp2_with fail
 go_region_law_o (refine gh_ rfl (.tmp 22) (.tmp 25) 23 23 rfl _ _ (by simp [Act.eval,Act.put]) (by simp [Act.eval,Act.put,hA]) (hr1 _) ?_)
 go_wp2_with fail
 go_ret
 exact ⟨by rw [show n - (j - i)=i+(n - j) by omega];rfl,Z',by rw [setRow_setRow],kZ.out.1,by rw [show n - (j - i)=i+(n - j) by omega];exact kZ.out.2⟩
set_option maxRecDepth 1000000 in
theorem p0_ (w:World) (S:Value) (n i:Nat) (vals:List Value) (hS:w.ownsRow 0 9 1 S n vals) (hi:i≤n) :
  Calls Tryz.prog 196 #[S,.int .i64 i,.int .i64 i] w fun e w'=>e = .returned S∧w'=w:=by
 rcases (dE_.1 hS).2 with ⟨rfl,rfl⟩|⟨g,c,cur,rfl,-,hg,hnc,hcm,hcs,htake⟩
 · have hi0:i=0:=by omega
   subst hi0
   clear hS
   go_enter Tryz.func196,Tryz.ntmps196
   go_wp2_with fail
   all_goals (go_ret;exact ⟨rfl,rfl⟩)
 · unfold maxLen at hcm
   have hic:i≤c:=by omega
   clear hS hg hcs htake
   go_enter Tryz.func196,Tryz.ntmps196
   go_wp2_with fail
   all_goals (go_ret;exact ⟨rfl,rfl⟩)
theorem delM196:DelM Tryz.prog 196 9 1:=by
 intro w S n vals i j hS hij hj h1
 simp only [Nat.mul_one]
 by_cases e:i=j
 · subst e
   refine (p0_ w S n i vals hS hj).mono ?_
   rintro e w' ⟨rfl,rfl⟩
   refine ⟨S,rfl,by rw [Nat.sub_self,Nat.sub_zero,List.take_append_drop];exact hS,⟨rfl,rfl,rfl,Nat.le_refl _,fun _ _ _=>rfl⟩,fun b hb=>⟨.inr hb,lA_ hS b hb⟩⟩
 · rcases (dE_.1 hS).2 with ⟨rfl,rfl⟩|⟨g,c,cur,rfl,-,hg,hnc,hcm,hcs,htake⟩
   · omega
   · refine (Delete196 w g n c i j cur hg hcs hnc (by unfold maxLen at hcm;omega) (by omega) hj (by rw [htake];exact h1)).mono ?_
     rintro e w' ⟨rfl,A,rfl,hA,ht⟩
     rw [htake] at ht
     have hgd:w.drew.heap[g]?=some (.cells cur 9 (0,0)):=hg
     have hA2:=setRow_heap w.drew g cur A _ _ hgd
     refine ⟨_,rfl,dE_.2 ⟨by rw [←ht];simp [hA,hcs];omega,.inr ⟨g,c,A,rfl,Nat.zero_le _,hA2,by omega,hcm,by rw [hA,hcs],ht⟩⟩,⟨rfl,rfl,rfl,if_ w g A,fun b _ hn => ?_⟩,fun b hb=>⟨.inr hb,?_⟩⟩
     · rw [setRow_other _ _ _ _ (fun e=>hn (by subst e;simp [cS_]))];rfl
     · have:g=b:=by simp only [cS_] at hb;exact Classical.byContradiction fun h=>hb (if_neg h)
       subst this
       exact (Array.getElem?_eq_some_iff.1 hA2).1
end Go.Proofs
namespace Go.Pi
open Go.Proofs
theorem bw_.ok (n:Nat) (_:CxOk E (cx n bw_.d.nt)) (_:KPar (cx n bw_.d.nt)):bw_.d.Ok E (bw_.F (n+1)):=fun _ _ h=>nDel_ok (t:=.str) (m:=.d) (by decide) delM196 h
end Go.Pi
end
section
namespace Go.Pi
open Go.Proofs
theorem kpar (n nt:Nat):KPar (cx n nt):=KH_par (l:=KL n) ⟨FD.kp,FD.kp,FD.kp,FD.kp,FD.kp,FD.kp,FD.kp,FD.kp,FD.kp,FD.kp,FD.kp,FD.kp,FD.kp,FD.kp,FD.kp,FD.kp,FD.kp,FD.kp,FD.kp,FD.kp,FD.kp,FD.kp,FD.kp,FD.kp,FD.kp,FD.kp,FD.kp,FD.kp,FD.kp,FD.kp,FD.kp,FD.kp,FD.kp,FD.kp,FD.kp,FD.kp,FD.kp,FD.kp,FD.kp,FD.kp,FD.kp,FD.kp,FD.kp,FD.kp,FD.kp,FD.kp,FD.kp,FD.kp,FD.kp,FD.kp,FD.kp,FD.kp,FD.kp,FD.kp,FD.kp,FD.kp,FD.kp,FD.kp,FD.kp,FD.kp,FD.kp,FD.kp,FD.kp,FD.kp,FD.kp,FD.kp,FD.kp,FD.kp,FD.kp,FD.kp,FD.kp,FD.kp,FD.kp,FD.kp,FD.kp,FD.kp,FD.kp,FD.kp,FD.kp,FD.kp,FD.kp,FD.kp,FD.kp,FD.kp,FD.kp,FD.kp,FD.kp,FD.kp,FD.kp,FD.kp,FD.kp,FD.kp,FD.kp,FD.kp,FD.kp,FD.kp,FD.kp,FD.kp,FD.kp,FD.kp,FD.kp,FD.kp,FD.kp,FD.kp,FD.kp,FD.kp,FD.kp,FD.kp,FD.kp,FD.kp,FD.kp,FD.kp,FD.kp,FD.kp,FD.kp,FD.kp,FD.kp,FD.kp,FD.kp,FD.kp,FD.kp,FD.kp,FD.kp,FD.kp,FD.kp,FD.kp,FD.kp,FD.kp,FD.kp,FD.kp,FD.kp,FD.kp,FD.kp,FD.kp,FD.kp,FD.kp,FD.kp,FD.kp,FD.kp,FD.kp,FD.kp,FD.kp,FD.kp,trivial⟩
structure AllOk (n:Nat):Prop where
 h0:bd_.d.Ok E (bd_.F n)
 h1:aY_.d.Ok E (aY_.F n)
 h2:bJ_.d.Ok E (bJ_.F n)
 h3:b5_.d.Ok E (b5_.F n)
 h4:az_.d.Ok E (az_.F n)
 h5:aJ_.d.Ok E (aJ_.F n)
 h6:cw_.d.Ok E (cw_.F n)
 h7:bB_.d.Ok E (bB_.F n)
 h8:aA_.d.Ok E (aA_.F n)
 h9:aU_.d.Ok E (aU_.F n)
 h10:bn_.d.Ok E (bn_.F n)
 h11:bf_.d.Ok E (bf_.F n)
 h12:af_.d.Ok E (af_.F n)
 h13:cT_.d.Ok E (cT_.F n)
 h14:aG_.d.Ok E (aG_.F n)
 h15:bZ_.d.Ok E (bZ_.F n)
 h16:a4_.d.Ok E (a4_.F n)
 h17:aD_.d.Ok E (aD_.F n)
 h18:cn_.d.Ok E (cn_.F n)
 h19:cE_.d.Ok E (cE_.F n)
 h20:bI_.d.Ok E (bI_.F n)
 h21:aH_.d.Ok E (aH_.F n)
 h22:cP_.d.Ok E (cP_.F n)
 h23:ce_.d.Ok E (ce_.F n)
 h24:aT_.d.Ok E (aT_.F n)
 h25:aj_.d.Ok E (aj_.F n)
 h26:bG_.d.Ok E (bG_.F n)
 h27:ar_.d.Ok E (ar_.F n)
 h28:bq_.d.Ok E (bq_.F n)
 h29:cJ_.d.Ok E (cJ_.F n)
 h30:ch_.d.Ok E (ch_.F n)
 h31:aO_.d.Ok E (aO_.F n)
 h32:be_.d.Ok E (be_.F n)
 h33:cp_.d.Ok E (cp_.F n)
 h34:b1_.d.Ok E (b1_.F n)
 h35:ac_.d.Ok E (ac_.F n)
 h36:by_.d.Ok E (by_.F n)
 h37:cz_.d.Ok E (cz_.F n)
 h38:cy_.d.Ok E (cy_.F n)
 h39:a5_.d.Ok E (a5_.F n)
 h40:dd_.d.Ok E (dd_.F n)
 h41:cZ_.d.Ok E (cZ_.F n)
 h42:bD_.d.Ok E (bD_.F n)
 h43:cd_.d.Ok E (cd_.F n)
 h44:c0_.d.Ok E (c0_.F n)
 h45:a0_.d.Ok E (a0_.F n)
 h46:bS_.d.Ok E (bS_.F n)
 h47:aP_.d.Ok E (aP_.F n)
 h48:ci_.d.Ok E (ci_.F n)
 h49:strings_Index.d.Ok E (strings_Index.F n)
 h50:aw_.d.Ok E (aw_.F n)
 h51:aF_.d.Ok E (aF_.F n)
 h52:bx_.d.Ok E (bx_.F n)
 h53:bb_.d.Ok E (bb_.F n)
 h54:a3_.d.Ok E (a3_.F n)
 h55:cR_.d.Ok E (cR_.F n)
 h56:aB_.d.Ok E (aB_.F n)
 h57:bs_.d.Ok E (bs_.F n)
 h58:cB_.d.Ok E (cB_.F n)
 h59:b4_.d.Ok E (b4_.F n)
 h60:a9_.d.Ok E (a9_.F n)
 h61:bF_.d.Ok E (bF_.F n)
 h62:bp_.d.Ok E (bp_.F n)
 h63:ak_.d.Ok E (ak_.F n)
 h64:ag_.d.Ok E (ag_.F n)
 h65:aS_.d.Ok E (aS_.F n)
 h66:ah_.d.Ok E (ah_.F n)
 h67:aN_.d.Ok E (aN_.F n)
 h68:bk_.d.Ok E (bk_.F n)
 h69:as_.d.Ok E (as_.F n)
 h70:ap_.d.Ok E (ap_.F n)
 h71:c2_.d.Ok E (c2_.F n)
 h72:a7_.d.Ok E (a7_.F n)
 h73:b0_.d.Ok E (b0_.F n)
 h74:bi_.d.Ok E (bi_.F n)
 h75:strconv_Itoa.d.Ok E (strconv_Itoa.F n)
 h76:strings_Join.d.Ok E (strings_Join.F n)
 h77:aX_.d.Ok E (aX_.F n)
 h78:ct_.d.Ok E (ct_.F n)
 h79:cx_.d.Ok E (cx_.F n)
 h80:al_.d.Ok E (al_.F n)
 h81:bW_.d.Ok E (bW_.F n)
 h82:aq_.d.Ok E (aq_.F n)
 h83:cW_.d.Ok E (cW_.F n)
 h84:strings_Split.d.Ok E (strings_Split.F n)
 h85:strings_ReplaceAll.d.Ok E (strings_ReplaceAll.F n)
 h86:a6_.d.Ok E (a6_.F n)
 h87:ba_.d.Ok E (ba_.F n)
 h88:cf_.d.Ok E (cf_.F n)
 h89:cG_.d.Ok E (cG_.F n)
 h90:bH_.d.Ok E (bH_.F n)
 h91:cK_.d.Ok E (cK_.F n)
 h92:cM_.d.Ok E (cM_.F n)
 h93:am_.d.Ok E (am_.F n)
 h94:ab_.d.Ok E (ab_.F n)
 h95:cC_.d.Ok E (cC_.F n)
 h96:cl_.d.Ok E (cl_.F n)
 h97:cH_.d.Ok E (cH_.F n)
 h98:bo_.d.Ok E (bo_.F n)
 h99:cg_.d.Ok E (cg_.F n)
 h100:bX_.d.Ok E (bX_.F n)
 h101:a2_.d.Ok E (a2_.F n)
 h102:b2_.d.Ok E (b2_.F n)
 h103:cs_.d.Ok E (cs_.F n)
 h104:cL_.d.Ok E (cL_.F n)
 h105:b3_.d.Ok E (b3_.F n)
 h106:bP_.d.Ok E (bP_.F n)
 h107:bt_.d.Ok E (bt_.F n)
 h108:bU_.d.Ok E (bU_.F n)
 h109:c1_.d.Ok E (c1_.F n)
 h110:bz_.d.Ok E (bz_.F n)
 h111:bL_.d.Ok E (bL_.F n)
 h112:bg_.d.Ok E (bg_.F n)
 h113:ad_.d.Ok E (ad_.F n)
 h114:bv_.d.Ok E (bv_.F n)
 h115:bA_.d.Ok E (bA_.F n)
 h116:cr_.d.Ok E (cr_.F n)
 h117:cA_.d.Ok E (cA_.F n)
 h118:cq_.d.Ok E (cq_.F n)
 h119:bK_.d.Ok E (bK_.F n)
 h120:bw_.d.Ok E (bw_.F n)
 h121:ca_.d.Ok E (ca_.F n)
 h122:bY_.d.Ok E (bY_.F n)
 h123:c3_.d.Ok E (c3_.F n)
 h124:aZ_.d.Ok E (aZ_.F n)
 h125:bV_.d.Ok E (bV_.F n)
 h126:aR_.d.Ok E (aR_.F n)
 h127:cb_.d.Ok E (cb_.F n)
 h128:a8_.d.Ok E (a8_.F n)
 h129:aQ_.d.Ok E (aQ_.F n)
 h130:b6_.d.Ok E (b6_.F n)
 h131:b9_.d.Ok E (b9_.F n)
 h132:b8_.d.Ok E (b8_.F n)
 h133:aK_.d.Ok E (aK_.F n)
 h134:au_.d.Ok E (au_.F n)
 h135:ax_.d.Ok E (ax_.F n)
 h136:cj_.d.Ok E (cj_.F n)
 h137:bT_.d.Ok E (bT_.F n)
 h138:av_.d.Ok E (av_.F n)
 h139:ay_.d.Ok E (ay_.F n)
 h140:ck_.d.Ok E (ck_.F n)
 h141:bO_.d.Ok E (bO_.F n)
 h142:laws_FnExactClientOf.d.Ok E (laws_FnExactClientOf.F n)
theorem kok (n nt:Nat) (a:AllOk n):KOk E (cx n nt):=KH_ok (l:=KL n) ⟨FD.kf (d:=laws_FnExactClientOf.d) Tryz.func8 (by kernel_rfl) (by kernel_rfl) (by kernel_rfl) a.h142,FD.kf (d:=ac_.d) Tryz.func9 (by kernel_rfl) (by kernel_rfl) (by kernel_rfl) a.h35,FD.kf (d:=bP_.d) Tryz.func10 (by kernel_rfl) (by kernel_rfl) (by kernel_rfl) a.h106,FD.kf (d:=bS_.d) Tryz.func16 (by kernel_rfl) (by kernel_rfl) (by kernel_rfl) a.h46,FD.kf (d:=bV_.d) Tryz.func19 (by kernel_rfl) (by kernel_rfl) (by kernel_rfl) a.h125,FD.kf (d:=b9_.d) Tryz.func20 (by kernel_rfl) (by kernel_rfl) (by kernel_rfl) a.h131,FD.kf (d:=bT_.d) Tryz.func21 (by kernel_rfl) (by kernel_rfl) (by kernel_rfl) a.h137,FD.kf (d:=bO_.d) Tryz.func22 (by kernel_rfl) (by kernel_rfl) (by kernel_rfl) a.h141,FD.kf (d:=aP_.d) Tryz.func24 (by kernel_rfl) (by kernel_rfl) (by kernel_rfl) a.h47,FD.kf (d:=aR_.d) Tryz.func26 (by kernel_rfl) (by kernel_rfl) (by kernel_rfl) a.h126,FD.kf (d:=by_.d) Tryz.func30 (by kernel_rfl) (by kernel_rfl) (by kernel_rfl) a.h36,FD.kf (d:=bt_.d) Tryz.func32 (by kernel_rfl) (by kernel_rfl) (by kernel_rfl) a.h107,FD.kf (d:=b8_.d) Tryz.func33 (by kernel_rfl) (by kernel_rfl) (by kernel_rfl) a.h132,FD.kf (d:=aQ_.d) Tryz.func39 (by kernel_rfl) (by kernel_rfl) (by kernel_rfl) a.h129,FD.kf (d:=au_.d) Tryz.func40 (by kernel_rfl) (by kernel_rfl) (by kernel_rfl) a.h134,FD.kf (d:=ci_.d) Tryz.func41 (by kernel_rfl) (by kernel_rfl) (by kernel_rfl) a.h48,FD.kf (d:=cb_.d) Tryz.func42 (by kernel_rfl) (by kernel_rfl) (by kernel_rfl) a.h127,FD.kf (d:=aY_.d) Tryz.func43 (by kernel_rfl) (by kernel_rfl) (by kernel_rfl) a.h1,FD.kf (d:=bJ_.d) Tryz.func44 (by kernel_rfl) (by kernel_rfl) (by kernel_rfl) a.h2,FD.kf (d:=cw_.d) Tryz.func45 (by kernel_rfl) (by kernel_rfl) (by kernel_rfl) a.h6,FD.kf (d:=cE_.d) Tryz.func46 (by kernel_rfl) (by kernel_rfl) (by kernel_rfl) a.h19,FD.kf (d:=aO_.d) Tryz.func47 (by kernel_rfl) (by kernel_rfl) (by kernel_rfl) a.h31,FD.kf (d:=b1_.d) Tryz.func48 (by kernel_rfl) (by kernel_rfl) (by kernel_rfl) a.h34,FD.kf (d:=cg_.d) Tryz.func49 (by kernel_rfl) (by kernel_rfl) (by kernel_rfl) a.h99,FD.kf (d:=b3_.d) Tryz.func50 (by kernel_rfl) (by kernel_rfl) (by kernel_rfl) a.h105,FD.kf (d:=b6_.d) Tryz.func51 (by kernel_rfl) (by kernel_rfl) (by kernel_rfl) a.h130,FD.kf (d:=cj_.d) Tryz.func53 (by kernel_rfl) (by kernel_rfl) (by kernel_rfl) a.h136,FD.kf (d:=ck_.d) Tryz.func55 (by kernel_rfl) (by kernel_rfl) (by kernel_rfl) a.h140,FD.kf (d:=cz_.d) Tryz.func59 (by kernel_rfl) (by kernel_rfl) (by kernel_rfl) a.h37,FD.kf (d:=cp_.d) Tryz.func60 (by kernel_rfl) (by kernel_rfl) (by kernel_rfl) a.h33,FD.kf (d:=aH_.d) Tryz.func61 (by kernel_rfl) (by kernel_rfl) (by kernel_rfl) a.h21,FD.kf (d:=a0_.d) Tryz.func62 (by kernel_rfl) (by kernel_rfl) (by kernel_rfl) a.h45,FD.kf (d:=bU_.d) Tryz.func65 (by kernel_rfl) (by kernel_rfl) (by kernel_rfl) a.h108,FD.kf (d:=cs_.d) Tryz.func66 (by kernel_rfl) (by kernel_rfl) (by kernel_rfl) a.h103,FD.kf (d:=aq_.d) Tryz.func67 (by kernel_rfl) (by kernel_rfl) (by kernel_rfl) a.h82,FD.kf (d:=aZ_.d) Tryz.func68 (by kernel_rfl) (by kernel_rfl) (by kernel_rfl) a.h124,FD.kf (d:=aK_.d) Tryz.func69 (by kernel_rfl) (by kernel_rfl) (by kernel_rfl) a.h133,FD.kf (d:=ax_.d) Tryz.func70 (by kernel_rfl) (by kernel_rfl) (by kernel_rfl) a.h135,FD.kf (d:=bd_.d) Tryz.func71 (by kernel_rfl) (by kernel_rfl) (by kernel_rfl) a.h0,FD.kf (d:=strings_Index.d) Tryz.func72 (by kernel_rfl) (by kernel_rfl) (by kernel_rfl) a.h49,FD.kf (d:=ay_.d) Tryz.func73 (by kernel_rfl) (by kernel_rfl) (by kernel_rfl) a.h139,FD.kf (d:=av_.d) Tryz.func74 (by kernel_rfl) (by kernel_rfl) (by kernel_rfl) a.h138,FD.kf (d:=az_.d) Tryz.func75 (by kernel_rfl) (by kernel_rfl) (by kernel_rfl) a.h4,FD.kf (d:=aJ_.d) Tryz.func76 (by kernel_rfl) (by kernel_rfl) (by kernel_rfl) a.h5,FD.kf (d:=bn_.d) Tryz.func77 (by kernel_rfl) (by kernel_rfl) (by kernel_rfl) a.h10,FD.kf (d:=cn_.d) Tryz.func78 (by kernel_rfl) (by kernel_rfl) (by kernel_rfl) a.h18,FD.kf (d:=cP_.d) Tryz.func79 (by kernel_rfl) (by kernel_rfl) (by kernel_rfl) a.h22,FD.kf (d:=ce_.d) Tryz.func80 (by kernel_rfl) (by kernel_rfl) (by kernel_rfl) a.h23,FD.kf (d:=aT_.d) Tryz.func81 (by kernel_rfl) (by kernel_rfl) (by kernel_rfl) a.h24,FD.kf (d:=ch_.d) Tryz.func82 (by kernel_rfl) (by kernel_rfl) (by kernel_rfl) a.h30,FD.kf (d:=cJ_.d) Tryz.func83 (by kernel_rfl) (by kernel_rfl) (by kernel_rfl) a.h29,FD.kf (d:=be_.d) Tryz.func84 (by kernel_rfl) (by kernel_rfl) (by kernel_rfl) a.h32,FD.kf (d:=bx_.d) Tryz.func85 (by kernel_rfl) (by kernel_rfl) (by kernel_rfl) a.h52,FD.kf (d:=cB_.d) Tryz.func86 (by kernel_rfl) (by kernel_rfl) (by kernel_rfl) a.h58,FD.kf (d:=b4_.d) Tryz.func87 (by kernel_rfl) (by kernel_rfl) (by kernel_rfl) a.h59,FD.kf (d:=cx_.d) Tryz.func88 (by kernel_rfl) (by kernel_rfl) (by kernel_rfl) a.h79,FD.kf (d:=bs_.d) Tryz.func89 (by kernel_rfl) (by kernel_rfl) (by kernel_rfl) a.h57,FD.kf (d:=bo_.d) Tryz.func90 (by kernel_rfl) (by kernel_rfl) (by kernel_rfl) a.h98,FD.kf (d:=cL_.d) Tryz.func91 (by kernel_rfl) (by kernel_rfl) (by kernel_rfl) a.h104,FD.kf (d:=ct_.d) Tryz.func92 (by kernel_rfl) (by kernel_rfl) (by kernel_rfl) a.h78,FD.kf (d:=a2_.d) Tryz.func93 (by kernel_rfl) (by kernel_rfl) (by kernel_rfl) a.h101,FD.kf (d:=a8_.d) Tryz.func94 (by kernel_rfl) (by kernel_rfl) (by kernel_rfl) a.h128,FD.kf (d:=cT_.d) Tryz.func98 (by kernel_rfl) (by kernel_rfl) (by kernel_rfl) a.h13,FD.kf (d:=aj_.d) Tryz.func99 (by kernel_rfl) (by kernel_rfl) (by kernel_rfl) a.h25,FD.kf (d:=bZ_.d) Tryz.func100 (by kernel_rfl) (by kernel_rfl) (by kernel_rfl) a.h15,FD.kf (d:=c0_.d) Tryz.func101 (by kernel_rfl) (by kernel_rfl) (by kernel_rfl) a.h44,FD.kf (d:=bX_.d) Tryz.func104 (by kernel_rfl) (by kernel_rfl) (by kernel_rfl) a.h100,FD.kf (d:=aS_.d) Tryz.func105 (by kernel_rfl) (by kernel_rfl) (by kernel_rfl) a.h65,FD.kf (d:=cG_.d) Tryz.func106 (by kernel_rfl) (by kernel_rfl) (by kernel_rfl) a.h89,FD.kf (d:=b2_.d) Tryz.func107 (by kernel_rfl) (by kernel_rfl) (by kernel_rfl) a.h102,FD.kf (d:=bW_.d) Tryz.func108 (by kernel_rfl) (by kernel_rfl) (by kernel_rfl) a.h81,FD.kf (d:=b0_.d) Tryz.func109 (by kernel_rfl) (by kernel_rfl) (by kernel_rfl) a.h73,FD.kf (d:=c3_.d) Tryz.func110 (by kernel_rfl) (by kernel_rfl) (by kernel_rfl) a.h123,FD.kf (d:=bb_.d) Tryz.func111 (by kernel_rfl) (by kernel_rfl) (by kernel_rfl) a.h53,FD.kf (d:=b5_.d) Tryz.func112 (by kernel_rfl) (by kernel_rfl) (by kernel_rfl) a.h3,FD.kf (d:=bB_.d) Tryz.func113 (by kernel_rfl) (by kernel_rfl) (by kernel_rfl) a.h7,FD.kf (d:=aA_.d) Tryz.func114 (by kernel_rfl) (by kernel_rfl) (by kernel_rfl) a.h8,FD.kf (d:=aU_.d) Tryz.func115 (by kernel_rfl) (by kernel_rfl) (by kernel_rfl) a.h9,FD.kf (d:=aD_.d) Tryz.func116 (by kernel_rfl) (by kernel_rfl) (by kernel_rfl) a.h17,FD.kf (d:=bI_.d) Tryz.func117 (by kernel_rfl) (by kernel_rfl) (by kernel_rfl) a.h20,FD.kf (d:=bG_.d) Tryz.func118 (by kernel_rfl) (by kernel_rfl) (by kernel_rfl) a.h26,FD.kf (d:=ar_.d) Tryz.func119 (by kernel_rfl) (by kernel_rfl) (by kernel_rfl) a.h27,FD.kf (d:=bq_.d) Tryz.func120 (by kernel_rfl) (by kernel_rfl) (by kernel_rfl) a.h28,FD.kf (d:=aF_.d) Tryz.func121 (by kernel_rfl) (by kernel_rfl) (by kernel_rfl) a.h51,FD.kf (d:=cR_.d) Tryz.func122 (by kernel_rfl) (by kernel_rfl) (by kernel_rfl) a.h55,FD.kf (d:=aN_.d) Tryz.func125 (by kernel_rfl) (by kernel_rfl) (by kernel_rfl) a.h67,FD.kf (d:=aB_.d) Tryz.func126 (by kernel_rfl) (by kernel_rfl) (by kernel_rfl) a.h56,FD.kf (d:=cH_.d) Tryz.func127 (by kernel_rfl) (by kernel_rfl) (by kernel_rfl) a.h97,FD.kf (d:=strconv_Itoa.d) Tryz.func128 (by kernel_rfl) (by kernel_rfl) (by kernel_rfl) a.h75,FD.kf (d:=aX_.d) Tryz.func129 (by kernel_rfl) (by kernel_rfl) (by kernel_rfl) a.h77,FD.kf (d:=cM_.d) Tryz.func130 (by kernel_rfl) (by kernel_rfl) (by kernel_rfl) a.h92,FD.kf (d:=aG_.d) Tryz.func131 (by kernel_rfl) (by kernel_rfl) (by kernel_rfl) a.h14,FD.kf (d:=cd_.d) Tryz.func132 (by kernel_rfl) (by kernel_rfl) (by kernel_rfl) a.h43,FD.kf (d:=a7_.d) Tryz.func133 (by kernel_rfl) (by kernel_rfl) (by kernel_rfl) a.h72,FD.kf (d:=bH_.d) Tryz.func134 (by kernel_rfl) (by kernel_rfl) (by kernel_rfl) a.h90,FD.kf (d:=bY_.d) Tryz.func135 (by kernel_rfl) (by kernel_rfl) (by kernel_rfl) a.h122,FD.kf (d:=a4_.d) Tryz.func140 (by kernel_rfl) (by kernel_rfl) (by kernel_rfl) a.h16,FD.kf (d:=bf_.d) Tryz.func141 (by kernel_rfl) (by kernel_rfl) (by kernel_rfl) a.h11,FD.kf (d:=aw_.d) Tryz.func142 (by kernel_rfl) (by kernel_rfl) (by kernel_rfl) a.h50,FD.kf (d:=a3_.d) Tryz.func143 (by kernel_rfl) (by kernel_rfl) (by kernel_rfl) a.h54,FD.kf (d:=a9_.d) Tryz.func149 (by kernel_rfl) (by kernel_rfl) (by kernel_rfl) a.h60,FD.kf (d:=bF_.d) Tryz.func150 (by kernel_rfl) (by kernel_rfl) (by kernel_rfl) a.h61,FD.kf (d:=ak_.d) Tryz.func151 (by kernel_rfl) (by kernel_rfl) (by kernel_rfl) a.h63,FD.kf (d:=ag_.d) Tryz.func152 (by kernel_rfl) (by kernel_rfl) (by kernel_rfl) a.h64,FD.kf (d:=ah_.d) Tryz.func153 (by kernel_rfl) (by kernel_rfl) (by kernel_rfl) a.h66,FD.kf (d:=cW_.d) Tryz.func154 (by kernel_rfl) (by kernel_rfl) (by kernel_rfl) a.h83,FD.kf (d:=ba_.d) Tryz.func155 (by kernel_rfl) (by kernel_rfl) (by kernel_rfl) a.h87,FD.kf (d:=al_.d) Tryz.func156 (by kernel_rfl) (by kernel_rfl) (by kernel_rfl) a.h80,FD.kf (d:=cf_.d) Tryz.func157 (by kernel_rfl) (by kernel_rfl) (by kernel_rfl) a.h88,FD.kf (d:=cl_.d) Tryz.func158 (by kernel_rfl) (by kernel_rfl) (by kernel_rfl) a.h96,FD.kf (d:=bi_.d) Tryz.func160 (by kernel_rfl) (by kernel_rfl) (by kernel_rfl) a.h74,FD.kf (d:=strings_Join.d) Tryz.func161 (by kernel_rfl) (by kernel_rfl) (by kernel_rfl) a.h76,FD.kf (d:=a6_.d) Tryz.func162 (by kernel_rfl) (by kernel_rfl) (by kernel_rfl) a.h86,FD.kf (d:=cK_.d) Tryz.func163 (by kernel_rfl) (by kernel_rfl) (by kernel_rfl) a.h91,FD.kf (d:=af_.d) Tryz.func164 (by kernel_rfl) (by kernel_rfl) (by kernel_rfl) a.h12,FD.kf (d:=cy_.d) Tryz.func165 (by kernel_rfl) (by kernel_rfl) (by kernel_rfl) a.h38,FD.kf (d:=bD_.d) Tryz.func166 (by kernel_rfl) (by kernel_rfl) (by kernel_rfl) a.h42,FD.kf (d:=dd_.d) Tryz.func167 (by kernel_rfl) (by kernel_rfl) (by kernel_rfl) a.h40,FD.kf (d:=c2_.d) Tryz.func168 (by kernel_rfl) (by kernel_rfl) (by kernel_rfl) a.h71,FD.kf (d:=as_.d) Tryz.func169 (by kernel_rfl) (by kernel_rfl) (by kernel_rfl) a.h69,FD.kf (d:=c1_.d) Tryz.func170 (by kernel_rfl) (by kernel_rfl) (by kernel_rfl) a.h109,FD.kf (d:=cA_.d) Tryz.func171 (by kernel_rfl) (by kernel_rfl) (by kernel_rfl) a.h117,FD.kf (d:=cq_.d) Tryz.func172 (by kernel_rfl) (by kernel_rfl) (by kernel_rfl) a.h118,FD.kf (d:=ca_.d) Tryz.func173 (by kernel_rfl) (by kernel_rfl) (by kernel_rfl) a.h121,FD.kf (d:=bp_.d) Tryz.func179 (by kernel_rfl) (by kernel_rfl) (by kernel_rfl) a.h62,FD.kf (d:=strings_Split.d) Tryz.func180 (by kernel_rfl) (by kernel_rfl) (by kernel_rfl) a.h84,FD.kf (d:=strings_ReplaceAll.d) Tryz.func181 (by kernel_rfl) (by kernel_rfl) (by kernel_rfl) a.h85,FD.kf (d:=cC_.d) Tryz.func182 (by kernel_rfl) (by kernel_rfl) (by kernel_rfl) a.h95,FD.kf (d:=cZ_.d) Tryz.func187 (by kernel_rfl) (by kernel_rfl) (by kernel_rfl) a.h41,FD.kf (d:=a5_.d) Tryz.func188 (by kernel_rfl) (by kernel_rfl) (by kernel_rfl) a.h39,FD.kf (d:=bk_.d) Tryz.func189 (by kernel_rfl) (by kernel_rfl) (by kernel_rfl) a.h68,FD.kf (d:=ap_.d) Tryz.func190 (by kernel_rfl) (by kernel_rfl) (by kernel_rfl) a.h70,FD.kf (d:=ad_.d) Tryz.func191 (by kernel_rfl) (by kernel_rfl) (by kernel_rfl) a.h113,FD.kf (d:=bv_.d) Tryz.func192 (by kernel_rfl) (by kernel_rfl) (by kernel_rfl) a.h114,FD.kf (d:=bA_.d) Tryz.func193 (by kernel_rfl) (by kernel_rfl) (by kernel_rfl) a.h115,FD.kf (d:=cr_.d) Tryz.func194 (by kernel_rfl) (by kernel_rfl) (by kernel_rfl) a.h116,FD.kf (d:=bK_.d) Tryz.func195 (by kernel_rfl) (by kernel_rfl) (by kernel_rfl) a.h119,FD.kf (d:=bw_.d) Tryz.func196 (by kernel_rfl) (by kernel_rfl) (by kernel_rfl) a.h120,FD.kf (d:=am_.d) Tryz.func201 (by kernel_rfl) (by kernel_rfl) (by kernel_rfl) a.h93,FD.kf (d:=ab_.d) Tryz.func202 (by kernel_rfl) (by kernel_rfl) (by kernel_rfl) a.h94,FD.kf (d:=bL_.d) Tryz.func209 (by kernel_rfl) (by kernel_rfl) (by kernel_rfl) a.h111,FD.kf (d:=bg_.d) Tryz.func210 (by kernel_rfl) (by kernel_rfl) (by kernel_rfl) a.h112,FD.kf (d:=bz_.d) Tryz.func225 (by kernel_rfl) (by kernel_rfl) (by kernel_rfl) a.h110,trivial⟩
theorem de_ (n nt:Nat) (a:AllOk n):CxOk E (cx n nt):=⟨ttOk,tcOk,u8Ok,kok n nt a⟩
theorem bN_:∀ n,AllOk n
 |0=>⟨fun _ _ h=>(by cases h),fun _ _ h=>(by cases h),fun _ _ h=>(by cases h),fun _ _ h=>(by cases h),fun _ _ h=>(by cases h),fun _ _ h=>(by cases h),fun _ _ h=>(by cases h),fun _ _ h=>(by cases h),fun _ _ h=>(by cases h),fun _ _ h=>(by cases h),fun _ _ h=>(by cases h),fun _ _ h=>(by cases h),fun _ _ h=>(by cases h),fun _ _ h=>(by cases h),fun _ _ h=>(by cases h),fun _ _ h=>(by cases h),fun _ _ h=>(by cases h),fun _ _ h=>(by cases h),fun _ _ h=>(by cases h),fun _ _ h=>(by cases h),fun _ _ h=>(by cases h),fun _ _ h=>(by cases h),fun _ _ h=>(by cases h),fun _ _ h=>(by cases h),fun _ _ h=>(by cases h),fun _ _ h=>(by cases h),fun _ _ h=>(by cases h),fun _ _ h=>(by cases h),fun _ _ h=>(by cases h),fun _ _ h=>(by cases h),fun _ _ h=>(by cases h),fun _ _ h=>(by cases h),fun _ _ h=>(by cases h),fun _ _ h=>(by cases h),fun _ _ h=>(by cases h),fun _ _ h=>(by cases h),fun _ _ h=>(by cases h),fun _ _ h=>(by cases h),fun _ _ h=>(by cases h),fun _ _ h=>(by cases h),fun _ _ h=>(by cases h),fun _ _ h=>(by cases h),fun _ _ h=>(by cases h),fun _ _ h=>(by cases h),fun _ _ h=>(by cases h),fun _ _ h=>(by cases h),fun _ _ h=>(by cases h),fun _ _ h=>(by cases h),fun _ _ h=>(by cases h),fun _ _ h=>(by cases h),fun _ _ h=>(by cases h),fun _ _ h=>(by cases h),fun _ _ h=>(by cases h),fun _ _ h=>(by cases h),fun _ _ h=>(by cases h),fun _ _ h=>(by cases h),fun _ _ h=>(by cases h),fun _ _ h=>(by cases h),fun _ _ h=>(by cases h),fun _ _ h=>(by cases h),fun _ _ h=>(by cases h),fun _ _ h=>(by cases h),fun _ _ h=>(by cases h),fun _ _ h=>(by cases h),fun _ _ h=>(by cases h),fun _ _ h=>(by cases h),fun _ _ h=>(by cases h),fun _ _ h=>(by cases h),fun _ _ h=>(by cases h),fun _ _ h=>(by cases h),fun _ _ h=>(by cases h),fun _ _ h=>(by cases h),fun _ _ h=>(by cases h),fun _ _ h=>(by cases h),fun _ _ h=>(by cases h),fun _ _ h=>(by cases h),fun _ _ h=>(by cases h),fun _ _ h=>(by cases h),fun _ _ h=>(by cases h),fun _ _ h=>(by cases h),fun _ _ h=>(by cases h),fun _ _ h=>(by cases h),fun _ _ h=>(by cases h),fun _ _ h=>(by cases h),fun _ _ h=>(by cases h),fun _ _ h=>(by cases h),fun _ _ h=>(by cases h),fun _ _ h=>(by cases h),fun _ _ h=>(by cases h),fun _ _ h=>(by cases h),fun _ _ h=>(by cases h),fun _ _ h=>(by cases h),fun _ _ h=>(by cases h),fun _ _ h=>(by cases h),fun _ _ h=>(by cases h),fun _ _ h=>(by cases h),fun _ _ h=>(by cases h),fun _ _ h=>(by cases h),fun _ _ h=>(by cases h),fun _ _ h=>(by cases h),fun _ _ h=>(by cases h),fun _ _ h=>(by cases h),fun _ _ h=>(by cases h),fun _ _ h=>(by cases h),fun _ _ h=>(by cases h),fun _ _ h=>(by cases h),fun _ _ h=>(by cases h),fun _ _ h=>(by cases h),fun _ _ h=>(by cases h),fun _ _ h=>(by cases h),fun _ _ h=>(by cases h),fun _ _ h=>(by cases h),fun _ _ h=>(by cases h),fun _ _ h=>(by cases h),fun _ _ h=>(by cases h),fun _ _ h=>(by cases h),fun _ _ h=>(by cases h),fun _ _ h=>(by cases h),fun _ _ h=>(by cases h),fun _ _ h=>(by cases h),fun _ _ h=>(by cases h),fun _ _ h=>(by cases h),fun _ _ h=>(by cases h),fun _ _ h=>(by cases h),fun _ _ h=>(by cases h),fun _ _ h=>(by cases h),fun _ _ h=>(by cases h),fun _ _ h=>(by cases h),fun _ _ h=>(by cases h),fun _ _ h=>(by cases h),fun _ _ h=>(by cases h),fun _ _ h=>(by cases h),fun _ _ h=>(by cases h),fun _ _ h=>(by cases h),fun _ _ h=>(by cases h),fun _ _ h=>(by cases h),fun _ _ h=>(by cases h),fun _ _ h=>(by cases h),fun _ _ h=>(by cases h),fun _ _ h=>(by cases h),fun _ _ h=>(by cases h),fun _ _ h=>(by cases h),fun _ _ h=>(by cases h)⟩
 |n+1=>⟨bd_.ok n (de_ n _ (bN_ n)) (kpar n _),aY_.ok n (de_ n _ (bN_ n)) (kpar n _),bJ_.ok n (de_ n _ (bN_ n)) (kpar n _),b5_.ok n (de_ n _ (bN_ n)) (kpar n _),az_.ok n (de_ n _ (bN_ n)) (kpar n _),aJ_.ok n (de_ n _ (bN_ n)) (kpar n _),cw_.ok n (de_ n _ (bN_ n)) (kpar n _),bB_.ok n (de_ n _ (bN_ n)) (kpar n _),aA_.ok n (de_ n _ (bN_ n)) (kpar n _),aU_.ok n (de_ n _ (bN_ n)) (kpar n _),bn_.ok n (de_ n _ (bN_ n)) (kpar n _),bf_.ok n (de_ n _ (bN_ n)) (kpar n _),af_.ok n (de_ n _ (bN_ n)) (kpar n _),cT_.ok n (de_ n _ (bN_ n)) (kpar n _),aG_.ok n (de_ n _ (bN_ n)) (kpar n _),bZ_.ok n (de_ n _ (bN_ n)) (kpar n _),a4_.ok n (de_ n _ (bN_ n)) (kpar n _),aD_.ok n (de_ n _ (bN_ n)) (kpar n _),cn_.ok n (de_ n _ (bN_ n)) (kpar n _),cE_.ok n (de_ n _ (bN_ n)) (kpar n _),bI_.ok n (de_ n _ (bN_ n)) (kpar n _),aH_.ok n (de_ n _ (bN_ n)) (kpar n _),cP_.ok n (de_ n _ (bN_ n)) (kpar n _),ce_.ok n (de_ n _ (bN_ n)) (kpar n _),aT_.ok n (de_ n _ (bN_ n)) (kpar n _),aj_.ok n (de_ n _ (bN_ n)) (kpar n _),bG_.ok n (de_ n _ (bN_ n)) (kpar n _),ar_.ok n (de_ n _ (bN_ n)) (kpar n _),bq_.ok n (de_ n _ (bN_ n)) (kpar n _),cJ_.ok n (de_ n _ (bN_ n)) (kpar n _),ch_.ok n (de_ n _ (bN_ n)) (kpar n _),aO_.ok n (de_ n _ (bN_ n)) (kpar n _),be_.ok n (de_ n _ (bN_ n)) (kpar n _),cp_.ok n (de_ n _ (bN_ n)) (kpar n _),b1_.ok n (de_ n _ (bN_ n)) (kpar n _),ac_.ok n (de_ n _ (bN_ n)) (kpar n _),by_.ok n (de_ n _ (bN_ n)) (kpar n _),cz_.ok n (de_ n _ (bN_ n)) (kpar n _),cy_.ok n (de_ n _ (bN_ n)) (kpar n _),a5_.ok n (de_ n _ (bN_ n)) (kpar n _),dd_.ok n (de_ n _ (bN_ n)) (kpar n _),cZ_.ok n (de_ n _ (bN_ n)) (kpar n _),bD_.ok n (de_ n _ (bN_ n)) (kpar n _),cd_.ok n (de_ n _ (bN_ n)) (kpar n _),c0_.ok n (de_ n _ (bN_ n)) (kpar n _),a0_.ok n (de_ n _ (bN_ n)) (kpar n _),bS_.ok n (de_ n _ (bN_ n)) (kpar n _),aP_.ok n (de_ n _ (bN_ n)) (kpar n _),ci_.ok n (de_ n _ (bN_ n)) (kpar n _),strings_Index.ok n (de_ n _ (bN_ n)) (kpar n _),aw_.ok n (de_ n _ (bN_ n)) (kpar n _),aF_.ok n (de_ n _ (bN_ n)) (kpar n _),bx_.ok n (de_ n _ (bN_ n)) (kpar n _),bb_.ok n (de_ n _ (bN_ n)) (kpar n _),a3_.ok n (de_ n _ (bN_ n)) (kpar n _),cR_.ok n (de_ n _ (bN_ n)) (kpar n _),aB_.ok n (de_ n _ (bN_ n)) (kpar n _),bs_.ok n (de_ n _ (bN_ n)) (kpar n _),cB_.ok n (de_ n _ (bN_ n)) (kpar n _),b4_.ok n (de_ n _ (bN_ n)) (kpar n _),a9_.ok n (de_ n _ (bN_ n)) (kpar n _),bF_.ok n (de_ n _ (bN_ n)) (kpar n _),bp_.ok n (de_ n _ (bN_ n)) (kpar n _),ak_.ok n (de_ n _ (bN_ n)) (kpar n _),ag_.ok n (de_ n _ (bN_ n)) (kpar n _),aS_.ok n (de_ n _ (bN_ n)) (kpar n _),ah_.ok n (de_ n _ (bN_ n)) (kpar n _),aN_.ok n (de_ n _ (bN_ n)) (kpar n _),bk_.ok n (de_ n _ (bN_ n)) (kpar n _),as_.ok n (de_ n _ (bN_ n)) (kpar n _),ap_.ok n (de_ n _ (bN_ n)) (kpar n _),c2_.ok n (de_ n _ (bN_ n)) (kpar n _),a7_.ok n (de_ n _ (bN_ n)) (kpar n _),b0_.ok n (de_ n _ (bN_ n)) (kpar n _),bi_.ok n (de_ n _ (bN_ n)) (kpar n _),strconv_Itoa.ok n (de_ n _ (bN_ n)) (kpar n _),strings_Join.ok n (de_ n _ (bN_ n)) (kpar n _),aX_.ok n (de_ n _ (bN_ n)) (kpar n _),ct_.ok n (de_ n _ (bN_ n)) (kpar n _),cx_.ok n (de_ n _ (bN_ n)) (kpar n _),al_.ok n (de_ n _ (bN_ n)) (kpar n _),bW_.ok n (de_ n _ (bN_ n)) (kpar n _),aq_.ok n (de_ n _ (bN_ n)) (kpar n _),cW_.ok n (de_ n _ (bN_ n)) (kpar n _),strings_Split.ok n (de_ n _ (bN_ n)) (kpar n _),strings_ReplaceAll.ok n (de_ n _ (bN_ n)) (kpar n _),a6_.ok n (de_ n _ (bN_ n)) (kpar n _),ba_.ok n (de_ n _ (bN_ n)) (kpar n _),cf_.ok n (de_ n _ (bN_ n)) (kpar n _),cG_.ok n (de_ n _ (bN_ n)) (kpar n _),bH_.ok n (de_ n _ (bN_ n)) (kpar n _),cK_.ok n (de_ n _ (bN_ n)) (kpar n _),cM_.ok n (de_ n _ (bN_ n)) (kpar n _),am_.ok n (de_ n _ (bN_ n)) (kpar n _),ab_.ok n (de_ n _ (bN_ n)) (kpar n _),cC_.ok n (de_ n _ (bN_ n)) (kpar n _),cl_.ok n (de_ n _ (bN_ n)) (kpar n _),cH_.ok n (de_ n _ (bN_ n)) (kpar n _),bo_.ok n (de_ n _ (bN_ n)) (kpar n _),cg_.ok n (de_ n _ (bN_ n)) (kpar n _),bX_.ok n (de_ n _ (bN_ n)) (kpar n _),a2_.ok n (de_ n _ (bN_ n)) (kpar n _),b2_.ok n (de_ n _ (bN_ n)) (kpar n _),cs_.ok n (de_ n _ (bN_ n)) (kpar n _),cL_.ok n (de_ n _ (bN_ n)) (kpar n _),b3_.ok n (de_ n _ (bN_ n)) (kpar n _),bP_.ok n (de_ n _ (bN_ n)) (kpar n _),bt_.ok n (de_ n _ (bN_ n)) (kpar n _),bU_.ok n (de_ n _ (bN_ n)) (kpar n _),c1_.ok n (de_ n _ (bN_ n)) (kpar n _),bz_.ok n (de_ n _ (bN_ n)) (kpar n _),bL_.ok n (de_ n _ (bN_ n)) (kpar n _),bg_.ok n (de_ n _ (bN_ n)) (kpar n _),ad_.ok n (de_ n _ (bN_ n)) (kpar n _),bv_.ok n (de_ n _ (bN_ n)) (kpar n _),bA_.ok n (de_ n _ (bN_ n)) (kpar n _),cr_.ok n (de_ n _ (bN_ n)) (kpar n _),cA_.ok n (de_ n _ (bN_ n)) (kpar n _),cq_.ok n (de_ n _ (bN_ n)) (kpar n _),bK_.ok n (de_ n _ (bN_ n)) (kpar n _),bw_.ok n (de_ n _ (bN_ n)) (kpar n _),ca_.ok n (de_ n _ (bN_ n)) (kpar n _),bY_.ok n (de_ n _ (bN_ n)) (kpar n _),c3_.ok n (de_ n _ (bN_ n)) (kpar n _),aZ_.ok n (de_ n _ (bN_ n)) (kpar n _),bV_.ok n (de_ n _ (bN_ n)) (kpar n _),aR_.ok n (de_ n _ (bN_ n)) (kpar n _),cb_.ok n (de_ n _ (bN_ n)) (kpar n _),a8_.ok n (de_ n _ (bN_ n)) (kpar n _),aQ_.ok n (de_ n _ (bN_ n)) (kpar n _),b6_.ok n (de_ n _ (bN_ n)) (kpar n _),b9_.ok n (de_ n _ (bN_ n)) (kpar n _),b8_.ok n (de_ n _ (bN_ n)) (kpar n _),aK_.ok n (de_ n _ (bN_ n)) (kpar n _),au_.ok n (de_ n _ (bN_ n)) (kpar n _),ax_.ok n (de_ n _ (bN_ n)) (kpar n _),cj_.ok n (de_ n _ (bN_ n)) (kpar n _),bT_.ok n (de_ n _ (bN_ n)) (kpar n _),av_.ok n (de_ n _ (bN_ n)) (kpar n _),ay_.ok n (de_ n _ (bN_ n)) (kpar n _),ck_.ok n (de_ n _ (bN_ n)) (kpar n _),bO_.ok n (de_ n _ (bN_ n)) (kpar n _),laws_FnExactClientOf.ok n (de_ n _ (bN_ n)) (kpar n _)⟩
end Go.Pi
end
section
namespace Go.Pi
inductive Kd where
 |i (k:IntKind)
 |b
 |s
 |sl (t:TC)
def kdsL (P:Program) (rec_:TypeId→Option (List Kd)):List Field→Nat→Option (List Kd)
 |[],_=>some []
 |f::fs,off=>cond (Nat.beq f.offset off) (match rec_ f.type with
  |some ks=>cond (Nat.beq (P.cellsOf f.type) ks.length) (match kdsL P rec_ fs (off+ks.length) with
   |some r=>some (ks++r)
   |none=>none) none
  |none=>none) none
def kds (P:Program) (i4_:TypeId→Option TC):Nat→TypeId→Option (List Kd)
 |0,_=>none
 |d+1,T=>match P.underlying T with
  |some (.int k)=>some [.i k]
  |some .bool=>some [.b]
  |some .string=>some [.s]
  |some (.slice e)=>match i4_ e with
   |some t=>some [.sl t]
   |none=>none
  |some (.struct fs)=>match kdsL P (kds P i4_ d) fs.toList 0 with
   |some ks=>cond (Nat.beq (P.cellsOf T) ks.length) (some ks) none
   |none=>none
  |_=>none
inductive Good [an_]:AV→Prop
 |i (k n):(Lit.int k n).wf=true→Good (.i k n)
 |b (q):Good (.b q)
 |s (l):l.length≤maxLen→Good (.s l)
 |sl (t xs):xs.length≤maxLen→(∀ x ∈ xs,∀ c ∈ an_.enc .v t x,Good c)→Good (.sl .v t xs)
def KindOk:Kd→AV→Prop
 |.i k,a=>∃ n,a = .i k n
 |.b,a=>∃ q,a = .b q
 |.s,a=>∃ l,a = .s l
 |.sl t,a=>∃ xs,a = .sl .v t xs
def i8_:List Kd→List AV→Prop
 |[],[]=>True
 |k::ks,a::l=>KindOk k a∧i8_ ks l
 |_,_=>False
section
variable {H:Type} {enc:TypeId × Value→H} {P:Program} {w:World} {spare:Nat→Bool}
def nj_ (enc:TypeId × Value→H) (P:Program) (w:World) (spare:Nat→Bool) (eid:TC→TypeId) (F:Nat):Kd→Value→Prop
 |.i k,v=>∃ n,v = .int k n∧(Lit.int k n).wf=true
 |.b,v=>∃ q,v = .bool q
 |.s,v=>∃ s:ByteArray,v = .string s∧s.size≤maxLen
 |.sl t,v=>v = .slice none 0 0∨∃ (a:Addr) (len cap N:Nat),v = .slice (some a) len cap∧len≤cap∧cap≤maxLen∧N<F ∧
   ∀ i,i<len→∃ cs x,w.cells? 0 (a.add (i*P.cellsOf (eid t))) (P.cellsOf (eid t))=some cs∧DataW.trod enc P w 0 spare true N (eid t) cs=some x
def ew_ (enc:TypeId × Value→H) (P:Program) (w:World) (spare:Nat→Bool) (eid:TC→TypeId) (F:Nat):List Kd→List Value→Prop
 |[],[]=>True
 |k::ks,v::vs=>nj_ enc P w spare eid F k v∧ew_ enc P w spare eid F ks vs
 |_,_=>False
theorem nj_.mono {eid:TC→TypeId} {F F':Nat} (hF:F≤F') {k:Kd} {v:Value} (h:nj_ enc P w spare eid F k v):nj_ enc P w spare eid F' k v:=by
 cases k with
 |sl t=>
  rcases h with h|⟨a,len,cap,N,h1,h2,h3,h4,h5⟩
  · exact .inl h
  · exact .inr ⟨a,len,cap,N,h1,h2,h3,Nat.lt_of_lt_of_le h4 hF,h5⟩
 |_=>exact h
theorem ew_.mono {eid:TC→TypeId} {F F':Nat} (hF:F≤F'):∀ {ks:List Kd} {vs:List Value},ew_ enc P w spare eid F ks vs→ew_ enc P w spare eid F' ks vs
 |[],[],_=>trivial
 |k::ks,v::vs,h=>⟨h.1.mono hF,ew_.mono hF h.2⟩
 |[],_::_,h=>h.elim
 |_::_,[],h=>h.elim
theorem ew_.append {eid:TC→TypeId} {F:Nat}:∀ {ks:List Kd} {vs:List Value} {ks':List Kd} {vs':List Value},ew_ enc P w spare eid F ks vs→ew_ enc P w spare eid F ks' vs'→ew_ enc P w spare eid F (ks++ks') (vs++vs')
 |[],[],_,_,_,h=>h
 |k::ks,v::vs,_,_,h,h'=>⟨h.1,ew_.append h.2 h'⟩
 |[],_::_,_,_,h,_=>h.elim
 |_::_,[],_,_,h,_=>h.elim
theorem k8_ {i4_:TypeId→Option TC} {eid:TC→TypeId} {n:Nat} {rec_:TypeId→Option (List Kd)} {cs:List Value} (hrec:∀ T ks cs x,rec_ T=some ks→DataW.trod enc P w 0 spare true n T cs=some x→ew_ enc P w spare eid n ks cs) :
  ∀ (fs:List Field) (off:Nat) (ks:List Kd),kdsL P rec_ fs off=some ks→(∀ f ∈ fs,∃ x,DataW.trod enc P w 0 spare true n f.type ((cs.drop f.offset).take (P.cellsOf f.type))=some x)→off+ks.length=cs.length→ew_ enc P w spare eid n ks (cs.drop off)
 |[],off,ks,h,_,hl=>by
  simp only [kdsL,Option.some.injEq] at h
  subst h
  rw [List.drop_eq_nil_of_le (by simp at hl;omega)]
  trivial
 |f::fs,off,ks,h,hx,hl=>by
  simp only [kdsL] at h
  obtain ⟨h1,h2⟩:=cv_ h
  have h1:=df_.1 h1
  cases hr:rec_ f.type with
  |none=>rw [hr] at h2;cases h2
  |some k1=>
   rw [hr] at h2
   obtain ⟨h3,h4⟩:=cv_ h2
   have h3:=df_.1 h3
   cases hk:kdsL P rec_ fs (off+k1.length) with
   |none=>rw [hk] at h4;cases h4
   |some r=>
    rw [hk] at h4
    simp only [Option.some.injEq] at h4
    subst h4
    obtain ⟨x,hx1⟩:=hx f (List.mem_cons_self ..)
    have h5:=hrec _ _ _ _ hr hx1
    have h6:=k8_ (i4_:=i4_) hrec fs (off+k1.length) r hk (fun g hg=>hx g (List.mem_cons_of_mem _ hg)) (by simp at hl;omega)
    rw [h1,h3] at h5
    have:cs.drop off=(cs.drop off).take k1.length++cs.drop (off+k1.length):=by rw [←List.drop_drop,List.take_append_drop]
    rw [this]
    exact h5.append h6
theorem ln_ {i4_:TypeId→Option TC} {eid:TC→TypeId} (hcode:∀ e t,i4_ e=some t→eid t=e):∀ (d F:Nat) (T:TypeId) (ks:List Kd) (cs:List Value) (x:DataW H × List MemPlace),kds P i4_ d T=some ks→DataW.trod enc P w 0 spare true F T cs=some x→ew_ enc P w spare eid F ks cs
 |0,F,T,ks,cs,x,hk,h=>by cases hk
 |d+1,F,T,ks,cs,x,hk,h=>by
  simp only [kds] at hk
  cases hu:P.underlying T with
  |none=>rw [hu] at hk;cases hk
  |some u=>
   rw [hu] at hk
   cases u<;>simp only at hk<;>(try (cases hk;done))
   case bool=>
    cases hk
    obtain ⟨q,rfl,_⟩:=DataW.trod_bool hu h
    exact ⟨⟨q,rfl⟩,trivial⟩
   case int k=>
    cases hk
    obtain ⟨n,rfl,_,hw⟩:=DataW.trod_int hu h
    exact ⟨⟨n,rfl,hw⟩,trivial⟩
   case string=>
    cases hk
    obtain ⟨s,rfl,_,hs⟩:=DataW.trod_string hu h
    exact ⟨⟨s,rfl,hs⟩,trivial⟩
   case slice e=>
    cases hc:i4_ e with
    |none=>rw [hc] at hk;cases hk
    |some t=>
     rw [hc] at hk
     cases hk
     have he:=hcode e t hc
     rcases DataW.trod_slice hu h with ⟨rfl,_⟩|⟨a,len,cap,elems,fX_,n,hF,rfl,_,_,hl,hm,hlen,hel,_,_⟩
     · exact ⟨.inl rfl,trivial⟩
     · refine ⟨.inr ⟨a,len,cap,n,rfl,hl,hm,by omega,fun i hi => ?_⟩,trivial⟩
       have h1:=hel i hi
       rw [List.getElem?_eq_getElem (by omega)] at h1
       rw [Option.bind_eq_some_iff] at h1
       obtain ⟨cs,k1,k2⟩:=h1
       exact ⟨cs,_,by rw [he];exact k1,by rw [he];exact k2⟩
   case struct fs=>
    obtain ⟨xs,n,hF,_,hcl,hxl,hx⟩:=DataW.trod_struct hu h
    cases hks:kdsL P (kds P i4_ d) fs.toList 0 with
    |none=>rw [hks] at hk;cases hk
    |some ks'=>
     rw [hks] at hk
     obtain ⟨h1,h2⟩:=cv_ hk
     have h1:=df_.1 h1
     cases h2
     subst hF
     have:=k8_ (i4_:=i4_) (eid:=eid) (n:=n) (cs:=cs) (fun T ks cs x k1 k2=>ln_ hcode d n T ks cs x k1 k2) fs.toList 0 ks hks (fun f hf=>by
      obtain ⟨i,hi⟩:=List.getElem?_of_mem hf
      have hi':fs[i]?=some f:=by simpa using hi
      have h3:=hx i f hi'
      have hlt:i<xs.length:=by rw [hxl];exact (Array.getElem?_eq_some_iff.1 hi').1
      rw [List.getElem?_eq_getElem hlt] at h3
      exact ⟨_,h3⟩) (by omega)
     exact (this.mono (Nat.le_succ n))
end
end Go.Pi
end
section
namespace Go.Pi
variable [an_]
open an_
variable {H:Type} {enc':TypeId × Value→H} {E:Env} {w:World} {spare:Nat→Bool}
abbrev NoF:Nat→Prop:=fun _=>False
omit [an_] in
theorem jI_:∀ {ks:List Kd} {l c:List AV},i8_ ks l→sims .v l c→c=l
 |[],[],[],_,_=>rfl
 |k::ks,a::l,b::c,h,hs=>by
  have e:=jI_ h.2 hs.2
  subst e
  have h1:=h.1
  have h2:=hs.1
  cases k<;>obtain ⟨x,rfl⟩:=h1<;>simp only [AV.sim] at h2<;>rw [h2]
 |[],[],_::_,_,h=>h.elim
 |[],_::_,_,h,_=>h.elim
 |_::_,[],_,h,_=>h.elim
 |_::_,_::_,[],_,h=>h.elim
structure kl_ (E:Env) (i4_:TypeId→Option TC) (kinds:TC→List Kd) (d:Nat):Prop where
 codeOk:∀ e t,i4_ e=some t→E.eid t=e
 kdsOk:∀ t,kds E.P i4_ d (E.eid t)=some (kinds t)
 dec:∀ t l,i8_ (kinds t) l→∃ y,dec t l=some y
 cells:∀ t,E.P.cellsOf (E.eid t)=t.width
theorem mv_ [ao_] {t:TC} {N:Nat} (hel:∀ cs x,DataW.trod enc' E.P w 0 spare true N (E.eid t) cs=some x→∃ y:El t,RL E w NoF (enc .v t y) cs (fun _=>0)∧∀ c ∈ enc .v t y,Good c) {b o:Nat} (hW:E.P.cellsOf (E.eid t)=t.width) :
  ∀ len,(∀ i,i<len→∃ cs x,w.cells? 0 ((⟨b,o,none⟩:Addr).add (i*E.P.cellsOf (E.eid t))) (E.P.cellsOf (E.eid t))=some cs∧DataW.trod enc' E.P w 0 spare true N (E.eid t) cs=some x) →
  ∃ (xs:List (El t)) (vals:List Value),xs.length=len∧vals.length=len*t.width∧RL E w NoF (bl_ .v t xs) vals (fun _=>0)∧w.rangeAt b o vals∧∀ x ∈ xs,∀ c ∈ enc .v t x,Good c
 |0,_=>⟨[],[],rfl,by simp,RL.nil (fun _=>0) fun _=>rfl,fun j v h=>by simp at h,fun x hx=>by cases hx⟩
 |len+1,h=>by
  obtain ⟨xs,vals,h1,h2,h3,h4,h5⟩:=mv_ hel hW len fun i hi=>h i (by omega)
  obtain ⟨cs,x,k1,k2⟩:=h len (Nat.lt_succ_self _)
  obtain ⟨y,j1,j2⟩:=hel cs x k2
  obtain ⟨_,hl,hc⟩:=World.cells?_some k1
  rw [hW] at hl hc
  refine ⟨xs++[y],vals++cs,by simp [h1],by rw [List.length_append,h2,hl];exact (Nat.succ_mul _ _).symm,?_,fun j v hj => ?_,fun x hx => ?_⟩
  · rw [cU_]
    refine RL.append h3 (φ':=fun _=>0) ?_ (fun b=>rfl)
    simpa [bl_] using j1
  · by_cases hlt:j<vals.length
    · rw [List.getElem?_append_left hlt] at hj
      exact h4 j v hj
    · rw [List.getElem?_append_right (by omega)] at hj
      have hjl:j - vals.length<t.width:=by rw [←hl];exact (List.getElem?_eq_some_iff.1 hj).1
      have:=hc (j - vals.length) hjl
      rw [Addr.add_mid,Addr.add_mid,hj] at this
      rw [←this]
      congr 2
      omega
  · rcases List.mem_append.1 hx with hx|hx
    · exact h5 x hx
    · rw [List.mem_singleton] at hx;subst hx;exact j2
theorem cell_open [ao_] {i4_:TypeId→Option TC} {kinds:TC→List Kd} {d:Nat} (hk:kl_ E i4_ kinds d) {F:Nat} (ih:∀ N,N<F→∀ t cs x,DataW.trod enc' E.P w 0 spare true N (E.eid t) cs=some x→∃ y:El t,RL E w NoF (enc .v t y) cs (fun _=>0)∧∀ c ∈ enc .v t y,Good c) {k:Kd} {v:Value} (h:nj_ enc' E.P w spare E.eid F k v) :
  ∃ a,KindOk k a∧RL E w NoF [a] [v] (fun _=>0)∧Good a:=by
 cases k with
 |i k=>obtain ⟨n,rfl,hw⟩:=h;exact ⟨.i k n,⟨n,rfl⟩,.scal _ _ _ _ _ rfl (.nil _ fun _=>rfl),.i _ _ hw⟩
 |b=>obtain ⟨q,rfl⟩:=h;exact ⟨.b q,⟨q,rfl⟩,.scal _ _ _ _ _ rfl (.nil _ fun _=>rfl),.b _⟩
 |s=>
  obtain ⟨s,rfl,hs⟩:=h
  refine ⟨.s s.data.toList,⟨_,rfl⟩,.scal _ _ _ _ _ ?_ (.nil _ fun _=>rfl),.s _ ?_⟩
  · show Value.string s = .string ⟨s.data.toList.toArray⟩
    simp
  · rw [Array.length_toList];exact hs
 |sl t=>
  rcases h with rfl|⟨a,len,cap,N,rfl,hl,hm,hN,hel⟩
  · exact ⟨.sl .v t [],⟨_,rfl⟩,.view t [] none 0 0 [] (fun _=>0) _ _ _ ⟨rfl,Nat.le_refl _⟩ (.nil _ fun _=>rfl) (fun _=>rfl) (fun hp=>by omega) (.nil _ fun _=>rfl),.sl _ _ (Nat.zero_le _) (fun x hx=>by cases hx)⟩
  · cases len with
    |zero=>exact ⟨.sl .v t [],⟨_,rfl⟩,.view t [] (some a) 0 cap [] (fun _=>0) _ _ _ ⟨rfl,hl⟩ (.nil _ fun _=>rfl) (fun _=>rfl) (fun hp=>by omega) (.nil _ fun _=>rfl),.sl _ _ (Nat.zero_le _) (fun x hx=>by cases hx)⟩
    |succ len=>
     have hW:=hk.cells t
     have hpos:0<t.width:=ao_.pos t
     obtain ⟨cs0,x0,k1,_⟩:=hel 0 (Nat.succ_pos _)
     obtain ⟨_,hl0,hc0⟩:=World.cells?_some k1
     have hcell:=hc0 0 (by rw [hW];exact hpos)
     rw [List.getElem?_eq_getElem (by rw [hl0,hW];exact hpos)] at hcell
     have ha:a.spot=none:=by
      have h0:(a.add (0*E.P.cellsOf (E.eid t))).add 0=a:=by simp [Addr.add]
      rw [h0] at hcell
      unfold World.cell? at hcell
      split at hcell
      · cases hs:a.spot with
        |none=>rfl
        |some q=>simp [hs] at hcell
      · cases hcell
     obtain ⟨b,o,sp⟩:=a
     simp only at ha
     subst ha
     have hb:b<w.heap.size:=World.cells?_block k1 (by rw [hW];exact hpos) |> fun h=>by simpa [Addr.add] using h
     obtain ⟨xs,vals,e1,e2,e3,e4,e5⟩:=mv_ (ih N hN t) hW (len+1) hel
     refine ⟨.sl .v t xs,⟨_,rfl⟩,?_,.sl _ _ (by omega) e5⟩
     exact .view t xs (some ⟨b,o,none⟩) (len+1) cap vals (fun _=>0) _ _ _ ⟨e1.symm,hl⟩ e3 (fun _=>rfl) (fun _=>⟨b,o,rfl,e4,hb,fun h=>h⟩) (.nil _ fun _=>rfl)
theorem iN_ [ao_] {i4_:TypeId→Option TC} {kinds:TC→List Kd} {d:Nat} (hk:kl_ E i4_ kinds d) {F:Nat} (ih:∀ N,N<F→∀ t cs x,DataW.trod enc' E.P w 0 spare true N (E.eid t) cs=some x→∃ y:El t,RL E w NoF (enc .v t y) cs (fun _=>0)∧∀ c ∈ enc .v t y,Good c) :
  ∀ {ks:List Kd} {vs:List Value},ew_ enc' E.P w spare E.eid F ks vs→∃ l,i8_ ks l∧RL E w NoF l vs (fun _=>0)∧∀ c ∈ l,Good c
 |[],[],_=>⟨[],trivial,.nil _ fun _=>rfl,fun c hc=>by cases hc⟩
 |k::ks,v::vs,h=>by
  obtain ⟨a,h1,h2,h3⟩:=cell_open hk ih h.1
  obtain ⟨l,k1,k2,k3⟩:=iN_ hk ih h.2
  refine ⟨a::l,⟨h1,k1⟩,RL.cons h2 k2 (fun b=>rfl),fun c hc => ?_⟩
  rcases List.mem_cons.1 hc with rfl|hc
  · exact h3
  · exact k3 c hc
 |[],_::_,h=>h.elim
 |_::_,[],h=>h.elim
theorem el_open [ao_] {i4_:TypeId→Option TC} {kinds:TC→List Kd} {d:Nat} (hk:kl_ E i4_ kinds d):∀ (F:Nat) (t:TC) (cs:List Value) (x:DataW H × List MemPlace),DataW.trod enc' E.P w 0 spare true F (E.eid t) cs=some x →
  ∃ y:El t,RL E w NoF (enc .v t y) cs (fun _=>0)∧∀ c ∈ enc .v t y,Good c:=by
 intro F
 induction F using Nat.strongRecOn with
 |_ F ih=>
  intro t cs x h
  have h1:=ln_ hk.codeOk d F _ _ _ _ (hk.kdsOk t) h
  obtain ⟨l,h2,h3,h4⟩:=iN_ hk ih h1
  obtain ⟨y,hy⟩:=hk.dec t l h2
  have h5:=ao_.dec .v t l y hy
  have h6:=jI_ h2 h5
  exact ⟨y,by rw [h6];exact h3,by rw [h6];exact h4⟩
theorem arg_open [ao_] {i4_:TypeId→Option TC} {kinds:TC→List Kd} {d:Nat} (hk:kl_ E i4_ kinds d) {T:TypeId} {ks:List Kd} (hT:kds E.P i4_ d T=some ks) {v:Value} {dd:DataW H} {ps:List MemPlace} (h:DataW.Trod enc' E.P w 0 spare true T v dd ps) :
  ∃ l,i8_ ks l∧RL E w NoF l v.cells.toList (fun _=>0)∧∀ c ∈ l,Good c:=by
 obtain ⟨F,hF⟩:=h
 exact iN_ hk (fun N _=>el_open hk N) (ln_ hk.codeOk d F T ks _ _ hT hF)
end Go.Pi
end
section
namespace Go.Pi
open Go.RowKit
variable [an_]
open an_
omit [an_] in
theorem d2_ {k:Kd} {ks:List Kd} {l:List AV} (h:i8_ (k::ks) l):∃ a l',l=a::l'∧KindOk k a∧i8_ ks l':=by
 cases l with
 |nil=>exact h.elim
 |cons a l=>exact ⟨a,l,rfl,h.1,h.2⟩
omit [an_] in
theorem em_ {l:List AV} (h:i8_ [] l):l=[]:=by
 cases l with
 |nil=>rfl
 |cons a l=>exact h.elim
def codeL (eid:TC→TypeId):List TC→TypeId→Option TC
 |[],_=>none
 |t::ts,e=>cond (Nat.beq (eid t) e) (some t) (codeL eid ts e)
omit [an_] in
theorem o2_ {eid:TC→TypeId} {e:TypeId} {t:TC}:∀ ts,codeL eid ts e=some t→eid t=e
 |[],h=>by cases h
 |u::ts,h=>by
  simp only [codeL] at h
  cases hb:Nat.beq (eid u) e with
  |true=>rw [hb] at h;cases h;exact df_.1 hb
  |false=>rw [hb] at h;exact o2_ ts h
theorem law_true [ao_] {E:Env} {f:FuncId} {avs:List AV} {outs:List AV} {ps:List PS} (h:dW_ E f avs (.b true) outs ps) {w:World} (hgl:Glob E w NoF) {Vs:List Value} (hr:RL E w NoF avs Vs (fun _=>0)) :
  Calls E.P f Vs.toArray w fun e W'=>e = .returned (.bool true)∧Below w.heap.size w W':=by
 refine (h w NoF Vs _ hr (fun _=>Nat.zero_le _) (fun b hb=>hb.elim) hgl).mono fun e W' ⟨V,φ',he,h1,_,_,e1,e2,e3,e4,e5⟩=>⟨?_,e1,e2,e3,e4,fun k hk=>e5 k hk rfl⟩
 cases h1 with
 |scal a v l vs φ hs _=>rw [he,show V = .bool true from hs]
theorem ag_open {E:Env} {w:World} {l:List AV} {cs:Array Value} (h:RL E w NoF l (Value.agg cs).cells.toList (fun _=>0)) {l':List AV} {vs:List Value} (h':RL E w NoF l' vs (fun _=>0)) :
  RL E w NoF (.ag l::l') (.agg cs::vs) (fun _=>0):=by
 have:=RL.ag (E:=E) (w:=w) (F:=NoF) l cs.toList (fun _=>0) l' vs (fun _=>0) (fun _=>0) h h' (fun b=>rfl)
 simpa using this
end Go.Pi
end
section
namespace Go.Pi
open Go.Proofs Go.Proofs.YtccdklkcfjmchaaGreatDoor
open Go.ChangeShapes Go.WideShapes Go.ChangeAt Go.RowKit
def i4_:TypeId→Option TC:=codeL eid [.str,.u8,.iJson,.iEvent,.iOp,.lJson,.lOp]
def kinds:TC→List Kd
 |.str=>[.s]
 |.u8=>[.i .u8]
 |.iJson=>[.i .i64,.i .i64,.s,.sl .iJson,.sl .str]
 |.iEvent=>[.i .i64,.i .i64,.i .i64,.i .i64,.i .i64,.s,.sl .iJson,.sl .str,.sl .iOp]
 |.iOp=>[.i .i64,.sl .str,.i .i64,.i .i64,.s,.sl .iJson,.sl .str]
 |.lJson=>[.i .i64,.i .i64,.s,.sl .lJson,.sl .str]
 |.lOp=>[.i .i64,.sl .str,.i .i64,.i .i64,.s,.sl .lJson,.sl .str]
theorem kindsOk:kl_ E i4_ kinds 12 where
 codeOk:=fun e t h=>o2_ _ h
 kdsOk:=by intro t;cases t<;>kernel_rfl
 cells:=by intro t;cases t<;>kernel_rfl
 dec:=by
  intro t l h
  cases t with
  |str=>
   iterate 1 (replace h:=d2_ h;obtain ⟨_,_,rfl,⟨_,rfl⟩,h⟩:=h)
   replace h:=em_ h;subst h;exact ⟨_,rfl⟩
  |u8=>
   iterate 1 (replace h:=d2_ h;obtain ⟨_,_,rfl,⟨_,rfl⟩,h⟩:=h)
   replace h:=em_ h;subst h;exact ⟨_,rfl⟩
  |iJson=>
   iterate 5 (replace h:=d2_ h;obtain ⟨_,_,rfl,⟨_,rfl⟩,h⟩:=h)
   replace h:=em_ h;subst h;exact ⟨_,rfl⟩
  |iEvent=>
   iterate 9 (replace h:=d2_ h;obtain ⟨_,_,rfl,⟨_,rfl⟩,h⟩:=h)
   replace h:=em_ h;subst h;exact ⟨_,rfl⟩
  |iOp=>
   iterate 7 (replace h:=d2_ h;obtain ⟨_,_,rfl,⟨_,rfl⟩,h⟩:=h)
   replace h:=em_ h;subst h;exact ⟨_,rfl⟩
  |lJson=>
   iterate 5 (replace h:=d2_ h;obtain ⟨_,_,rfl,⟨_,rfl⟩,h⟩:=h)
   replace h:=em_ h;subst h;exact ⟨_,rfl⟩
  |lOp=>
   iterate 7 (replace h:=d2_ h;obtain ⟨_,_,rfl,⟨_,rfl⟩,h⟩:=h)
   replace h:=em_ h;subst h;exact ⟨_,rfl⟩
namespace laws_FnExactClientOf
theorem own:ownKnob Tryz.prog.godebug=none:=by kernel_rfl
theorem laidOut:laidOutB Tryz.prog=true:=by kernel_rfl
def pe_:DataW Unit→ByteArray
 |.iface _ (.ptr (.agg [.lit (.string l)]))=>⟨l.toArray⟩
 |_=>ByteArray.empty
def tab1:DataW Unit→List Value
 |.lit (.int k n)=>[Value.int k n]
 |_=>[]
def tab2:DataW Unit→List Value
 |.agg l=>l.flatMap tab1
 |d=>tab1 d
def tabOf:DataW Unit→Array Value
 |.agg l=>(l.flatMap tab2).toArray
 |_ => #[]
def Pure:Prop:=∀ (o:Bs),(∀ c ∈ ([.s o]:List AV),Good c)→∃ n,Go.Pi.laws_FnExactClientOf n o=some true
noncomputable def low:Nat:=(World.holding Tryz.prog default ⟨#[],#[],[]⟩).heap.size
noncomputable def mM_ (os:Os):World :=
 let w0:=World.holding Tryz.prog os ⟨#[.cells #[.string (pe_ Rows.laid_strconv_ErrRange)] 201,.cells #[.string (pe_ Rows.laid_strconv_ErrSyntax)] 201],#[],[]⟩
 let put:=fun (h:Array Obj) (g:Nat) (cs:Array Value)=>h.modify g fun
  |.cells _ t frozen=>.cells cs t frozen
  |o=>o
 { w0 with heap:=put (put (put (put (put (put (put (w0.heap) 6 (tabOf Rows.laid_math_bits_deBruijn32tab)) 7 (tabOf Rows.laid_math_bits_deBruijn64tab)) 3 (tabOf Rows.laid_internal_strconv_uint64pow10)) 5 (tabOf Rows.laid_unicode_utf8_acceptRanges)) 2 (#[.iface 199 (.pointer (some ⟨low+0,0,none⟩))])) 1 (#[.iface 199 (.pointer (some ⟨low+1,0,none⟩))])) 4 (tabOf Rows.laid_unicode_utf8_first) }
theorem lP_ (os:Os) (args:Array Value):laidMet Tryz.prog Rows.fnExactClientOfRow.laid ((mM_ os).forCall (fun _ _=>0) ⟨#[],args,[]⟩).memory :=
 laidMet_of_run' 8 (by kernel_rfl) (by kernel_rfl)
theorem lifted (hp:Pure) (os:Os) (started:os.Started) (H:Type) (enc:TypeId × Value→H) :
  ReturnsInHanded {} Tryz.checked os 8 .any (fun w args=>(Rows.fnExactClientOfSpec.pre enc Tryz.prog Tryz.f8 Rows.fnExactClientOfRow.domain false w args∧laidMet Tryz.prog Rows.fnExactClientOfRow.laid w)∧sizedMet enc Tryz.prog Tryz.f8 (OpenSpec.ofChange Rows.fnExactClientOfSpec) false w args) (Rows.fnExactClientOfSpec.post enc Tryz.prog Tryz.f8 false true false false):=by
 refine returnsInHanded_of_calls own started (by kernel_rfl) (ChangeSpec.witness_at (enc:=enc) (C:=Tryz.checked) (os:=os) (X:=fun w _=>laidMet Tryz.prog Rows.fnExactClientOfRow.laid w) false (mM_ os) #[.string ByteArray.empty] 8 rfl (by kernel_rfl) (by kernel_rfl) (by kernel_rfl) (by kernel_rfl) (by kernel_rfl) (lP_ os _)) ?_
 intro w0 tape inp _ hsh _ hok hpre _
 obtain ⟨_,_,_,fn',hfn',_,_,_,_,hval0⟩:=hok
 obtain rfl:fn'=Tryz.f8:=Option.some.inj (hfn'.symm.trans Tryz.func8)
 obtain ⟨⟨⟨ds,gs,before,hw0,hcnd⟩,hL0⟩,hz⟩:=hpre
 have hW:=DataW.Whole.of_heap (w':=w0.forCall tape inp) (by rfl) hw0
 have hL:laidMet Tryz.prog Rows.fnExactClientOfRow.laid (w0.forCall tape inp):=hL0.of_heap (by rfl)
 clear hw0 hL0 hz hfn' hcnd
 generalize w0.forCall tape inp=W at hsh hval0 hW hL ⊢
 generalize inp.args=args at hval0 hW ⊢
 generalize w0.heap.size=base at hval0
 suffices hgo:Calls Tryz.prog 8 args W fun e W'=>∃ v,e = .returned v∧Rows.fnExactClientOfSpec.post enc Tryz.prog Tryz.f8 false true false false W args v W' from hgo.mono fun e W' ⟨v,he,hp⟩=>by subst he;exact ChangeSpec.post_blind hp
 have hval:∀ (j:Nat) t v,Tryz.f8.params[j]?=some t→args[j]?=some v→Value.okWide Tryz.prog W .any base t v:=hval0
 have hW':=hW
 obtain ⟨p,q,hA0,hV,rfl,hfz,hnd⟩:=hW
 have hA:DataW.TrodAll enc Tryz.prog W 0 (fun _=>true) true Tryz.f8.params.toList args.toList ds p:=hA0
 rw [Tryz.params8] at hA hval
 obtain ⟨v0,vs0,d0,ds0,p0,q0,hargs,rfl,rfl,h0,r0⟩:=trodAll_cons hA
 obtain ⟨rfl,rfl,rfl⟩:=trodAll_nil r0
 obtain rfl:args = #[v0]:=by cases args;simp_all
 obtain ⟨rfl,rfl⟩:=trodVars_none hV
 obtain ⟨c0,rfl⟩:=okWide_string Tryz.underlying9 (hval 0 9 v0 rfl rfl)
 have lt0:∀ x ∈ p0,x.block<W.heap.size:=by obtain ⟨m,hm⟩:=h0;exact DataW.trod_lt m _ _ _ hm
 obtain ⟨l0,k0,e0,g0⟩:=arg_open kindsOk (T:=9) (ks:=[.s]) (by kernel_rfl) h0
 replace k0:=d2_ k0;obtain ⟨_,_,rfl,⟨z0,rfl⟩,k0⟩:=k0
 replace k0:=em_ k0;subst k0
 have hT:Lib.TabIs Tryz.prog W "internal/strconv.uint64pow10" .u64 Lib.pow10Tab:=Lib.tabIs_of_head (t:=216) (e:=177) (n:=20) j6_ (by kernel_rfl) (by kernel_rfl) (by kernel_rfl) (by kernel_rfl) (by kernel_rfl) (show laidMet Tryz.prog ((_,Lib.tabData .u64 Lib.pow10Tab)::_) W from hL.tail.tail)
 obtain ⟨mx,hmx⟩:=cell_of_shapedOpen_int (g:=0) (t:=3) (k:=.i64) (zero:=#[.int .i64 0]) hsh (by decide +kernel) (by kernel_rfl) rfl (by kernel_rfl) (by kernel_rfl) (by kernel_rfl)
 have hgl:Glob E W NoF:=fun p hp=>by
  rcases List.mem_cons.1 hp with rfl|hp
  · obtain ⟨T,fr,h⟩:=tab_glob hT j6_;exact ⟨⟨_,T,fr,h,rfl⟩,fun h=>h.elim⟩
  rcases List.mem_cons.1 hp with rfl|hp
  · exact ⟨int_glob hmx,fun h=>h.elim⟩
  rcases List.mem_cons.1 hp with rfl|hp
  · exact ⟨oU_ (d:=.ptr (.agg [.lit (.string (pe_ Rows.laid_strconv_ErrSyntax).data.toList)])) (show laidMet Tryz.prog (("strconv.ErrSyntax", .iface "*errors.errorString" (.ptr (.agg [.lit (.string (pe_ Rows.laid_strconv_ErrSyntax).data.toList)])))::_) W from hL.tail.tail.tail.tail.tail) (by kernel_rfl) (by kernel_rfl),fun h=>h.elim⟩
  rcases List.mem_singleton.1 hp with rfl
  exact ⟨oU_ (d:=.ptr (.agg [.lit (.string (pe_ Rows.laid_strconv_ErrRange).data.toList)])) (show laidMet Tryz.prog (("strconv.ErrRange", .iface "*errors.errorString" (.ptr (.agg [.lit (.string (pe_ Rows.laid_strconv_ErrRange).data.toList)])))::_) W from hL.tail.tail.tail.tail) (by kernel_rfl) (by kernel_rfl),fun h=>h.elim⟩
 obtain ⟨n,hn⟩:=hp z0 g0
 refine (law_true ((bN_ n).h142 (z0,()) _ hn) hgl (RL.cons e0 (.nil _ fun _=>rfl) (fun b=>rfl))).mono fun e W' ⟨he,bel⟩ => ?_
 subst he
 exact ⟨_,rfl,_,_,_,[],_,[],hW',trodAll_mk1 (shut_bool Tryz.underlying4 _),(trodAll_cons_mk (Below.trod laidOut (by kernel_rfl) (of_decide_eq_true (by kernel_rfl)) h0 bel lt0) trodAll_mk0),rfl,bel.frame _,fun h=>by cases h⟩
theorem jf0:(Rows.fnExactClientOfRow.wf (OpenSpec.ofChange Rows.fnExactClientOfSpec))=true:=by kernel_rfl
theorem jf1:(laidOutB Tryz.prog)=true:=by kernel_rfl
theorem jf2:(mapsRowed Tryz.prog)=true:=by kernel_rfl
theorem jf3:(Tryz.f8.params.all (Tryz.prog.readableRec ·))=true:=by kernel_rfl
theorem jf4:(namedTie Tryz.prog Rows.fnExactClientOfRow.named Rows.fnExactClientOfSpec.vars)=true:=by kernel_rfl
theorem jf5:((Rows.fnExactClientOfRow.stops == []))=true:=by kernel_rfl
theorem jf6:((Tryz.prog.stops == []))=true:=by kernel_rfl
theorem jf7:((Rows.fnExactClientOfRow.knobs == []))=true:=by kernel_rfl
theorem jf8:((Tryz.prog.stopKnobs == []))=true:=by kernel_rfl
theorem jf9:((Rows.fnExactClientOfRow.inPlace == Tryz.prog.inPlace 8))=true:=by kernel_rfl
theorem jf10:((Rows.fnExactClientOfRow.unfollowed == Tryz.prog.unfollowed 8))=true:=by kernel_rfl
theorem jf11:((Rows.fnExactClientOfRow.recurses == Tryz.prog.recurses 8))=true:=by kernel_rfl
theorem jf12:((Rows.fnExactClientOfRow.named == Tryz.prog.varsNamed 8))=true:=by kernel_rfl
theorem jf13:((Rows.fnExactClientOfRow.maps == (Tryz.f8.params.toList++Rows.fnExactClientOfSpec.plain.varTypes Tryz.prog).any (Tryz.prog.mapsRec ·)))=true:=by kernel_rfl
theorem jf14:((Rows.fnExactClientOfRow.ifaces == (Tryz.f8.params.toList++Rows.fnExactClientOfSpec.plain.varTypes Tryz.prog).any (Tryz.prog.ifacesRec ·)))=true:=by kernel_rfl
theorem jf15:((Rows.fnExactClientOfRow.mapsOut == Tryz.prog.mapsAmong Tryz.f8.resultTypes.toList))=true:=by kernel_rfl
theorem jf16:((Rows.fnExactClientOfRow.loops == (Tryz.f8.params.toList++Rows.fnExactClientOfSpec.plain.varTypes Tryz.prog).any (Tryz.prog.loopsFrom ·)))=true:=by kernel_rfl
theorem jf17:((Rows.fnExactClientOfRow.wideKeys == (Tryz.f8.params.toList++Rows.fnExactClientOfSpec.plain.varTypes Tryz.prog++Tryz.f8.resultTypes.toList).any (Tryz.prog.wideKeysFrom ·)))=true:=by kernel_rfl
theorem jf18:(Rows.fnExactClientOfSpec.vars.all (Tryz.prog.varReadable ·))=true:=by kernel_rfl
theorem jf19:(Tryz.f8.resultTypes.all (fun t=>Tryz.prog.readableRec t&&decide (t<Tryz.prog.types.size)))=true:=by kernel_rfl
theorem jf20:((Rows.fnExactClientOfRow.ifacesOut == Tryz.f8.resultTypes.toList.any (Tryz.prog.ifacesRec ·)))=true:=by kernel_rfl
theorem jf21:((Rows.fnExactClientOfRow.loopsOut == Tryz.f8.resultTypes.toList.any (Tryz.prog.loopsFrom ·)))=true:=by kernel_rfl
theorem jf22:((Rows.fnExactClientOfRow.plainKeys == Tryz.prog.plainKeys))=true:=by kernel_rfl
theorem jf23:(Rows.fnExactClientOfRow.shortTexts.isNone)=true:=by kernel_rfl
theorem jf24:(Tryz.prog.stopsHeard)=true:=by kernel_rfl
theorem jf25:(Tryz.prog.mayEnter)=true:=by kernel_rfl
theorem jf26:((Rows.fnExactClientOfRow.lifted == Tryz.prog.liftsFinal))=true:=by kernel_rfl
theorem jf27:((Tryz.prog.make == some Rows.fnExactClientOfRow.make))=true:=by kernel_rfl
theorem jf28:((Rows.fnExactClientOfRow.kinds == (if Rows.fnExactClientOfRow.domain.isEmpty then [] else Tryz.f8.params.toList.map fun t=>match Tryz.prog.underlying t with|some (.int k)=>some k|_=>none)))=true:=by kernel_rfl
theorem jf29:((Rows.fnExactClientOfRow.pinned == Rows.fnExactClientOfRow.pinnedBy))=true:=by kernel_rfl
theorem jf30:((Rows.fnExactClientOfRow.veiled == (Tryz.f8.params.toList++Rows.fnExactClientOfSpec.plain.varTypes Tryz.prog++Tryz.f8.resultTypes.toList).any (Tryz.prog.veiledRec ·)))=true:=by kernel_rfl
theorem jf31:(Rows.fnExactClientOfRow.veiledFits Tryz.prog Tryz.f8.params.toList (Tryz.f8.params.toList++Rows.fnExactClientOfSpec.plain.varTypes Tryz.prog++Tryz.f8.resultTypes.toList))=true:=by kernel_rfl
theorem hL_ {a b:Bool} (h:a=true) (k:b=true):(a&&b)=true:=by rw [h,k];rfl
theorem facts:joinedFacts Tryz.pinned.checked.prog 8 Tryz.f8 Rows.fnExactClientOfSpec Rows.fnExactClientOfRow=true:=(hL_ (hL_ (hL_ (hL_ (hL_ (hL_ (hL_ (hL_ (hL_ (hL_ (hL_ (hL_ (hL_ (hL_ (hL_ (hL_ (hL_ (hL_ (hL_ (hL_ (hL_ (hL_ (hL_ (hL_ (hL_ (hL_ (hL_ (hL_ (hL_ (hL_ (hL_ jf0 jf1) jf2) jf3) jf4) jf5) jf6) jf7) jf8) jf9) jf10) jf11) jf12) jf13) jf14) jf15) jf16) jf17) jf18) jf19) jf20) jf21) jf22) jf23) jf24) jf25) jf26) jf27) jf28) jf29) jf30) jf31)
theorem over (hp:Pure):Rows.fnExactClientOfRow.holds Tryz.pinned (OpenSpec.ofChange Rows.fnExactClientOfSpec) :=
 OpenClaim.holds_of_wide 8 Tryz.f8 rfl rfl rfl rfl rfl rfl rfl ⟨rfl,rfl,rfl,rfl,rfl⟩ rfl rfl rfl rfl rfl (by kernel_rfl) Tryz.func8 facts
  (of_decide_eq_true (by kernel_rfl)) (by unfold Func.isWrapper;first|(rw [if_pos (by decide +kernel)];kernel_rfl)|(rw [if_neg (by decide +kernel)];exact ⟨rfl,rfl⟩))
  (fun os started H enc _=>lifted hp os started H enc)
end laws_FnExactClientOf
theorem laws_FnExactClientOf.card (hp:laws_FnExactClientOf.Pure):Rows.FnExactClientOfCardSaid :=
 Claim7.holds_tied_plain_at .later [] [.data,.data,.data,.data,.sentinel,.sentinel,.pinned] true (true, "eb8428fd810aea7f5a51b1307ca0e5a40614afabd133ac955bae0ee68fce9228") true
  (laws_FnExactClientOf.over hp) (fun _ h=>by cases h) (by kernel_rfl) (fun _ h=>by cases h) fnExactClientOf_row_tie rfl ⟨rfl,rfl⟩ (by kernel_rfl) rfl
  (fun f fn hf hfn=>by
    obtain rfl:f=8:=Option.some.inj ((show Tryz.prog.funcNamed "loop.example/g00198/laws.FnExactClientOf" = some 8 by kernel_rfl).symm.trans hf) |>.symm
    obtain rfl:fn=Tryz.f8:=(Option.some.inj (Tryz.func8.symm.trans hfn)).symm
    exact ⟨by kernel_rfl,fun j t ht=>by
     rw [Tryz.params8] at ht
     have hm:t ∈ ([9]:List TypeId):=List.mem_of_getElem? (show ([9]:List TypeId)[j]?=some t by simpa using ht)
     have:=List.all_eq_true.1 (show ([9]:List TypeId).all (fun t => !Tryz.prog.wantsStandIn t)=true by kernel_rfl) t hm
     exact (by simpa using this:Tryz.prog.wantsStandIn t=false)⟩)
  (by kernel_rfl)
end Go.Pi
end
section
namespace Go.Pi
section
variable {α β:Type}
def Ev (f:Nat→Nat→Option α) (v:α):Prop:=∃ M,∀ n N,M≤n→M≤N→f n N=some v
theorem ai_ {v w:α}:Ev (fun _ _=>some v) w↔v=w :=
 ⟨fun ⟨M,h⟩=>Option.some.inj (h M M (Nat.le_refl _) (Nat.le_refl _)),fun h=>⟨0,fun _ _ _ _=>by rw [h]⟩⟩
theorem eA_ {f:Nat→Nat→Option α} {v w:α} (h:Ev f v):Ev f w↔v=w:=by
 constructor
 · rintro ⟨M',h'⟩
   obtain ⟨M,h⟩:=h
   have a:=h (max M M') (max M M') (by omega) (by omega)
   have b:=h' (max M M') (max M M') (by omega) (by omega)
   rw [a] at b
   exact Option.some.inj b
 · rintro rfl;exact h
theorem ae_ {f:Nat→Nat→Option α} {a:α} (h:Ev f a) {g:Nat→Nat→α→Option β} {v:β}:Ev (fun n N=>(f n N).bind (g n N)) v↔Ev (fun n N=>g n N a) v:=by
 obtain ⟨M,h⟩:=h
 constructor
 · rintro ⟨M',h'⟩
   refine ⟨max M M',fun n N h1 h2 => ?_⟩
   have:=h' n N (by omega) (by omega)
   simp only [h n N (by omega) (by omega),Option.bind_some] at this
   exact this
 · rintro ⟨M',h'⟩
   refine ⟨max M M',fun n N h1 h2 => ?_⟩
   simp only [h n N (by omega) (by omega),Option.bind_some]
   exact h' n N (by omega) (by omega)
theorem dl_ {v:α}:Ev (fun _ _=>none) v↔False:=by
 simp only [iff_false]
 rintro ⟨M,h⟩
 cases h M M (Nat.le_refl _) (Nat.le_refl _)
theorem aE_ {c:Bool} {f g:Nat→Nat→Option α} {v:α}:Ev (fun n N=>cond c (f n N) (g n N)) v↔(c=true→Ev f v)∧(c=false→Ev g v):=by
 cases c<;>simp
theorem b7_ {i:Int} {len:Nat} {f:Nat→Nat→Option α} {v:α}:Ev (fun n N=>inB i len (f n N)) v↔(0≤i∧i<(len:Int))∧Ev f v:=by
 unfold inB
 rw [aE_,aE_]
 by_cases h1:0≤i<;>by_cases h2:i<(len:Int)<;>simp [h1,h2,dl_]
theorem aI_ {f:Nat→Nat→Option α} {v:α} (h:Ev (fun n N=>f (n+1) N) v):Ev f v:=by
 obtain ⟨M,h⟩:=h
 refine ⟨M+1,fun n N h1 h2 => ?_⟩
 obtain ⟨m,rfl⟩:∃ m,n=m+1:=⟨n - 1,by omega⟩
 exact h m N (by omega) (by omega)
theorem c5_ {f:Nat→Nat→Option α} {v:α} (h:Ev f v):Ev (fun n _=>f n n) v:=by
 obtain ⟨M,h⟩:=h
 exact ⟨M,fun n N h1 h2=>h n n h1 h1⟩
theorem bm_ {f:Nat→Nat→Option α} {v:α} (h:Ev (fun n N=>f n (N+1)) v):Ev f v:=by
 obtain ⟨M,h⟩:=h
 refine ⟨M+1,fun n N h1 h2 => ?_⟩
 obtain ⟨m,rfl⟩:∃ m,N=m+1:=⟨N - 1,by omega⟩
 exact h n m (by omega) (by omega)
theorem ev_ex {f:Nat→Option α} {v:α} (h:Ev (fun n _=>f n) v):∃ n,f n=some v:=by
 obtain ⟨M,h⟩:=h
 exact ⟨M,h M M (Nat.le_refl _) (Nat.le_refl _)⟩
theorem ev_up {σ:Type} (L:Nat→Nat→Nat→σ→Option α) (F:Nat→σ→α) (I:Nat→σ→Prop) (len:Nat)
  (h:∀ i s,I i s→i≤len→(∀ s',I (i+1) s'→i<len→Ev (fun n N=>L n N (i+1) s') (F (i+1) s'))→Ev (fun n N=>L n (N+1) i s) (F i s)) :
  ∀ s,I 0 s→Ev (fun n _=>L n n 0 s) (F 0 s):=by
 have key:∀ d i s,d+i=len→I i s→Ev (fun n N=>L n N i s) (F i s):=by
  intro d
  induction d with
  |zero=>exact fun i s hd hI=>bm_ (h i s hI (by omega) fun s' _ hl=>absurd hl (by omega))
  |succ d ih=>exact fun i s hd hI=>bm_ (h i s hI (by omega) fun s' hI' _=>ih (i+1) s' (by omega) hI')
 exact fun s hI=>c5_ (f:=fun n N=>L n N 0 s) (key len 0 s (by omega) hI)
theorem ev_up1 (L:Nat→Nat→Nat→Option α) (F:Nat→α) (len:Nat)
  (h:∀ i,i≤len→(i<len→Ev (fun n N=>L n N (i+1)) (F (i+1)))→Ev (fun n N=>L n (N+1) i) (F i)) :
  Ev (fun n _=>L n n 0) (F 0) :=
 ev_up (σ:=Unit) (fun n N i _=>L n N i) (fun i _=>F i) (fun _ _=>True) len (fun i s _ hi k=>h i hi fun hl=>k () trivial hl) () trivial
end
abbrev cY_:Nat:=9223372036854775807
theorem W_id {n:Int} (h : -9223372036854775808≤n) (h':n<9223372036854775808):W n=n:=by
 show IntKind.i64.wrap n=n
 rw [IntKind.wrap_i64];omega
theorem W_up {i:Nat} {len:Nat} (h:i<len) (hl:len≤cY_):W ((i:Int)+1)=((i+1:Nat):Int):=by
 rw [W_id (by omega) (by simp only [cY_] at hl;omega)];omega
theorem dB_ {α:Type} (d:α) {a:List α} {i:Nat} (h:i<a.length):a.drop i=a.getD i d::a.drop (i+1):=by
 rw [List.drop_eq_getElem_cons h,List.getD_eq_getElem?_getD,List.getElem?_eq_getElem h];rfl
theorem oX_ {α:Type} {a:List α} {i:Nat} (h:a.length≤i):a.drop i=[]:=List.drop_eq_nil_of_le h
theorem cO_ {α:Type} (d:α) {a:List α} {i:Nat} (h:i<a.length):a.getD i d ∈ a:=by
 rw [List.getD_eq_getElem?_getD,List.getElem?_eq_getElem h];exact List.getElem_mem h
end Go.Pi
end
