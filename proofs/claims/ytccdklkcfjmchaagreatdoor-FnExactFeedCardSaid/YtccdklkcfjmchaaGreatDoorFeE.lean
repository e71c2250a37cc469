/- Feed of the program returns what Feed of the reference returns, for all arguments. Text 5 of 7. -/
import Derived.Test.YtccdklkcfjmchaaGreatDoorFeD
import Derived.Shelf.RegionOpenPlain
import Derived.WalkKit
import Derived.Deep.RegionLaw
import Derived.Lib.Walk
import Derived.Lib.SliceRun
import Derived.Laws.CopyRow
import Derived.RowKit
import Derived.Lib.Overlaps
import Derived.Lib.AppendZerosOnto
import Derived.Laws.NewBlocks
import Derived.Laws.Externs
import Derived.Shelf.Strings.Search3
import Derived.Shelf.Strconv.AtoiAll
import Derived.Shelf.Strings.Search2
import Derived.Shelf.Strings.OnBuilder
import Derived.Shelf.Strings.Split
import Derived.Shelf.Strings.Replace
import Derived.ChangeArms
import Derived.DataReads
import Derived.ChangeOld
import Derived.Test.YtccdklkcfjmchaaGreatDoorRows
import Derived.ProofKit
import Derived.OpenShut
import Derived.JoinedOf
import Derived.JoinedAt
import Derived.ChangeVars
import Derived.ChangeMaps5
import Derived.Test.YtccdklkcfjmchaaGreatDoorTie
import Derived.Test.YtccdklkcfjmchaaGreatDoorCards
import Derived.IntWalk
set_option linter.unusedVariables false
set_option maxRecDepth 100000
set_option linter.unusedSimpArgs false
section
namespace Go.Pi
open Go.Proofs
noncomputable def b1_.fs (n:Nat):b1_.d.Fs:=()
theorem b1_.ok (n:Nat):CxOk E (cx n b1_.d.nt)→KPar (cx n b1_.d.nt)→b1_.d.Ok E (b1_.F (n+1)) :=
 FD.ok (fs:=b1_.fs n) ba_ Tryz.func29 (by kernel_rfl) (by kernel_rfl) (by kernel_rfl) (by kernel_rfl) (fun _=>by kernel_rfl) (by kernel_rfl) (fun x=>by kernel_rfl) (.nil)
noncomputable def bL_.fs (n:Nat):bL_.d.Fs:=()
theorem bL_.ok (n:Nat):CxOk E (cx n bL_.d.nt)→KPar (cx n bL_.d.nt)→bL_.d.Ok E (bL_.F (n+1)) :=
 FD.ok (fs:=bL_.fs n) ba_ Tryz.func31 (by kernel_rfl) (by kernel_rfl) (by kernel_rfl) (by kernel_rfl) (fun _=>by kernel_rfl) (by kernel_rfl) (fun x=>by kernel_rfl) (.nil)
noncomputable def bb_.fs (n:Nat):bb_.d.Fs:=(fun _ κe=>bb_.loop3 n (bb_.o0.k (κe 0)) n,())
theorem bb_.r3 (n:Nat):bb_.d.Round (bb_.fs n) (cx n bb_.d.nt) (cm_ Tryz.f71) 3 bb_.p3 (fun κe=>bb_.step3 n (bb_.o0.k (κe 0))):=fun κ κe x y=>by kernel_rfl
theorem bb_.ok (n:Nat):CxOk E (cx n bb_.d.nt)→KPar (cx n bb_.d.nt)→bb_.d.Ok E (bb_.F (n+1)) :=
 FD.ok (fs:=bb_.fs n) ba_ Tryz.func71 (by kernel_rfl) (by kernel_rfl) (by kernel_rfl) (by kernel_rfl) (fun _=>by kernel_rfl) (by kernel_rfl) (fun x=>by kernel_rfl) (.cons (FD.lp n (bb_.r3 n) (by kernel_rfl) fun _ _=>by kernel_rfl) (.nil))
noncomputable def aT_.fs (n:Nat):aT_.d.Fs:=(fun _ κe=>aT_.loop5 n (aT_.o0.k (κe 0)) n,())
theorem aT_.r5 (n:Nat):aT_.d.Round (aT_.fs n) (cx n aT_.d.nt) (cm_ Tryz.f43) 5 aT_.p5 (fun κe=>aT_.step5 n (aT_.o0.k (κe 0))):=fun κ κe x y=>by kernel_rfl
theorem aT_.ok (n:Nat):CxOk E (cx n aT_.d.nt)→KPar (cx n aT_.d.nt)→aT_.d.Ok E (aT_.F (n+1)) :=
 FD.ok (fs:=aT_.fs n) ba_ Tryz.func43 (by kernel_rfl) (by kernel_rfl) (by kernel_rfl) (by kernel_rfl) (fun _=>by kernel_rfl) (by kernel_rfl) (fun x=>by kernel_rfl) (.cons (FD.lp n (aT_.r5 n) (by kernel_rfl) fun _ _=>by kernel_rfl) (.nil))
noncomputable def bv_.fs (n:Nat):bv_.d.Fs:=()
theorem bv_.ok (n:Nat):CxOk E (cx n bv_.d.nt)→KPar (cx n bv_.d.nt)→bv_.d.Ok E (bv_.F (n+1)) :=
 FD.ok (fs:=bv_.fs n) ba_ Tryz.func44 (by kernel_rfl) (by kernel_rfl) (by kernel_rfl) (by kernel_rfl) (fun _=>by kernel_rfl) (by kernel_rfl) (fun x=>by kernel_rfl) (.nil)
noncomputable def bM_.fs (n:Nat):bM_.d.Fs:=()
theorem bM_.ok (n:Nat):CxOk E (cx n bM_.d.nt)→KPar (cx n bM_.d.nt)→bM_.d.Ok E (bM_.F (n+1)) :=
 FD.ok (fs:=bM_.fs n) ba_ Tryz.func112 (by kernel_rfl) (by kernel_rfl) (by kernel_rfl) (by kernel_rfl) (fun _=>by kernel_rfl) (by kernel_rfl) (fun x=>by kernel_rfl) (.nil)
noncomputable def ay_.fs (n:Nat):ay_.d.Fs:=(fun _ κe=>ay_.loop7 n (ay_.o0.k (κe 0)) n,())
theorem ay_.r7 (n:Nat):ay_.d.Round (ay_.fs n) (cx n ay_.d.nt) (cm_ Tryz.f75) 7 ay_.p7 (fun κe=>ay_.step7 n (ay_.o0.k (κe 0))):=fun κ κe x y=>by kernel_rfl
theorem ay_.ok (n:Nat):CxOk E (cx n ay_.d.nt)→KPar (cx n ay_.d.nt)→ay_.d.Ok E (ay_.F (n+1)) :=
 FD.ok (fs:=ay_.fs n) ba_ Tryz.func75 (by kernel_rfl) (by kernel_rfl) (by kernel_rfl) (by kernel_rfl) (fun _=>by kernel_rfl) (by kernel_rfl) (fun x=>by kernel_rfl) (.cons (FD.lp n (ay_.r7 n) (by kernel_rfl) fun _ _=>by kernel_rfl) (.nil))
noncomputable def aL_.fs (n:Nat):aL_.d.Fs:=(fun _ κe=>aL_.loop7 n (aL_.o0.k (κe 0)) n,())
theorem aL_.r7 (n:Nat):aL_.d.Round (aL_.fs n) (cx n aL_.d.nt) (cm_ Tryz.f76) 7 aL_.p7 (fun κe=>aL_.step7 n (aL_.o0.k (κe 0))):=fun κ κe x y=>by kernel_rfl
theorem aL_.ok (n:Nat):CxOk E (cx n aL_.d.nt)→KPar (cx n aL_.d.nt)→aL_.d.Ok E (aL_.F (n+1)) :=
 FD.ok (fs:=aL_.fs n) ba_ Tryz.func76 (by kernel_rfl) (by kernel_rfl) (by kernel_rfl) (by kernel_rfl) (fun _=>by kernel_rfl) (by kernel_rfl) (fun x=>by kernel_rfl) (.cons (FD.lp n (aL_.r7 n) (by kernel_rfl) fun _ _=>by kernel_rfl) (.nil))
noncomputable def b3_.fs (n:Nat):b3_.d.Fs:=()
theorem b3_.ok (n:Nat):CxOk E (cx n b3_.d.nt)→KPar (cx n b3_.d.nt)→b3_.d.Ok E (b3_.F (n+1)) :=
 FD.ok (fs:=b3_.fs n) ba_ Tryz.func45 (by kernel_rfl) (by kernel_rfl) (by kernel_rfl) (by kernel_rfl) (fun _=>by kernel_rfl) (by kernel_rfl) (fun x=>by kernel_rfl) (.nil)
noncomputable def br_.fs (n:Nat):br_.d.Fs:=()
theorem br_.ok (n:Nat):CxOk E (cx n br_.d.nt)→KPar (cx n br_.d.nt)→br_.d.Ok E (br_.F (n+1)) :=
 FD.ok (fs:=br_.fs n) ba_ Tryz.func113 (by kernel_rfl) (by kernel_rfl) (by kernel_rfl) (by kernel_rfl) (fun _=>by kernel_rfl) (by kernel_rfl) (fun x=>by kernel_rfl) (.nil)
noncomputable def az_.fs (n:Nat):az_.d.Fs:=(fun _ κe=>az_.loop4 n (az_.o0.k (κe 0)) n,())
theorem az_.r4 (n:Nat):az_.d.Round (az_.fs n) (cx n az_.d.nt) (cm_ Tryz.f114) 4 az_.p4 (fun κe=>az_.step4 n (az_.o0.k (κe 0))):=fun κ κe x y=>by kernel_rfl
theorem az_.ok (n:Nat):CxOk E (cx n az_.d.nt)→KPar (cx n az_.d.nt)→az_.d.Ok E (az_.F (n+1)) :=
 FD.ok (fs:=az_.fs n) ba_ Tryz.func114 (by kernel_rfl) (by kernel_rfl) (by kernel_rfl) (by kernel_rfl) (fun _=>by kernel_rfl) (by kernel_rfl) (fun x=>by kernel_rfl) (.cons (FD.lp n (az_.r4 n) (by kernel_rfl) fun _ _=>by kernel_rfl) (.nil))
noncomputable def aP_.fs (n:Nat):aP_.d.Fs:=(fun _ κe=>aP_.loop8 n (bg_ n) (aP_.o0.k (κe 0)) n,())
theorem aP_.r8 (n:Nat):aP_.d.Round (aP_.fs n) (cx n aP_.d.nt) (cm_ Tryz.f115) 8 aP_.p8 (fun κe=>aP_.step8 n (bg_ n) (aP_.o0.k (κe 0))):=fun κ κe x y=>by kernel_rfl
theorem aP_.ok (n:Nat):CxOk E (cx n aP_.d.nt)→KPar (cx n aP_.d.nt)→aP_.d.Ok E (aP_.F (n+1)) :=
 FD.ok (fs:=aP_.fs n) ba_ Tryz.func115 (by kernel_rfl) (by kernel_rfl) (by kernel_rfl) (by kernel_rfl) (fun _=>by kernel_rfl) (by kernel_rfl) (fun x=>by kernel_rfl) (.cons (FD.lp n (aP_.r8 n) (by kernel_rfl) fun _ _=>by kernel_rfl) (.nil))
noncomputable def bg_.fs (n:Nat):bg_.d.Fs:=()
theorem bg_.ok (n:Nat):CxOk E (cx n bg_.d.nt)→KPar (cx n bg_.d.nt)→bg_.d.Ok E (bg_.F (n+1)) :=
 FD.ok (fs:=bg_.fs n) ba_ Tryz.func77 (by kernel_rfl) (by kernel_rfl) (by kernel_rfl) (by kernel_rfl) (fun _=>by kernel_rfl) (by kernel_rfl) (fun x=>by kernel_rfl) (.nil)
noncomputable def bd_.fs (n:Nat):bd_.d.Fs:=(fun _ κe=>bd_.loop3 n (bd_.o0.k (κe 0)) n,())
theorem bd_.r3 (n:Nat):bd_.d.Round (bd_.fs n) (cx n bd_.d.nt) (cm_ Tryz.f141) 3 bd_.p3 (fun κe=>bd_.step3 n (bd_.o0.k (κe 0))):=fun κ κe x y=>by kernel_rfl
theorem bd_.ok (n:Nat):CxOk E (cx n bd_.d.nt)→KPar (cx n bd_.d.nt)→bd_.d.Ok E (bd_.F (n+1)) :=
 FD.ok (fs:=bd_.fs n) ba_ Tryz.func141 (by kernel_rfl) (by kernel_rfl) (by kernel_rfl) (by kernel_rfl) (fun _=>by kernel_rfl) (by kernel_rfl) (fun x=>by kernel_rfl) (.cons (FD.lp n (bd_.r3 n) (by kernel_rfl) fun _ _=>by kernel_rfl) (.nil))
noncomputable def ad_.fs (n:Nat):ad_.d.Fs:=(fun _ κe=>ad_.loop6 n (ad_.o0.k (κe 0)) n,())
theorem ad_.r6 (n:Nat):ad_.d.Round (ad_.fs n) (cx n ad_.d.nt) (cm_ Tryz.f164) 6 ad_.p6 (fun κe=>ad_.step6 n (ad_.o0.k (κe 0))):=fun κ κe x y=>by kernel_rfl
theorem ad_.ok (n:Nat):CxOk E (cx n ad_.d.nt)→KPar (cx n ad_.d.nt)→ad_.d.Ok E (ad_.F (n+1)) :=
 FD.ok (fs:=ad_.fs n) ba_ Tryz.func164 (by kernel_rfl) (by kernel_rfl) (by kernel_rfl) (by kernel_rfl) (fun _=>by kernel_rfl) (by kernel_rfl) (fun x=>by kernel_rfl) (.cons (FD.lp n (ad_.r6 n) (by kernel_rfl) fun _ _=>by kernel_rfl) (.nil))
noncomputable def cs_.fs (n:Nat):cs_.d.Fs:=()
theorem cs_.ok (n:Nat):CxOk E (cx n cs_.d.nt)→KPar (cx n cs_.d.nt)→cs_.d.Ok E (cs_.F (n+1)) :=
 FD.ok (fs:=cs_.fs n) ba_ Tryz.func98 (by kernel_rfl) (by kernel_rfl) (by kernel_rfl) (by kernel_rfl) (fun _=>by kernel_rfl) (by kernel_rfl) (fun x=>by kernel_rfl) (.nil)
noncomputable def aG_.fs (n:Nat):aG_.d.Fs:=(fun _ κe=>aG_.loop23 n (aG_ n) (aG_.o1.k (κe 1)) n,())
theorem aG_.r23 (n:Nat):aG_.d.Round (aG_.fs n) (cx n aG_.d.nt) (cm_ Tryz.f131) 23 aG_.p23 (fun κe=>aG_.step23 n (aG_ n) (aG_.o1.k (κe 1))):=fun κ κe x y=>by kernel_rfl
theorem aG_.ok (n:Nat):CxOk E (cx n aG_.d.nt)→KPar (cx n aG_.d.nt)→aG_.d.Ok E (aG_.F (n+1)) :=
 FD.ok (fs:=aG_.fs n) ba_ Tryz.func131 (by kernel_rfl) (by kernel_rfl) (by kernel_rfl) (by kernel_rfl) (fun _=>by kernel_rfl) (by kernel_rfl) (fun x=>by kernel_rfl) (.cons (FD.lp n (aG_.r23 n) (by kernel_rfl) fun _ _=>by kernel_rfl) (.nil))
noncomputable def bV_.fs (n:Nat):bV_.d.Fs:=()
theorem bV_.ok (n:Nat):CxOk E (cx n bV_.d.nt)→KPar (cx n bV_.d.nt)→bV_.d.Ok E (bV_.F (n+1)) :=
 FD.ok (fs:=bV_.fs n) ba_ Tryz.func100 (by kernel_rfl) (by kernel_rfl) (by kernel_rfl) (by kernel_rfl) (fun _=>by kernel_rfl) (by kernel_rfl) (fun x=>by kernel_rfl) (.nil)
noncomputable def aZ_.fs (n:Nat):aZ_.d.Fs:=(fun _ κe=>aZ_.loop4 n (aZ_.o0.k (κe 0)) n,())
theorem aZ_.r4 (n:Nat):aZ_.d.Round (aZ_.fs n) (cx n aZ_.d.nt) (cm_ Tryz.f140) 4 aZ_.p4 (fun κe=>aZ_.step4 n (aZ_.o0.k (κe 0))):=fun κ κe x y=>by kernel_rfl
theorem aZ_.ok (n:Nat):CxOk E (cx n aZ_.d.nt)→KPar (cx n aZ_.d.nt)→aZ_.d.Ok E (aZ_.F (n+1)) :=
 FD.ok (fs:=aZ_.fs n) ba_ Tryz.func140 (by kernel_rfl) (by kernel_rfl) (by kernel_rfl) (by kernel_rfl) (fun _=>by kernel_rfl) (by kernel_rfl) (fun x=>by kernel_rfl) (.cons (FD.lp n (aZ_.r4 n) (by kernel_rfl) fun _ _=>by kernel_rfl) (.nil))
noncomputable def aC_.fs (n:Nat):aC_.d.Fs:=(fun _ κe=>aC_.loop17 n (aC_ n) (aC_.o1.k (κe 1)) n,())
theorem aC_.r17 (n:Nat):aC_.d.Round (aC_.fs n) (cx n aC_.d.nt) (cm_ Tryz.f116) 17 aC_.p17 (fun κe=>aC_.step17 n (aC_ n) (aC_.o1.k (κe 1))):=fun κ κe x y=>by kernel_rfl
theorem aC_.ok (n:Nat):CxOk E (cx n aC_.d.nt)→KPar (cx n aC_.d.nt)→aC_.d.Ok E (aC_.F (n+1)) :=
 FD.ok (fs:=aC_.fs n) ba_ Tryz.func116 (by kernel_rfl) (by kernel_rfl) (by kernel_rfl) (by kernel_rfl) (fun _=>by kernel_rfl) (by kernel_rfl) (fun x=>by kernel_rfl) (.cons (FD.lp n (aC_.r17 n) (by kernel_rfl) fun _ _=>by kernel_rfl) (.nil))
noncomputable def b0_.fs (n:Nat):b0_.d.Fs:=()
theorem b0_.ok (n:Nat):CxOk E (cx n b0_.d.nt)→KPar (cx n b0_.d.nt)→b0_.d.Ok E (b0_.F (n+1)) :=
 FD.ok (fs:=b0_.fs n) ba_ Tryz.func78 (by kernel_rfl) (by kernel_rfl) (by kernel_rfl) (by kernel_rfl) (fun _=>by kernel_rfl) (by kernel_rfl) (fun x=>by kernel_rfl) (.nil)
noncomputable def b9_.fs (n:Nat):b9_.d.Fs:=()
theorem b9_.ok (n:Nat):CxOk E (cx n b9_.d.nt)→KPar (cx n b9_.d.nt)→b9_.d.Ok E (b9_.F (n+1)) :=
 FD.ok (fs:=b9_.fs n) ba_ Tryz.func46 (by kernel_rfl) (by kernel_rfl) (by kernel_rfl) (by kernel_rfl) (fun _=>by kernel_rfl) (by kernel_rfl) (fun x=>by kernel_rfl) (.nil)
noncomputable def bw_.fs (n:Nat):bw_.d.Fs:=(fun _ κe=>bw_.loop3 n (bw_.o0.k (κe 0)) n,())
theorem bw_.r3 (n:Nat):bw_.d.Round (bw_.fs n) (cx n bw_.d.nt) (cm_ Tryz.f117) 3 bw_.p3 (fun κe=>bw_.step3 n (bw_.o0.k (κe 0))):=fun κ κe x y=>by kernel_rfl
theorem bw_.ok (n:Nat):CxOk E (cx n bw_.d.nt)→KPar (cx n bw_.d.nt)→bw_.d.Ok E (bw_.F (n+1)) :=
 FD.ok (fs:=bw_.fs n) ba_ Tryz.func117 (by kernel_rfl) (by kernel_rfl) (by kernel_rfl) (by kernel_rfl) (fun _=>by kernel_rfl) (by kernel_rfl) (fun x=>by kernel_rfl) (.cons (FD.lp n (bw_.r3 n) (by kernel_rfl) fun _ _=>by kernel_rfl) (.nil))
noncomputable def a9_.fs (n:Nat):a9_.d.Fs:=(fun _ κe=>a9_.loop4 n (a9_ n) (a9_.o0.k (κe 0)) n,())
theorem a9_.r4 (n:Nat):a9_.d.Round (a9_.fs n) (cx n a9_.d.nt) (cm_ Tryz.f61) 4 a9_.p4 (fun κe=>a9_.step4 n (a9_ n) (a9_.o0.k (κe 0))):=fun κ κe x y=>by kernel_rfl
theorem a9_.ok (n:Nat):CxOk E (cx n a9_.d.nt)→KPar (cx n a9_.d.nt)→a9_.d.Ok E (a9_.F (n+1)) :=
 FD.ok (fs:=a9_.fs n) ba_ Tryz.func61 (by kernel_rfl) (by kernel_rfl) (by kernel_rfl) (by kernel_rfl) (fun _=>by kernel_rfl) (by kernel_rfl) (fun x=>by kernel_rfl) (.cons (FD.lp n (a9_.r4 n) (by kernel_rfl) fun _ _=>by kernel_rfl) (.nil))
noncomputable def cj_.fs (n:Nat):cj_.d.Fs:=()
theorem cj_.ok (n:Nat):CxOk E (cx n cj_.d.nt)→KPar (cx n cj_.d.nt)→cj_.d.Ok E (cj_.F (n+1)) :=
 FD.ok (fs:=cj_.fs n) ba_ Tryz.func79 (by kernel_rfl) (by kernel_rfl) (by kernel_rfl) (by kernel_rfl) (fun _=>by kernel_rfl) (by kernel_rfl) (fun x=>by kernel_rfl) (.nil)
noncomputable def bS_.fs (n:Nat):bS_.d.Fs:=()
theorem bS_.ok (n:Nat):CxOk E (cx n bS_.d.nt)→KPar (cx n bS_.d.nt)→bS_.d.Ok E (bS_.F (n+1)) :=
 FD.ok (fs:=bS_.fs n) ba_ Tryz.func80 (by kernel_rfl) (by kernel_rfl) (by kernel_rfl) (by kernel_rfl) (fun _=>by kernel_rfl) (by kernel_rfl) (fun x=>by kernel_rfl) (.nil)
noncomputable def aN_.fs (n:Nat):aN_.d.Fs:=(fun _ κe=>aN_.loop6 n (aN_.o0.k (κe 0)) n,())
theorem aN_.r6 (n:Nat):aN_.d.Round (aN_.fs n) (cx n aN_.d.nt) (cm_ Tryz.f81) 6 aN_.p6 (fun κe=>aN_.step6 n (aN_.o0.k (κe 0))):=fun κ κe x y=>by kernel_rfl
theorem aN_.ok (n:Nat):CxOk E (cx n aN_.d.nt)→KPar (cx n aN_.d.nt)→aN_.d.Ok E (aN_.F (n+1)) :=
 FD.ok (fs:=aN_.fs n) ba_ Tryz.func81 (by kernel_rfl) (by kernel_rfl) (by kernel_rfl) (by kernel_rfl) (fun _=>by kernel_rfl) (by kernel_rfl) (fun x=>by kernel_rfl) (.cons (FD.lp n (aN_.r6 n) (by kernel_rfl) fun _ _=>by kernel_rfl) (.nil))
noncomputable def ah_.fs (n:Nat):ah_.d.Fs:=(fun _ κe=>ah_.loop6 n (ah_ n) (ah_.o0.k (κe 0)) n,fun _ κe=>ah_.loop14 n (ah_ n) (ah_.o2.k (κe 2)) n,())
theorem ah_.r14 (n:Nat):ah_.d.Round (ah_.fs n) (cx n ah_.d.nt) (cm_ Tryz.f99) 14 ah_.p14 (fun κe=>ah_.step14 n (ah_ n) (ah_.o2.k (κe 2))):=fun κ κe x y=>by kernel_rfl
theorem ah_.r6 (n:Nat):ah_.d.Round (ah_.fs n) (cx n ah_.d.nt) (cm_ Tryz.f99) 6 ah_.p6 (fun κe=>ah_.step6 n (ah_ n) (ah_.o0.k (κe 0))):=fun κ κe x y=>by kernel_rfl
theorem ah_.ok (n:Nat):CxOk E (cx n ah_.d.nt)→KPar (cx n ah_.d.nt)→ah_.d.Ok E (ah_.F (n+1)) :=
 FD.ok (fs:=ah_.fs n) ba_ Tryz.func99 (by kernel_rfl) (by kernel_rfl) (by kernel_rfl) (by kernel_rfl) (fun _=>by kernel_rfl) (by kernel_rfl) (fun x=>by kernel_rfl) (.cons (FD.lp n (ah_.r6 n) (by kernel_rfl) fun _ _=>by kernel_rfl) (.cons (FD.lp n (ah_.r14 n) (by kernel_rfl) fun _ _=>by kernel_rfl) (.nil)))
noncomputable def bt_.fs (n:Nat):bt_.d.Fs:=(fun _ κe=>bt_.loop6 n (bt_.o0.k (κe 0)) n,())
theorem bt_.r6 (n:Nat):bt_.d.Round (bt_.fs n) (cx n bt_.d.nt) (cm_ Tryz.f118) 6 bt_.p6 (fun κe=>bt_.step6 n (bt_.o0.k (κe 0))):=fun κ κe x y=>by kernel_rfl
theorem bt_.ok (n:Nat):CxOk E (cx n bt_.d.nt)→KPar (cx n bt_.d.nt)→bt_.d.Ok E (bt_.F (n+1)) :=
 FD.ok (fs:=bt_.fs n) ba_ Tryz.func118 (by kernel_rfl) (by kernel_rfl) (by kernel_rfl) (by kernel_rfl) (fun _=>by kernel_rfl) (by kernel_rfl) (fun x=>by kernel_rfl) (.cons (FD.lp n (bt_.r6 n) (by kernel_rfl) fun _ _=>by kernel_rfl) (.nil))
noncomputable def as_.fs (n:Nat):as_.d.Fs:=(fun _ κe=>as_.loop10 n (as_.o2.k (κe 2)) n,fun _ κe=>as_.loop4 n (as_.o0.k (κe 0)) n,())
theorem as_.r4 (n:Nat):as_.d.Round (as_.fs n) (cx n as_.d.nt) (cm_ Tryz.f119) 4 as_.p4 (fun κe=>as_.step4 n (as_.o0.k (κe 0))):=fun κ κe x y=>by kernel_rfl
theorem as_.r10 (n:Nat):as_.d.Round (as_.fs n) (cx n as_.d.nt) (cm_ Tryz.f119) 10 as_.p10 (fun κe=>as_.step10 n (as_.o2.k (κe 2))):=fun κ κe x y=>by kernel_rfl
theorem as_.ok (n:Nat):CxOk E (cx n as_.d.nt)→KPar (cx n as_.d.nt)→as_.d.Ok E (as_.F (n+1)) :=
 FD.ok (fs:=as_.fs n) ba_ Tryz.func119 (by kernel_rfl) (by kernel_rfl) (by kernel_rfl) (by kernel_rfl) (fun _=>by kernel_rfl) (by kernel_rfl) (fun x=>by kernel_rfl) (.cons (FD.lp n (as_.r10 n) (by kernel_rfl) fun _ _=>by kernel_rfl) (.cons (FD.lp n (as_.r4 n) (by kernel_rfl) fun _ _=>by kernel_rfl) (.nil)))
noncomputable def bk_.fs (n:Nat):bk_.d.Fs:=(fun _ κe=>bk_.loop5 n (bk_.o0.k (κe 0)) n,())
theorem bk_.r5 (n:Nat):bk_.d.Round (bk_.fs n) (cx n bk_.d.nt) (cm_ Tryz.f120) 5 bk_.p5 (fun κe=>bk_.step5 n (bk_.o0.k (κe 0))):=fun κ κe x y=>by kernel_rfl
theorem bk_.ok (n:Nat):CxOk E (cx n bk_.d.nt)→KPar (cx n bk_.d.nt)→bk_.d.Ok E (bk_.F (n+1)) :=
 FD.ok (fs:=bk_.fs n) ba_ Tryz.func120 (by kernel_rfl) (by kernel_rfl) (by kernel_rfl) (by kernel_rfl) (fun _=>by kernel_rfl) (by kernel_rfl) (fun x=>by kernel_rfl) (.cons (FD.lp n (bk_.r5 n) (by kernel_rfl) fun _ _=>by kernel_rfl) (.nil))
noncomputable def cf_.fs (n:Nat):cf_.d.Fs:=()
theorem cf_.ok (n:Nat):CxOk E (cx n cf_.d.nt)→KPar (cx n cf_.d.nt)→cf_.d.Ok E (cf_.F (n+1)) :=
 FD.ok (fs:=cf_.fs n) ba_ Tryz.func83 (by kernel_rfl) (by kernel_rfl) (by kernel_rfl) (by kernel_rfl) (fun _=>by kernel_rfl) (by kernel_rfl) (fun x=>by kernel_rfl) (.nil)
noncomputable def bX_.fs (n:Nat):bX_.d.Fs:=()
theorem bX_.ok (n:Nat):CxOk E (cx n bX_.d.nt)→KPar (cx n bX_.d.nt)→bX_.d.Ok E (bX_.F (n+1)) :=
 FD.ok (fs:=bX_.fs n) ba_ Tryz.func82 (by kernel_rfl) (by kernel_rfl) (by kernel_rfl) (by kernel_rfl) (fun _=>by kernel_rfl) (by kernel_rfl) (fun x=>by kernel_rfl) (.nil)
noncomputable def aK_.fs (n:Nat):aK_.d.Fs:=(fun _ κe=>aK_.loop7 n (aK_.o0.k (κe 0)) n,fun _ _=>aK_.tail15 n,())
theorem aK_.r15 (n:Nat):aK_.d.Tail (aK_.fs n) (cx n aK_.d.nt) (cm_ Tryz.f47) 15 aK_.p15 (fun κd κe=>aK_.tail15 n):=fun κd κe x y=>by kernel_rfl
theorem aK_.r7 (n:Nat):aK_.d.Round (aK_.fs n) (cx n aK_.d.nt) (cm_ Tryz.f47) 7 aK_.p7 (fun κe=>aK_.step7 n (aK_.o0.k (κe 0))):=fun κ κe x y=>by kernel_rfl
theorem aK_.ok (n:Nat):CxOk E (cx n aK_.d.nt)→KPar (cx n aK_.d.nt)→aK_.d.Ok E (aK_.F (n+1)) :=
 FD.ok (fs:=aK_.fs n) ba_ Tryz.func47 (by kernel_rfl) (by kernel_rfl) (by kernel_rfl) (by kernel_rfl) (fun _=>by kernel_rfl) (by kernel_rfl) (fun x=>by kernel_rfl) (.cons (FD.lp n (aK_.r7 n) (by kernel_rfl) fun _ _=>by kernel_rfl) (.cons (FD.tl (aK_.r15 n) (by kernel_rfl)) (.nil)))
noncomputable def bc_.fs (n:Nat):bc_.d.Fs:=(fun _ κe=>bc_.loop4 n (bc_.o0.k (κe 0)) n,())
theorem bc_.r4 (n:Nat):bc_.d.Round (bc_.fs n) (cx n bc_.d.nt) (cm_ Tryz.f84) 4 bc_.p4 (fun κe=>bc_.step4 n (bc_.o0.k (κe 0))):=fun κ κe x y=>by kernel_rfl
theorem bc_.ok (n:Nat):CxOk E (cx n bc_.d.nt)→KPar (cx n bc_.d.nt)→bc_.d.Ok E (bc_.F (n+1)) :=
 FD.ok (fs:=bc_.fs n) ba_ Tryz.func84 (by kernel_rfl) (by kernel_rfl) (by kernel_rfl) (by kernel_rfl) (fun _=>by kernel_rfl) (by kernel_rfl) (fun x=>by kernel_rfl) (.cons (FD.lp n (bc_.r4 n) (by kernel_rfl) fun _ _=>by kernel_rfl) (.nil))
noncomputable def b5_.fs (n:Nat):b5_.d.Fs:=()
theorem b5_.ok (n:Nat):CxOk E (cx n b5_.d.nt)→KPar (cx n b5_.d.nt)→b5_.d.Ok E (b5_.F (n+1)) :=
 FD.ok (fs:=b5_.fs n) ba_ Tryz.func60 (by kernel_rfl) (by kernel_rfl) (by kernel_rfl) (by kernel_rfl) (fun _=>by kernel_rfl) (by kernel_rfl) (fun x=>by kernel_rfl) (.nil)
noncomputable def bH_.fs (n:Nat):bH_.d.Fs:=()
theorem bH_.ok (n:Nat):CxOk E (cx n bH_.d.nt)→KPar (cx n bH_.d.nt)→bH_.d.Ok E (bH_.F (n+1)) :=
 FD.ok (fs:=bH_.fs n) ba_ Tryz.func48 (by kernel_rfl) (by kernel_rfl) (by kernel_rfl) (by kernel_rfl) (fun _=>by kernel_rfl) (by kernel_rfl) (fun x=>by kernel_rfl) (.nil)
noncomputable def ac_.fs (n:Nat):ac_.d.Fs:=(fun _ κe=>ac_.loop20 n (ac_.o3.k (κe 3)) n,fun _ κe=>ac_.loop5 n (ac_.o0.k (κe 0)) n,())
theorem ac_.r5 (n:Nat):ac_.d.Round (ac_.fs n) (cx n ac_.d.nt) (cm_ Tryz.f9) 5 ac_.p5 (fun κe=>ac_.step5 n (ac_.o0.k (κe 0))):=fun κ κe x y=>by kernel_rfl
theorem ac_.r20 (n:Nat):ac_.d.Round (ac_.fs n) (cx n ac_.d.nt) (cm_ Tryz.f9) 20 ac_.p20 (fun κe=>ac_.step20 n (ac_.o3.k (κe 3))):=fun κ κe x y=>by kernel_rfl
theorem ac_.ok (n:Nat):CxOk E (cx n ac_.d.nt)→KPar (cx n ac_.d.nt)→ac_.d.Ok E (ac_.F (n+1)) :=
 FD.ok (fs:=ac_.fs n) ba_ Tryz.func9 (by kernel_rfl) (by kernel_rfl) (by kernel_rfl) (by kernel_rfl) (fun _=>by kernel_rfl) (by kernel_rfl) (fun x=>by kernel_rfl) (.cons (FD.lp n (ac_.r20 n) (by kernel_rfl) fun _ _=>by kernel_rfl) (.cons (FD.lp n (ac_.r5 n) (by kernel_rfl) fun _ _=>by kernel_rfl) (.nil)))
noncomputable def bq_.fs (n:Nat):bq_.d.Fs:=(fun _ κe=>bq_.loop8 n (bq_.o0.k (κe 0)) n,())
theorem bq_.r8 (n:Nat):bq_.d.Round (bq_.fs n) (cx n bq_.d.nt) (cm_ Tryz.f30) 8 bq_.p8 (fun κe=>bq_.step8 n (bq_.o0.k (κe 0))):=fun κ κe x y=>by kernel_rfl
theorem bq_.ok (n:Nat):CxOk E (cx n bq_.d.nt)→KPar (cx n bq_.d.nt)→bq_.d.Ok E (bq_.F (n+1)) :=
 FD.ok (fs:=bq_.fs n) ba_ Tryz.func30 (by kernel_rfl) (by kernel_rfl) (by kernel_rfl) (by kernel_rfl) (fun _=>by kernel_rfl) (by kernel_rfl) (fun x=>by kernel_rfl) (.cons (FD.lp n (bq_.r8 n) (by kernel_rfl) fun _ _=>by kernel_rfl) (.nil))
noncomputable def ax_.fs (n:Nat):ax_.d.Fs:=()
theorem ax_.ok (n:Nat):CxOk E (cx n ax_.d.nt)→KPar (cx n ax_.d.nt)→ax_.d.Ok E (ax_.F (n+1)) :=
 FD.ok (fs:=ax_.fs n) ba_ Tryz.func142 (by kernel_rfl) (by kernel_rfl) (by kernel_rfl) (by kernel_rfl) (fun _=>by kernel_rfl) (by kernel_rfl) (fun x=>by kernel_rfl) (.nil)
noncomputable def aE_.fs (n:Nat):aE_.d.Fs:=()
theorem aE_.ok (n:Nat):CxOk E (cx n aE_.d.nt)→KPar (cx n aE_.d.nt)→aE_.d.Ok E (aE_.F (n+1)) :=
 FD.ok (fs:=aE_.fs n) ba_ Tryz.func121 (by kernel_rfl) (by kernel_rfl) (by kernel_rfl) (by kernel_rfl) (fun _=>by kernel_rfl) (by kernel_rfl) (fun x=>by kernel_rfl) (.nil)
noncomputable def bp_.fs (n:Nat):bp_.d.Fs:=()
theorem bp_.ok (n:Nat):CxOk E (cx n bp_.d.nt)→KPar (cx n bp_.d.nt)→bp_.d.Ok E (bp_.F (n+1)) :=
 FD.ok (fs:=bp_.fs n) ba_ Tryz.func85 (by kernel_rfl) (by kernel_rfl) (by kernel_rfl) (by kernel_rfl) (fun _=>by kernel_rfl) (by kernel_rfl) (fun x=>by kernel_rfl) (.nil)
noncomputable def aY_.fs (n:Nat):aY_.d.Fs:=()
theorem aY_.ok (n:Nat):CxOk E (cx n aY_.d.nt)→KPar (cx n aY_.d.nt)→aY_.d.Ok E (aY_.F (n+1)) :=
 FD.ok (fs:=aY_.fs n) ba_ Tryz.func143 (by kernel_rfl) (by kernel_rfl) (by kernel_rfl) (by kernel_rfl) (fun _=>by kernel_rfl) (by kernel_rfl) (fun x=>by kernel_rfl) (.nil)
noncomputable def cn_.fs (n:Nat):cn_.d.Fs:=()
theorem cn_.ok (n:Nat):CxOk E (cx n cn_.d.nt)→KPar (cx n cn_.d.nt)→cn_.d.Ok E (cn_.F (n+1)) :=
 FD.ok (fs:=cn_.fs n) ba_ Tryz.func122 (by kernel_rfl) (by kernel_rfl) (by kernel_rfl) (by kernel_rfl) (fun _=>by kernel_rfl) (by kernel_rfl) (fun x=>by kernel_rfl) (.nil)
noncomputable def aA_.fs (n:Nat):aA_.d.Fs:=()
theorem aA_.ok (n:Nat):CxOk E (cx n aA_.d.nt)→KPar (cx n aA_.d.nt)→aA_.d.Ok E (aA_.F (n+1)) :=
 FD.ok (fs:=aA_.fs n) ba_ Tryz.func126 (by kernel_rfl) (by kernel_rfl) (by kernel_rfl) (by kernel_rfl) (fun _=>by kernel_rfl) (by kernel_rfl) (fun x=>by kernel_rfl) (.nil)
noncomputable def bl_.fs (n:Nat):bl_.d.Fs:=()
theorem bl_.ok (n:Nat):CxOk E (cx n bl_.d.nt)→KPar (cx n bl_.d.nt)→bl_.d.Ok E (bl_.F (n+1)) :=
 FD.ok (fs:=bl_.fs n) ba_ Tryz.func89 (by kernel_rfl) (by kernel_rfl) (by kernel_rfl) (by kernel_rfl) (fun _=>by kernel_rfl) (by kernel_rfl) (fun x=>by kernel_rfl) (.nil)
noncomputable def b8_.fs (n:Nat):b8_.d.Fs:=()
theorem b8_.ok (n:Nat):CxOk E (cx n b8_.d.nt)→KPar (cx n b8_.d.nt)→b8_.d.Ok E (b8_.F (n+1)) :=
 FD.ok (fs:=b8_.fs n) ba_ Tryz.func86 (by kernel_rfl) (by kernel_rfl) (by kernel_rfl) (by kernel_rfl) (fun _=>by kernel_rfl) (by kernel_rfl) (fun x=>by kernel_rfl) (.nil)
noncomputable def a5_.fs (n:Nat):a5_.d.Fs:=()
theorem a5_.ok (n:Nat):CxOk E (cx n a5_.d.nt)→KPar (cx n a5_.d.nt)→a5_.d.Ok E (a5_.F (n+1)) :=
 FD.ok (fs:=a5_.fs n) ba_ Tryz.func149 (by kernel_rfl) (by kernel_rfl) (by kernel_rfl) (by kernel_rfl) (fun _=>by kernel_rfl) (by kernel_rfl) (fun x=>by kernel_rfl) (.nil)
noncomputable def bs_.fs (n:Nat):bs_.d.Fs:=()
theorem bs_.ok (n:Nat):CxOk E (cx n bs_.d.nt)→KPar (cx n bs_.d.nt)→bs_.d.Ok E (bs_.F (n+1)) :=
 FD.ok (fs:=bs_.fs n) ba_ Tryz.func150 (by kernel_rfl) (by kernel_rfl) (by kernel_rfl) (by kernel_rfl) (fun _=>by kernel_rfl) (by kernel_rfl) (fun x=>by kernel_rfl) (.nil)
noncomputable def bi_.fs (n:Nat):bi_.d.Fs:=()
theorem bi_.ok (n:Nat):CxOk E (cx n bi_.d.nt)→KPar (cx n bi_.d.nt)→bi_.d.Ok E (bi_.F (n+1)) :=
 FD.ok (fs:=bi_.fs n) ba_ Tryz.func179 (by kernel_rfl) (by kernel_rfl) (by kernel_rfl) (by kernel_rfl) (fun _=>by kernel_rfl) (by kernel_rfl) (fun x=>by kernel_rfl) (.nil)
noncomputable def ai_.fs (n:Nat):ai_.d.Fs:=(fun _ κe=>ai_.loop4 n (ai_.o0.k (κe 0)) n,())
theorem ai_.r4 (n:Nat):ai_.d.Round (ai_.fs n) (cx n ai_.d.nt) (cm_ Tryz.f151) 4 ai_.p4 (fun κe=>ai_.step4 n (ai_.o0.k (κe 0))):=fun κ κe x y=>by kernel_rfl
theorem ai_.ok (n:Nat):CxOk E (cx n ai_.d.nt)→KPar (cx n ai_.d.nt)→ai_.d.Ok E (ai_.F (n+1)) :=
 FD.ok (fs:=ai_.fs n) ba_ Tryz.func151 (by kernel_rfl) (by kernel_rfl) (by kernel_rfl) (by kernel_rfl) (fun _=>by kernel_rfl) (by kernel_rfl) (fun x=>by kernel_rfl) (.cons (FD.lp n (ai_.r4 n) (by kernel_rfl) fun _ _=>by kernel_rfl) (.nil))
noncomputable def af_.fs (n:Nat):af_.d.Fs:=(fun _ κe=>af_.loop7 n (aI_ n) (af_.o0.k (κe 0)) n,())
theorem af_.r7 (n:Nat):af_.d.Round (af_.fs n) (cx n af_.d.nt) (cm_ Tryz.f152) 7 af_.p7 (fun κe=>af_.step7 n (aI_ n) (af_.o0.k (κe 0))):=fun κ κe x y=>by kernel_rfl
theorem af_.ok (n:Nat):CxOk E (cx n af_.d.nt)→KPar (cx n af_.d.nt)→af_.d.Ok E (af_.F (n+1)) :=
 FD.ok (fs:=af_.fs n) ba_ Tryz.func152 (by kernel_rfl) (by kernel_rfl) (by kernel_rfl) (by kernel_rfl) (fun _=>by kernel_rfl) (by kernel_rfl) (fun x=>by kernel_rfl) (.cons (FD.lp n (af_.r7 n) (by kernel_rfl) fun _ _=>by kernel_rfl) (.nil))
noncomputable def aS_.fs (n:Nat):aS_.d.Fs:=()
theorem aS_.ok (n:Nat):CxOk E (cx n aS_.d.nt)→KPar (cx n aS_.d.nt)→aS_.d.Ok E (aS_.F (n+1)) :=
 FD.ok (fs:=aS_.fs n) ba_ Tryz.func105 (by kernel_rfl) (by kernel_rfl) (by kernel_rfl) (by kernel_rfl) (fun _=>by kernel_rfl) (by kernel_rfl) (fun x=>by kernel_rfl) (.nil)
noncomputable def ag_.fs (n:Nat):ag_.d.Fs:=(fun _ κe=>ag_.loop3 n (ag_.o0.k (κe 0)) n,())
theorem ag_.r3 (n:Nat):ag_.d.Round (ag_.fs n) (cx n ag_.d.nt) (cm_ Tryz.f153) 3 ag_.p3 (fun κe=>ag_.step3 n (ag_.o0.k (κe 0))):=fun κ κe x y=>by kernel_rfl
theorem ag_.ok (n:Nat):CxOk E (cx n ag_.d.nt)→KPar (cx n ag_.d.nt)→ag_.d.Ok E (ag_.F (n+1)) :=
 FD.ok (fs:=ag_.fs n) ba_ Tryz.func153 (by kernel_rfl) (by kernel_rfl) (by kernel_rfl) (by kernel_rfl) (fun _=>by kernel_rfl) (by kernel_rfl) (fun x=>by kernel_rfl) (.cons (FD.lp n (ag_.r3 n) (by kernel_rfl) fun _ _=>by kernel_rfl) (.nil))
noncomputable def aI_.fs (n:Nat):aI_.d.Fs:=()
theorem aI_.ok (n:Nat):CxOk E (cx n aI_.d.nt)→KPar (cx n aI_.d.nt)→aI_.d.Ok E (aI_.F (n+1)) :=
 FD.ok (fs:=aI_.fs n) ba_ Tryz.func125 (by kernel_rfl) (by kernel_rfl) (by kernel_rfl) (by kernel_rfl) (fun _=>by kernel_rfl) (by kernel_rfl) (fun x=>by kernel_rfl) (.nil)
noncomputable def bf_.fs (n:Nat):bf_.d.Fs:=()
theorem bf_.ok (n:Nat):CxOk E (cx n bf_.d.nt)→KPar (cx n bf_.d.nt)→bf_.d.Ok E (bf_.F (n+1)) :=
 FD.ok (fs:=bf_.fs n) ba_ Tryz.func189 (by kernel_rfl) (by kernel_rfl) (by kernel_rfl) (by kernel_rfl) (fun _=>by kernel_rfl) (by kernel_rfl) (fun x=>by kernel_rfl) (.nil)
noncomputable def au_.fs (n:Nat):au_.d.Fs:=(fun _ κe=>au_.loop3 n (au_.o0.k (κe 0)) n,())
theorem au_.r3 (n:Nat):au_.d.Round (au_.fs n) (cx n au_.d.nt) (cm_ Tryz.f169) 3 au_.p3 (fun κe=>au_.step3 n (au_.o0.k (κe 0))):=fun κ κe x y=>by kernel_rfl
theorem au_.ok (n:Nat):CxOk E (cx n au_.d.nt)→KPar (cx n au_.d.nt)→au_.d.Ok E (au_.F (n+1)) :=
 FD.ok (fs:=au_.fs n) ba_ Tryz.func169 (by kernel_rfl) (by kernel_rfl) (by kernel_rfl) (by kernel_rfl) (fun _=>by kernel_rfl) (by kernel_rfl) (fun x=>by kernel_rfl) (.cons (FD.lp n (au_.r3 n) (by kernel_rfl) fun _ _=>by kernel_rfl) (.nil))
noncomputable def ao_.fs (n:Nat):ao_.d.Fs:=(fun _ κe=>ao_.loop3 n (ao_.o0.k (κe 0)) n,())
theorem ao_.r3 (n:Nat):ao_.d.Round (ao_.fs n) (cx n ao_.d.nt) (cm_ Tryz.f190) 3 ao_.p3 (fun κe=>ao_.step3 n (ao_.o0.k (κe 0))):=fun κ κe x y=>by kernel_rfl
theorem ao_.ok (n:Nat):CxOk E (cx n ao_.d.nt)→KPar (cx n ao_.d.nt)→ao_.d.Ok E (ao_.F (n+1)) :=
 FD.ok (fs:=ao_.fs n) ba_ Tryz.func190 (by kernel_rfl) (by kernel_rfl) (by kernel_rfl) (by kernel_rfl) (fun _=>by kernel_rfl) (by kernel_rfl) (fun x=>by kernel_rfl) (.cons (FD.lp n (ao_.r3 n) (by kernel_rfl) fun _ _=>by kernel_rfl) (.nil))
noncomputable def ct_.fs (n:Nat):ct_.d.Fs:=()
theorem ct_.ok (n:Nat):CxOk E (cx n ct_.d.nt)→KPar (cx n ct_.d.nt)→ct_.d.Ok E (ct_.F (n+1)) :=
 FD.ok (fs:=ct_.fs n) ba_ Tryz.func168 (by kernel_rfl) (by kernel_rfl) (by kernel_rfl) (by kernel_rfl) (fun _=>by kernel_rfl) (by kernel_rfl) (fun x=>by kernel_rfl) (.nil)
noncomputable def a1_.fs (n:Nat):a1_.d.Fs:=(fun _ κe=>a1_.loop7 n (a1_ n) (a1_.o0.k (κe 0)) n,())
theorem a1_.r7 (n:Nat):a1_.d.Round (a1_.fs n) (cx n a1_.d.nt) (cm_ Tryz.f133) 7 a1_.p7 (fun κe=>a1_.step7 n (a1_ n) (a1_.o0.k (κe 0))):=fun κ κe x y=>by kernel_rfl
theorem a1_.ok (n:Nat):CxOk E (cx n a1_.d.nt)→KPar (cx n a1_.d.nt)→a1_.d.Ok E (a1_.F (n+1)) :=
 FD.ok (fs:=a1_.fs n) ba_ Tryz.func133 (by kernel_rfl) (by kernel_rfl) (by kernel_rfl) (by kernel_rfl) (fun _=>by kernel_rfl) (by kernel_rfl) (fun x=>by kernel_rfl) (.cons (FD.lp n (a1_.r7 n) (by kernel_rfl) fun _ _=>by kernel_rfl) (.nil))
noncomputable def bW_.fs (n:Nat):bW_.d.Fs:=()
theorem bW_.ok (n:Nat):CxOk E (cx n bW_.d.nt)→KPar (cx n bW_.d.nt)→bW_.d.Ok E (bW_.F (n+1)) :=
 FD.ok (fs:=bW_.fs n) ba_ Tryz.func109 (by kernel_rfl) (by kernel_rfl) (by kernel_rfl) (by kernel_rfl) (fun _=>by kernel_rfl) (by kernel_rfl) (fun x=>by kernel_rfl) (.nil)
noncomputable def be_.fs (n:Nat):be_.d.Fs:=(fun _ κe=>be_.loop4 n (be_.o0.k (κe 0)) n,())
theorem be_.r4 (n:Nat):be_.d.Round (be_.fs n) (cx n be_.d.nt) (cm_ Tryz.f160) 4 be_.p4 (fun κe=>be_.step4 n (be_.o0.k (κe 0))):=fun κ κe x y=>by kernel_rfl
theorem be_.ok (n:Nat):CxOk E (cx n be_.d.nt)→KPar (cx n be_.d.nt)→be_.d.Ok E (be_.F (n+1)) :=
 FD.ok (fs:=be_.fs n) ba_ Tryz.func160 (by kernel_rfl) (by kernel_rfl) (by kernel_rfl) (by kernel_rfl) (fun _=>by kernel_rfl) (by kernel_rfl) (fun x=>by kernel_rfl) (.cons (FD.lp n (be_.r4 n) (by kernel_rfl) fun _ _=>by kernel_rfl) (.nil))
noncomputable def aR_.fs (n:Nat):aR_.d.Fs:=(fun _ κe=>aR_.loop4 n (aR_ n) (aR_.o0.k (κe 0)) n,())
theorem aR_.r4 (n:Nat):aR_.d.Round (aR_.fs n) (cx n aR_.d.nt) (cm_ Tryz.f129) 4 aR_.p4 (fun κe=>aR_.step4 n (aR_ n) (aR_.o0.k (κe 0))):=fun κ κe x y=>by kernel_rfl
theorem aR_.ok (n:Nat):CxOk E (cx n aR_.d.nt)→KPar (cx n aR_.d.nt)→aR_.d.Ok E (aR_.F (n+1)) :=
 FD.ok (fs:=aR_.fs n) ba_ Tryz.func129 (by kernel_rfl) (by kernel_rfl) (by kernel_rfl) (by kernel_rfl) (fun _=>by kernel_rfl) (by kernel_rfl) (fun x=>by kernel_rfl) (.cons (FD.lp n (aR_.r4 n) (by kernel_rfl) fun _ _=>by kernel_rfl) (.nil))
noncomputable def b2_.fs (n:Nat):b2_.d.Fs:=()
theorem b2_.ok (n:Nat):CxOk E (cx n b2_.d.nt)→KPar (cx n b2_.d.nt)→b2_.d.Ok E (b2_.F (n+1)) :=
 FD.ok (fs:=b2_.fs n) ba_ Tryz.func92 (by kernel_rfl) (by kernel_rfl) (by kernel_rfl) (by kernel_rfl) (fun _=>by kernel_rfl) (by kernel_rfl) (fun x=>by kernel_rfl) (.nil)
noncomputable def b4_.fs (n:Nat):b4_.d.Fs:=()
theorem b4_.ok (n:Nat):CxOk E (cx n b4_.d.nt)→KPar (cx n b4_.d.nt)→b4_.d.Ok E (b4_.F (n+1)) :=
 FD.ok (fs:=b4_.fs n) ba_ Tryz.func88 (by kernel_rfl) (by kernel_rfl) (by kernel_rfl) (by kernel_rfl) (fun _=>by kernel_rfl) (by kernel_rfl) (fun x=>by kernel_rfl) (.nil)
noncomputable def ak_.fs (n:Nat):ak_.d.Fs:=(fun _ κe=>ak_.loop3 n (ak_.o0.k (κe 0)) n,())
theorem ak_.r3 (n:Nat):ak_.d.Round (ak_.fs n) (cx n ak_.d.nt) (cm_ Tryz.f156) 3 ak_.p3 (fun κe=>ak_.step3 n (ak_.o0.k (κe 0))):=fun κ κe x y=>by kernel_rfl
theorem ak_.ok (n:Nat):CxOk E (cx n ak_.d.nt)→KPar (cx n ak_.d.nt)→ak_.d.Ok E (ak_.F (n+1)) :=
 FD.ok (fs:=ak_.fs n) ba_ Tryz.func156 (by kernel_rfl) (by kernel_rfl) (by kernel_rfl) (by kernel_rfl) (fun _=>by kernel_rfl) (by kernel_rfl) (fun x=>by kernel_rfl) (.cons (FD.lp n (ak_.r3 n) (by kernel_rfl) fun _ _=>by kernel_rfl) (.nil))
noncomputable def bI_.fs (n:Nat):bI_.d.Fs:=()
theorem bI_.ok (n:Nat):CxOk E (cx n bI_.d.nt)→KPar (cx n bI_.d.nt)→bI_.d.Ok E (bI_.F (n+1)) :=
 FD.ok (fs:=bI_.fs n) ba_ Tryz.func108 (by kernel_rfl) (by kernel_rfl) (by kernel_rfl) (by kernel_rfl) (fun _=>by kernel_rfl) (by kernel_rfl) (fun x=>by kernel_rfl) (.nil)
noncomputable def aM_.fs (n:Nat):aM_.d.Fs:=(fun _ κe=>aM_.loop4 n (aM_ n) (aM_.o0.k (κe 0)) n,())
theorem aM_.r4 (n:Nat):aM_.d.Round (aM_.fs n) (cx n aM_.d.nt) (cm_ Tryz.f67) 4 aM_.p4 (fun κe=>aM_.step4 n (aM_ n) (aM_.o0.k (κe 0))):=fun κ κe x y=>by kernel_rfl
theorem aM_.ok (n:Nat):CxOk E (cx n aM_.d.nt)→KPar (cx n aM_.d.nt)→aM_.d.Ok E (aM_.F (n+1)) :=
 FD.ok (fs:=aM_.fs n) ba_ Tryz.func67 (by kernel_rfl) (by kernel_rfl) (by kernel_rfl) (by kernel_rfl) (fun _=>by kernel_rfl) (by kernel_rfl) (fun x=>by kernel_rfl) (.cons (FD.lp n (aM_.r4 n) (by kernel_rfl) fun _ _=>by kernel_rfl) (.nil))
noncomputable def cr_.fs (n:Nat):cr_.d.Fs:=()
theorem cr_.ok (n:Nat):CxOk E (cx n cr_.d.nt)→KPar (cx n cr_.d.nt)→cr_.d.Ok E (cr_.F (n+1)) :=
 FD.ok (fs:=cr_.fs n) ba_ Tryz.func154 (by kernel_rfl) (by kernel_rfl) (by kernel_rfl) (by kernel_rfl) (fun _=>by kernel_rfl) (by kernel_rfl) (fun x=>by kernel_rfl) (.nil)
noncomputable def a0_.fs (n:Nat):a0_.d.Fs:=(fun _ κe=>a0_.loop4 n (a0_.o0.k (κe 0)) n,())
theorem a0_.r4 (n:Nat):a0_.d.Round (a0_.fs n) (cx n a0_.d.nt) (cm_ Tryz.f162) 4 a0_.p4 (fun κe=>a0_.step4 n (a0_.o0.k (κe 0))):=fun κ κe x y=>by kernel_rfl
theorem a0_.ok (n:Nat):CxOk E (cx n a0_.d.nt)→KPar (cx n a0_.d.nt)→a0_.d.Ok E (a0_.F (n+1)) :=
 FD.ok (fs:=a0_.fs n) ba_ Tryz.func162 (by kernel_rfl) (by kernel_rfl) (by kernel_rfl) (by kernel_rfl) (fun _=>by kernel_rfl) (by kernel_rfl) (fun x=>by kernel_rfl) (.cons (FD.lp n (a0_.r4 n) (by kernel_rfl) fun _ _=>by kernel_rfl) (.nil))
noncomputable def a6_.fs (n:Nat):a6_.d.Fs:=(fun _ κe=>a6_.loop7 n (a6_.o0.k (κe 0)) n,())
theorem a6_.r7 (n:Nat):a6_.d.Round (a6_.fs n) (cx n a6_.d.nt) (cm_ Tryz.f155) 7 a6_.p7 (fun κe=>a6_.step7 n (a6_.o0.k (κe 0))):=fun κ κe x y=>by kernel_rfl
theorem a6_.ok (n:Nat):CxOk E (cx n a6_.d.nt)→KPar (cx n a6_.d.nt)→a6_.d.Ok E (a6_.F (n+1)) :=
 FD.ok (fs:=a6_.fs n) ba_ Tryz.func155 (by kernel_rfl) (by kernel_rfl) (by kernel_rfl) (by kernel_rfl) (fun _=>by kernel_rfl) (by kernel_rfl) (fun x=>by kernel_rfl) (.cons (FD.lp n (a6_.r7 n) (by kernel_rfl) fun _ _=>by kernel_rfl) (.nil))
noncomputable def bT_.fs (n:Nat):bT_.d.Fs:=()
theorem bT_.ok (n:Nat):CxOk E (cx n bT_.d.nt)→KPar (cx n bT_.d.nt)→bT_.d.Ok E (bT_.F (n+1)) :=
 FD.ok (fs:=bT_.fs n) ba_ Tryz.func157 (by kernel_rfl) (by kernel_rfl) (by kernel_rfl) (by kernel_rfl) (fun _=>by kernel_rfl) (by kernel_rfl) (fun x=>by kernel_rfl) (.nil)
noncomputable def ca_.fs (n:Nat):ca_.d.Fs:=()
theorem ca_.ok (n:Nat):CxOk E (cx n ca_.d.nt)→KPar (cx n ca_.d.nt)→ca_.d.Ok E (ca_.F (n+1)) :=
 FD.ok (fs:=ca_.fs n) ba_ Tryz.func106 (by kernel_rfl) (by kernel_rfl) (by kernel_rfl) (by kernel_rfl) (fun _=>by kernel_rfl) (by kernel_rfl) (fun x=>by kernel_rfl) (.nil)
noncomputable def bu_.fs (n:Nat):bu_.d.Fs:=(fun _ κe=>bu_.loop3 n (bu_.o0.k (κe 0)) n,())
theorem bu_.r3 (n:Nat):bu_.d.Round (bu_.fs n) (cx n bu_.d.nt) (cm_ Tryz.f134) 3 bu_.p3 (fun κe=>bu_.step3 n (bu_.o0.k (κe 0))):=fun κ κe x y=>by kernel_rfl
theorem bu_.ok (n:Nat):CxOk E (cx n bu_.d.nt)→KPar (cx n bu_.d.nt)→bu_.d.Ok E (bu_.F (n+1)) :=
 FD.ok (fs:=bu_.fs n) ba_ Tryz.func134 (by kernel_rfl) (by kernel_rfl) (by kernel_rfl) (by kernel_rfl) (fun _=>by kernel_rfl) (by kernel_rfl) (fun x=>by kernel_rfl) (.cons (FD.lp n (bu_.r3 n) (by kernel_rfl) fun _ _=>by kernel_rfl) (.nil))
noncomputable def cg_.fs (n:Nat):cg_.d.Fs:=()
theorem cg_.ok (n:Nat):CxOk E (cx n cg_.d.nt)→KPar (cx n cg_.d.nt)→cg_.d.Ok E (cg_.F (n+1)) :=
 FD.ok (fs:=cg_.fs n) ba_ Tryz.func163 (by kernel_rfl) (by kernel_rfl) (by kernel_rfl) (by kernel_rfl) (fun _=>by kernel_rfl) (by kernel_rfl) (fun x=>by kernel_rfl) (.nil)
noncomputable def ci_.fs (n:Nat):ci_.d.Fs:=()
theorem ci_.ok (n:Nat):CxOk E (cx n ci_.d.nt)→KPar (cx n ci_.d.nt)→ci_.d.Ok E (ci_.F (n+1)) :=
 FD.ok (fs:=ci_.fs n) ba_ Tryz.func130 (by kernel_rfl) (by kernel_rfl) (by kernel_rfl) (by kernel_rfl) (fun _=>by kernel_rfl) (by kernel_rfl) (fun x=>by kernel_rfl) (.nil)
noncomputable def am_.fs (n:Nat):am_.d.Fs:=(fun _ κe=>am_.loop6 n (am_.o0.k (κe 0)) n,())
theorem am_.r6 (n:Nat):am_.d.Round (am_.fs n) (cx n am_.d.nt) (cm_ Tryz.f201) 6 am_.p6 (fun κe=>am_.step6 n (am_.o0.k (κe 0))):=fun κ κe x y=>by kernel_rfl
theorem am_.ok (n:Nat):CxOk E (cx n am_.d.nt)→KPar (cx n am_.d.nt)→am_.d.Ok E (am_.F (n+1)) :=
 FD.ok (fs:=am_.fs n) ba_ Tryz.func201 (by kernel_rfl) (by kernel_rfl) (by kernel_rfl) (by kernel_rfl) (fun _=>by kernel_rfl) (by kernel_rfl) (fun x=>by kernel_rfl) (.cons (FD.lp n (am_.r6 n) (by kernel_rfl) fun _ _=>by kernel_rfl) (.nil))
noncomputable def ab_.fs (n:Nat):ab_.d.Fs:=(fun _ κe=>ab_.loop6 n (ck_ n) (ab_.o0.k (κe 0)) n,())
theorem ab_.r6 (n:Nat):ab_.d.Round (ab_.fs n) (cx n ab_.d.nt) (cm_ Tryz.f202) 6 ab_.p6 (fun κe=>ab_.step6 n (ck_ n) (ab_.o0.k (κe 0))):=fun κ κe x y=>by kernel_rfl
theorem ab_.ok (n:Nat):CxOk E (cx n ab_.d.nt)→KPar (cx n ab_.d.nt)→ab_.d.Ok E (ab_.F (n+1)) :=
 FD.ok (fs:=ab_.fs n) ba_ Tryz.func202 (by kernel_rfl) (by kernel_rfl) (by kernel_rfl) (by kernel_rfl) (fun _=>by kernel_rfl) (by kernel_rfl) (fun x=>by kernel_rfl) (.cons (FD.lp n (ab_.r6 n) (by kernel_rfl) fun _ _=>by kernel_rfl) (.nil))
noncomputable def ck_.fs (n:Nat):ck_.d.Fs:=()
theorem ck_.ok (n:Nat):CxOk E (cx n ck_.d.nt)→KPar (cx n ck_.d.nt)→ck_.d.Ok E (ck_.F (n+1)) :=
 FD.ok (fs:=ck_.fs n) ba_ Tryz.func182 (by kernel_rfl) (by kernel_rfl) (by kernel_rfl) (by kernel_rfl) (fun _=>by kernel_rfl) (by kernel_rfl) (fun x=>by kernel_rfl) (.nil)
noncomputable def bY_.fs (n:Nat):bY_.d.Fs:=()
theorem bY_.ok (n:Nat):CxOk E (cx n bY_.d.nt)→KPar (cx n bY_.d.nt)→bY_.d.Ok E (bY_.F (n+1)) :=
 FD.ok (fs:=bY_.fs n) ba_ Tryz.func158 (by kernel_rfl) (by kernel_rfl) (by kernel_rfl) (by kernel_rfl) (fun _=>by kernel_rfl) (by kernel_rfl) (fun x=>by kernel_rfl) (.nil)
noncomputable def cb_.fs (n:Nat):cb_.d.Fs:=()
theorem cb_.ok (n:Nat):CxOk E (cx n cb_.d.nt)→KPar (cx n cb_.d.nt)→cb_.d.Ok E (cb_.F (n+1)) :=
 FD.ok (fs:=cb_.fs n) ba_ Tryz.func127 (by kernel_rfl) (by kernel_rfl) (by kernel_rfl) (by kernel_rfl) (fun _=>by kernel_rfl) (by kernel_rfl) (fun x=>by kernel_rfl) (.nil)
noncomputable def bh_.fs (n:Nat):bh_.d.Fs:=(fun _ κe=>bh_.loop4 n (bh_.o0.k (κe 0)) n,())
theorem bh_.r4 (n:Nat):bh_.d.Round (bh_.fs n) (cx n bh_.d.nt) (cm_ Tryz.f90) 4 bh_.p4 (fun κe=>bh_.step4 n (bh_.o0.k (κe 0))):=fun κ κe x y=>by kernel_rfl
theorem bh_.ok (n:Nat):CxOk E (cx n bh_.d.nt)→KPar (cx n bh_.d.nt)→bh_.d.Ok E (bh_.F (n+1)) :=
 FD.ok (fs:=bh_.fs n) ba_ Tryz.func90 (by kernel_rfl) (by kernel_rfl) (by kernel_rfl) (by kernel_rfl) (fun _=>by kernel_rfl) (by kernel_rfl) (fun x=>by kernel_rfl) (.cons (FD.lp n (bh_.r4 n) (by kernel_rfl) fun _ _=>by kernel_rfl) (.nil))
noncomputable def bU_.fs (n:Nat):bU_.d.Fs:=()
theorem bU_.ok (n:Nat):CxOk E (cx n bU_.d.nt)→KPar (cx n bU_.d.nt)→bU_.d.Ok E (bU_.F (n+1)) :=
 FD.ok (fs:=bU_.fs n) ba_ Tryz.func49 (by kernel_rfl) (by kernel_rfl) (by kernel_rfl) (by kernel_rfl) (fun _=>by kernel_rfl) (by kernel_rfl) (fun x=>by kernel_rfl) (.nil)
noncomputable def bF_.fs (n:Nat):bF_.d.Fs:=()
theorem bF_.ok (n:Nat):CxOk E (cx n bF_.d.nt)→KPar (cx n bF_.d.nt)→bF_.d.Ok E (bF_.F (n+1)) :=
 FD.ok (fs:=bF_.fs n) ba_ Tryz.func104 (by kernel_rfl) (by kernel_rfl) (by kernel_rfl) (by kernel_rfl) (fun _=>by kernel_rfl) (by kernel_rfl) (fun x=>by kernel_rfl) (.nil)
noncomputable def aX_.fs (n:Nat):aX_.d.Fs:=(fun _ κe=>aX_.loop4 n (aX_.o0.k (κe 0)) n,())
theorem aX_.r4 (n:Nat):aX_.d.Round (aX_.fs n) (cx n aX_.d.nt) (cm_ Tryz.f93) 4 aX_.p4 (fun κe=>aX_.step4 n (aX_.o0.k (κe 0))):=fun κ κe x y=>by kernel_rfl
theorem aX_.ok (n:Nat):CxOk E (cx n aX_.d.nt)→KPar (cx n aX_.d.nt)→aX_.d.Ok E (aX_.F (n+1)) :=
 FD.ok (fs:=aX_.fs n) ba_ Tryz.func93 (by kernel_rfl) (by kernel_rfl) (by kernel_rfl) (by kernel_rfl) (fun _=>by kernel_rfl) (by kernel_rfl) (fun x=>by kernel_rfl) (.cons (FD.lp n (aX_.r4 n) (by kernel_rfl) fun _ _=>by kernel_rfl) (.nil))
noncomputable def bJ_.fs (n:Nat):bJ_.d.Fs:=()
theorem bJ_.ok (n:Nat):CxOk E (cx n bJ_.d.nt)→KPar (cx n bJ_.d.nt)→bJ_.d.Ok E (bJ_.F (n+1)) :=
 FD.ok (fs:=bJ_.fs n) ba_ Tryz.func107 (by kernel_rfl) (by kernel_rfl) (by kernel_rfl) (by kernel_rfl) (fun _=>by kernel_rfl) (by kernel_rfl) (fun x=>by kernel_rfl) (.nil)
noncomputable def b7_.fs (n:Nat):b7_.d.Fs:=()
theorem b7_.ok (n:Nat):CxOk E (cx n b7_.d.nt)→KPar (cx n b7_.d.nt)→b7_.d.Ok E (b7_.F (n+1)) :=
 FD.ok (fs:=b7_.fs n) ba_ Tryz.func66 (by kernel_rfl) (by kernel_rfl) (by kernel_rfl) (by kernel_rfl) (fun _=>by kernel_rfl) (by kernel_rfl) (fun x=>by kernel_rfl) (.nil)
noncomputable def ch_.fs (n:Nat):ch_.d.Fs:=()
theorem ch_.ok (n:Nat):CxOk E (cx n ch_.d.nt)→KPar (cx n ch_.d.nt)→ch_.d.Ok E (ch_.F (n+1)) :=
 FD.ok (fs:=ch_.fs n) ba_ Tryz.func91 (by kernel_rfl) (by kernel_rfl) (by kernel_rfl) (by kernel_rfl) (fun _=>by kernel_rfl) (by kernel_rfl) (fun x=>by kernel_rfl) (.nil)
noncomputable def bK_.fs (n:Nat):bK_.d.Fs:=()
theorem bK_.ok (n:Nat):CxOk E (cx n bK_.d.nt)→KPar (cx n bK_.d.nt)→bK_.d.Ok E (bK_.F (n+1)) :=
 FD.ok (fs:=bK_.fs n) ba_ Tryz.func50 (by kernel_rfl) (by kernel_rfl) (by kernel_rfl) (by kernel_rfl) (fun _=>by kernel_rfl) (by kernel_rfl) (fun x=>by kernel_rfl) (.nil)
noncomputable def bA_.fs (n:Nat):bA_.d.Fs:=()
theorem bA_.ok (n:Nat):CxOk E (cx n bA_.d.nt)→KPar (cx n bA_.d.nt)→bA_.d.Ok E (bA_.F (n+1)) :=
 FD.ok (fs:=bA_.fs n) ba_ Tryz.func10 (by kernel_rfl) (by kernel_rfl) (by kernel_rfl) (by kernel_rfl) (fun _=>by kernel_rfl) (by kernel_rfl) (fun x=>by kernel_rfl) (.nil)
noncomputable def bm_.fs (n:Nat):bm_.d.Fs:=(fun _ κe=>bm_.loop5 n (bm_.o0.k (κe 0)) n,())
theorem bm_.r5 (n:Nat):bm_.d.Round (bm_.fs n) (cx n bm_.d.nt) (cm_ Tryz.f32) 5 bm_.p5 (fun κe=>bm_.step5 n (bm_.o0.k (κe 0))):=fun κ κe x y=>by kernel_rfl
theorem bm_.ok (n:Nat):CxOk E (cx n bm_.d.nt)→KPar (cx n bm_.d.nt)→bm_.d.Ok E (bm_.F (n+1)) :=
 FD.ok (fs:=bm_.fs n) ba_ Tryz.func32 (by kernel_rfl) (by kernel_rfl) (by kernel_rfl) (by kernel_rfl) (fun _=>by kernel_rfl) (by kernel_rfl) (fun x=>by kernel_rfl) (.cons (FD.lp n (bm_.r5 n) (by kernel_rfl) fun _ _=>by kernel_rfl) (.nil))
noncomputable def bO_.fs (n:Nat):bO_.d.Fs:=()
theorem bO_.ok (n:Nat):CxOk E (cx n bO_.d.nt)→KPar (cx n bO_.d.nt)→bO_.d.Ok E (bO_.F (n+1)) :=
 FD.ok (fs:=bO_.fs n) ba_ Tryz.func33 (by kernel_rfl) (by kernel_rfl) (by kernel_rfl) (by kernel_rfl) (fun _=>by kernel_rfl) (by kernel_rfl) (fun x=>by kernel_rfl) (.nil)
noncomputable def a4_.fs (n:Nat):a4_.d.Fs:=(fun _ κe=>a4_.loop6 n (bG_ n) (a4_.o0.k (κe 0)) n,())
theorem a4_.r6 (n:Nat):a4_.d.Round (a4_.fs n) (cx n a4_.d.nt) (cm_ Tryz.f94) 6 a4_.p6 (fun κe=>a4_.step6 n (bG_ n) (a4_.o0.k (κe 0))):=fun κ κe x y=>by kernel_rfl
theorem a4_.ok (n:Nat):CxOk E (cx n a4_.d.nt)→KPar (cx n a4_.d.nt)→a4_.d.Ok E (a4_.F (n+1)) :=
 FD.ok (fs:=a4_.fs n) ba_ Tryz.func94 (by kernel_rfl) (by kernel_rfl) (by kernel_rfl) (by kernel_rfl) (fun _=>by kernel_rfl) (by kernel_rfl) (fun x=>by kernel_rfl) (.cons (FD.lp n (a4_.r6 n) (by kernel_rfl) fun _ _=>by kernel_rfl) (.nil))
noncomputable def aJ_.fs (n:Nat):aJ_.d.Fs:=(fun _ κe=>aJ_.loop6 n (aJ_.o0.k (κe 0)) n,())
theorem aJ_.r6 (n:Nat):aJ_.d.Round (aJ_.fs n) (cx n aJ_.d.nt) (cm_ Tryz.f39) 6 aJ_.p6 (fun κe=>aJ_.step6 n (aJ_.o0.k (κe 0))):=fun κ κe x y=>by kernel_rfl
theorem aJ_.ok (n:Nat):CxOk E (cx n aJ_.d.nt)→KPar (cx n aJ_.d.nt)→aJ_.d.Ok E (aJ_.F (n+1)) :=
 FD.ok (fs:=aJ_.fs n) ba_ Tryz.func39 (by kernel_rfl) (by kernel_rfl) (by kernel_rfl) (by kernel_rfl) (fun _=>by kernel_rfl) (by kernel_rfl) (fun x=>by kernel_rfl) (.cons (FD.lp n (aJ_.r6 n) (by kernel_rfl) fun _ _=>by kernel_rfl) (.nil))
noncomputable def bG_.fs (n:Nat):bG_.d.Fs:=()
theorem bG_.ok (n:Nat):CxOk E (cx n bG_.d.nt)→KPar (cx n bG_.d.nt)→bG_.d.Ok E (bG_.F (n+1)) :=
 FD.ok (fs:=bG_.fs n) ba_ Tryz.func51 (by kernel_rfl) (by kernel_rfl) (by kernel_rfl) (by kernel_rfl) (fun _=>by kernel_rfl) (by kernel_rfl) (fun x=>by kernel_rfl) (.nil)
noncomputable def cE_.fs (n:Nat):cE_.d.Fs:=()
theorem cE_.ok (n:Nat):CxOk E (cx n cE_.d.nt)→KPar (cx n cE_.d.nt)→cE_.d.Ok E (cE_.F (n+1)) :=
 FD.ok (fs:=cE_.fs n) ba_ Tryz.func95 (by kernel_rfl) (by kernel_rfl) (by kernel_rfl) (by kernel_rfl) (fun _=>by kernel_rfl) (by kernel_rfl) (fun x=>by kernel_rfl) (.nil)
noncomputable def bn_.fs (n:Nat):bn_.d.Fs:=(fun _ κe=>bn_.loop6 n (bn_.o0.k (κe 0)) n,())
theorem bn_.r6 (n:Nat):bn_.d.Round (bn_.fs n) (cx n bn_.d.nt) (cm_ Tryz.f52) 6 bn_.p6 (fun κe=>bn_.step6 n (bn_.o0.k (κe 0))):=fun κ κe x y=>by kernel_rfl
theorem bn_.ok (n:Nat):CxOk E (cx n bn_.d.nt)→KPar (cx n bn_.d.nt)→bn_.d.Ok E (bn_.F (n+1)) :=
 FD.ok (fs:=bn_.fs n) ba_ Tryz.func52 (by kernel_rfl) (by kernel_rfl) (by kernel_rfl) (by kernel_rfl) (fun _=>by kernel_rfl) (by kernel_rfl) (fun x=>by kernel_rfl) (.cons (FD.lp n (bn_.r6 n) (by kernel_rfl) fun _ _=>by kernel_rfl) (.nil))
noncomputable def b6_.fs (n:Nat):b6_.d.Fs:=()
theorem b6_.ok (n:Nat):CxOk E (cx n b6_.d.nt)→KPar (cx n b6_.d.nt)→b6_.d.Ok E (b6_.F (n+1)) :=
 FD.ok (fs:=b6_.fs n) ba_ Tryz.func11 (by kernel_rfl) (by kernel_rfl) (by kernel_rfl) (by kernel_rfl) (fun _=>by kernel_rfl) (by kernel_rfl) (fun x=>by kernel_rfl) (.nil)
end Go.Pi
end
section
namespace Go.Pi
open Go.Proofs
noncomputable def aU_.fs (n:Nat):aU_.d.Fs:=(fun _ κe=>aU_.loop6 n (aU_.o0.k (κe 0)) n,())
theorem aU_.r6 (n:Nat):aU_.d.Round (aU_.fs n) (cx n aU_.d.nt) (cm_ Tryz.f27) 6 aU_.p6 (fun κe=>aU_.step6 n (aU_.o0.k (κe 0))):=fun κ κe x y=>by kernel_rfl
theorem aU_.ok (n:Nat):CxOk E (cx n aU_.d.nt)→KPar (cx n aU_.d.nt)→aU_.d.Ok E (aU_.F (n+1)) :=
 FD.ok (fs:=aU_.fs n) ba_ Tryz.func27 (by kernel_rfl) (by kernel_rfl) (by kernel_rfl) (by kernel_rfl) (fun _=>by kernel_rfl) (by kernel_rfl) (fun x=>by kernel_rfl) (.cons (FD.lp n (aU_.r6 n) (by kernel_rfl) fun _ _=>by kernel_rfl) (.nil))
noncomputable def aF_.fs (n:Nat):aF_.d.Fs:=(fun _ κe=>aF_.loop6 n (aF_.o0.k (κe 0)) n,())
theorem aF_.r6 (n:Nat):aF_.d.Round (aF_.fs n) (cx n aF_.d.nt) (cm_ Tryz.f69) 6 aF_.p6 (fun κe=>aF_.step6 n (aF_.o0.k (κe 0))):=fun κ κe x y=>by kernel_rfl
theorem aF_.ok (n:Nat):CxOk E (cx n aF_.d.nt)→KPar (cx n aF_.d.nt)→aF_.d.Ok E (aF_.F (n+1)) :=
 FD.ok (fs:=aF_.fs n) ba_ Tryz.func69 (by kernel_rfl) (by kernel_rfl) (by kernel_rfl) (by kernel_rfl) (fun _=>by kernel_rfl) (by kernel_rfl) (fun x=>by kernel_rfl) (.cons (FD.lp n (aF_.r6 n) (by kernel_rfl) fun _ _=>by kernel_rfl) (.nil))
noncomputable def aq_.fs (n:Nat):aq_.d.Fs:=(fun _ κe=>aq_.loop3 n (aq_.o0.k (κe 0)) n,())
theorem aq_.r3 (n:Nat):aq_.d.Round (aq_.fs n) (cx n aq_.d.nt) (cm_ Tryz.f40) 3 aq_.p3 (fun κe=>aq_.step3 n (aq_.o0.k (κe 0))):=fun κ κe x y=>by kernel_rfl
theorem aq_.ok (n:Nat):CxOk E (cx n aq_.d.nt)→KPar (cx n aq_.d.nt)→aq_.d.Ok E (aq_.F (n+1)) :=
 FD.ok (fs:=aq_.fs n) ba_ Tryz.func40 (by kernel_rfl) (by kernel_rfl) (by kernel_rfl) (by kernel_rfl) (fun _=>by kernel_rfl) (by kernel_rfl) (fun x=>by kernel_rfl) (.cons (FD.lp n (aq_.r3 n) (by kernel_rfl) fun _ _=>by kernel_rfl) (.nil))
noncomputable def av_.fs (n:Nat):av_.d.Fs:=(fun _ κe=>av_.loop3 n (av_ n) (av_.o0.k (κe 0)) n,())
theorem av_.r3 (n:Nat):av_.d.Round (av_.fs n) (cx n av_.d.nt) (cm_ Tryz.f70) 3 av_.p3 (fun κe=>av_.step3 n (av_ n) (av_.o0.k (κe 0))):=fun κ κe x y=>by kernel_rfl
theorem av_.ok (n:Nat):CxOk E (cx n av_.d.nt)→KPar (cx n av_.d.nt)→av_.d.Ok E (av_.F (n+1)) :=
 FD.ok (fs:=av_.fs n) ba_ Tryz.func70 (by kernel_rfl) (by kernel_rfl) (by kernel_rfl) (by kernel_rfl) (fun _=>by kernel_rfl) (by kernel_rfl) (fun x=>by kernel_rfl) (.cons (FD.lp n (av_.r3 n) (by kernel_rfl) fun _ _=>by kernel_rfl) (.nil))
noncomputable def a2_.fs (n:Nat):a2_.d.Fs:=(fun _ κe=>a2_.loop3 n (a2_.o0.k (κe 0)) n,())
theorem a2_.r3 (n:Nat):a2_.d.Round (a2_.fs n) (cx n a2_.d.nt) (cm_ Tryz.f54) 3 a2_.p3 (fun κe=>a2_.step3 n (a2_.o0.k (κe 0))):=fun κ κe x y=>by kernel_rfl
theorem a2_.ok (n:Nat):CxOk E (cx n a2_.d.nt)→KPar (cx n a2_.d.nt)→a2_.d.Ok E (a2_.F (n+1)) :=
 FD.ok (fs:=a2_.fs n) ba_ Tryz.func54 (by kernel_rfl) (by kernel_rfl) (by kernel_rfl) (by kernel_rfl) (fun _=>by kernel_rfl) (by kernel_rfl) (fun x=>by kernel_rfl) (.cons (FD.lp n (a2_.r3 n) (by kernel_rfl) fun _ _=>by kernel_rfl) (.nil))
noncomputable def aD_.fs (n:Nat):aD_.d.Fs:=(fun _ κe=>aD_.loop3 n (aD_.o0.k (κe 0)) n,())
theorem aD_.r3 (n:Nat):aD_.d.Round (aD_.fs n) (cx n aD_.d.nt) (cm_ Tryz.f28) 3 aD_.p3 (fun κe=>aD_.step3 n (aD_.o0.k (κe 0))):=fun κ κe x y=>by kernel_rfl
theorem aD_.ok (n:Nat):CxOk E (cx n aD_.d.nt)→KPar (cx n aD_.d.nt)→aD_.d.Ok E (aD_.F (n+1)) :=
 FD.ok (fs:=aD_.fs n) ba_ Tryz.func28 (by kernel_rfl) (by kernel_rfl) (by kernel_rfl) (by kernel_rfl) (fun _=>by kernel_rfl) (by kernel_rfl) (fun x=>by kernel_rfl) (.cons (FD.lp n (aD_.r3 n) (by kernel_rfl) fun _ _=>by kernel_rfl) (.nil))
noncomputable def ar_.fs (n:Nat):ar_.d.Fs:=(fun _ κe=>ar_.loop3 n (ar_.o0.k (κe 0)) n,())
theorem ar_.r3 (n:Nat):ar_.d.Round (ar_.fs n) (cx n ar_.d.nt) (cm_ Tryz.f74) 3 ar_.p3 (fun κe=>ar_.step3 n (ar_.o0.k (κe 0))):=fun κ κe x y=>by kernel_rfl
theorem ar_.ok (n:Nat):CxOk E (cx n ar_.d.nt)→KPar (cx n ar_.d.nt)→ar_.d.Ok E (ar_.F (n+1)) :=
 FD.ok (fs:=ar_.fs n) ba_ Tryz.func74 (by kernel_rfl) (by kernel_rfl) (by kernel_rfl) (by kernel_rfl) (fun _=>by kernel_rfl) (by kernel_rfl) (fun x=>by kernel_rfl) (.cons (FD.lp n (ar_.r3 n) (by kernel_rfl) fun _ _=>by kernel_rfl) (.nil))
noncomputable def aw_.fs (n:Nat):aw_.d.Fs:=(fun _ κe=>aw_.loop3 n (aw_ n) (aw_.o0.k (κe 0)) n,())
theorem aw_.r3 (n:Nat):aw_.d.Round (aw_.fs n) (cx n aw_.d.nt) (cm_ Tryz.f73) 3 aw_.p3 (fun κe=>aw_.step3 n (aw_ n) (aw_.o0.k (κe 0))):=fun κ κe x y=>by kernel_rfl
theorem aw_.ok (n:Nat):CxOk E (cx n aw_.d.nt)→KPar (cx n aw_.d.nt)→aw_.d.Ok E (aw_.F (n+1)) :=
 FD.ok (fs:=aw_.fs n) ba_ Tryz.func73 (by kernel_rfl) (by kernel_rfl) (by kernel_rfl) (by kernel_rfl) (fun _=>by kernel_rfl) (by kernel_rfl) (fun x=>by kernel_rfl) (.cons (FD.lp n (aw_.r3 n) (by kernel_rfl) fun _ _=>by kernel_rfl) (.nil))
noncomputable def a3_.fs (n:Nat):a3_.d.Fs:=(fun _ κe=>a3_.loop3 n (a3_.o0.k (κe 0)) n,())
theorem a3_.r3 (n:Nat):a3_.d.Round (a3_.fs n) (cx n a3_.d.nt) (cm_ Tryz.f56) 3 a3_.p3 (fun κe=>a3_.step3 n (a3_.o0.k (κe 0))):=fun κ κe x y=>by kernel_rfl
theorem a3_.ok (n:Nat):CxOk E (cx n a3_.d.nt)→KPar (cx n a3_.d.nt)→a3_.d.Ok E (a3_.F (n+1)) :=
 FD.ok (fs:=a3_.fs n) ba_ Tryz.func56 (by kernel_rfl) (by kernel_rfl) (by kernel_rfl) (by kernel_rfl) (fun _=>by kernel_rfl) (by kernel_rfl) (fun x=>by kernel_rfl) (.cons (FD.lp n (a3_.r3 n) (by kernel_rfl) fun _ _=>by kernel_rfl) (.nil))
noncomputable def aB_.fs (n:Nat):aB_.d.Fs:=(fun _ κe=>aB_.loop3 n (aB_.o0.k (κe 0)) n,())
theorem aB_.r3 (n:Nat):aB_.d.Round (aB_.fs n) (cx n aB_.d.nt) (cm_ Tryz.f34) 3 aB_.p3 (fun κe=>aB_.step3 n (aB_.o0.k (κe 0))):=fun κ κe x y=>by kernel_rfl
theorem aB_.ok (n:Nat):CxOk E (cx n aB_.d.nt)→KPar (cx n aB_.d.nt)→aB_.d.Ok E (aB_.F (n+1)) :=
 FD.ok (fs:=aB_.fs n) ba_ Tryz.func34 (by kernel_rfl) (by kernel_rfl) (by kernel_rfl) (by kernel_rfl) (fun _=>by kernel_rfl) (by kernel_rfl) (fun x=>by kernel_rfl) (.cons (FD.lp n (aB_.r3 n) (by kernel_rfl) fun _ _=>by kernel_rfl) (.nil))
noncomputable def laws_FnExactFeed.fs (n:Nat):laws_FnExactFeed.d.Fs:=()
theorem laws_FnExactFeed.ok (n:Nat):CxOk E (cx n laws_FnExactFeed.d.nt)→KPar (cx n laws_FnExactFeed.d.nt)→laws_FnExactFeed.d.Ok E (laws_FnExactFeed.F (n+1)) :=
 FD.ok (fs:=laws_FnExactFeed.fs n) ba_ Tryz.func6 (by kernel_rfl) (by kernel_rfl) (by kernel_rfl) (by kernel_rfl) (fun _=>by kernel_rfl) (by kernel_rfl) (fun x=>by kernel_rfl) (.nil)
end Go.Pi
end
section
namespace Go.Pi
def InsM (P:Program) (f:FuncId) (e:TypeId) (K B:Nat):Prop :=
 ∀ (w:World) (S:Value) (n:Nat) (vals:List Value) (U:Value) (m:Nat) (us:List Value) (i:Nat),w.ownsRow 0 e K S n vals→w.ownsRow 0 e K U m us→(∀ b,cH_ S b≠0→cH_ U b=0)→i≤n →
   (∀ v ∈ vals,v.oneCell'=true)→(∀ v ∈ us,v.oneCell'=true)→(n+m)*B≤140737488355328 →
   Calls P f (List.toArray [S,.int .i64 i,U]) w fun e' w'=>∃ R,e' = .returned R∧w'.ownsRow 0 e K R (n+m) (vals.take (i*K)++us++vals.drop (i*K))∧kp_ w w' (fun b=>cH_ S b≠0) ∧
    ∀ b,cH_ R b≠0→(w.heap.size≤b∨cH_ S b≠0)∧b<w'.heap.size
def DelM (P:Program) (f:FuncId) (e:TypeId) (K:Nat):Prop :=
 ∀ (w:World) (S:Value) (n:Nat) (vals:List Value) (i j:Nat),w.ownsRow 0 e K S n vals→i≤j→j≤n→(∀ v ∈ vals,v.oneCell'=true) →
   Calls P f (List.toArray [S,.int .i64 i,.int .i64 j]) w fun e' w'=>∃ R,e' = .returned R∧w'.ownsRow 0 e K R (n - (j - i)) (vals.take (i*K)++vals.drop (j*K))∧kp_ w w' (fun b=>cH_ S b≠0) ∧
    ∀ b,cH_ R b≠0→(w.heap.size≤b∨cH_ S b≠0)∧b<w'.heap.size
def M.both:M→M→M
 |.d,.d=>.d
 |_,_=>.s
variable [an_]
open an_
variable {E:Env} {w w':World} {F F':Nat→Prop}
theorem RL.own_inv {m t xs v l vs φ} (hm:m ≠ .v) (h:RL E w F (.sl m t xs::l) (v::vs) φ):∃ vals φ₁ φ₂,w.ownsRow 0 (E.eid t) t.width v xs.length vals∧RL E w F (bj_ m.sub t xs) vals φ₁∧(∀ b,cH_ v b≠0→F b)∧RL E w F l vs φ₂∧∀ b,φ b=cH_ v b+φ₁ b+φ₂ b:=by
 cases h with
 |scal _ _ _ _ _ h=>exact h.elim
 |view=>exact absurd rfl hm
 |own m t xs v vals φ₁ l vs φ₂ φ h1 h2 h3 h4 h5 h6=>exact ⟨vals,φ₁,φ₂,h2,h3,h4,h5,h6⟩
theorem RL.len_inv {a l Vs φ} (h:RL E w F (a::l) Vs φ):∃ v vs,Vs=v::vs:=by
 obtain ⟨v,vs,_,_,h,_⟩:=RL.uncons h
 exact ⟨v,vs,h⟩
theorem ms_ [ap_] {φ:Nat→Nat} (h1:∀ b,φ b≤1) (low:∀ b,φ b≠0→F b∧b<w.heap.size) {S:Value} (hSF:∀ b,cH_ S b≠0→F b) {t:TC} {zs:List (El t)} {vals:List Value} {ψ:Nat→Nat}
  (hz:RL E w F (bj_ .d t zs) vals ψ) (eφ:∀ b,cH_ S b+ψ b≤φ b) {R:Value} (hR:w'.ownsRow 0 (E.eid t) t.width R zs.length vals) (hg:kp_ w w' (fun b=>cH_ S b≠0))
  (hRb:∀ b,cH_ R b≠0→(w.heap.size≤b∨cH_ S b≠0)∧b<w'.heap.size) :
  ∃ φ',RL E w' (fun b=>(F b∧φ b=0)∨φ' b≠0) [.sl .d t zs] [R] φ'∧(∀ b,φ' b≤1)∧(∀ b,φ' b≠0→φ b≠0∨w.heap.size≤b) ∧
    w'.os=w.os∧w'.tape=w.tape∧w'.output=w.output∧w.heap.size≤w'.heap.size∧∀ b,b<w.heap.size→φ b=0→w'.heap[b]?=w.heap[b]?:=by
 have key:∀ b,cH_ R b≠0→cH_ S b≠0∨w.heap.size≤b:=fun b hb=>(hRb b hb).1.symm
 have elt:∀ b,ψ b≠0→cH_ R b=0∧cH_ S b=0:=fun b hb=>by
  have q1:=eφ b;have q2:=h1 b
  have s0:cH_ S b=0:=by omega
  refine ⟨Classical.byContradiction fun hr => ?_,s0⟩
  rcases key b hr with hs|hs
  · exact hs s0
  · have:=(low b (by omega)).2;omega
 refine ⟨fun b=>cH_ R b+ψ b,?_,fun b => ?_,fun b hb => ?_,hg.os,hg.tape,hg.output,hg.size,fun b hb h0=>hg.heap b hb fun hc=>hc (by have:=eφ b;omega)⟩
 · refine .own .d t zs R vals ψ [] _ (fun _=>0) _ (by decide) hR ?_ (fun b hb=>.inr (by show cH_ R b+_≠0;omega)) (.nil _ fun _=>rfl) (fun b=>rfl)
   refine hz.frame hg.size (fun b hb=>⟨hg.heap b (hz.low b hb).2 fun hc=>hc (elt b hb).2,.inr (by show cH_ R b+ψ b≠0;omega)⟩) fun b hb hn=>⟨hg.heap b hb fun hc=>hn (hSF b hc),fun hc => ?_⟩
   rcases hc with ⟨hf,-⟩|hc
   · exact hn hf
   · have hc:cH_ R b+ψ b≠0:=hc
     by_cases hr0:cH_ R b=0
     · exact hn (hz.low b (by omega)).1
     · rcases key b hr0 with hs|hs
       · exact hn (hSF b hs)
       · omega
 · show cH_ R b+ψ b≤1
   have q1:=eφ b;have q2:=h1 b;have:=jX_ R b
   by_cases h0:ψ b=0
   · omega
   · have:=elt b h0;omega
 · have hb:cH_ R b+ψ b≠0:=hb
   by_cases h0:ψ b=0
   · rcases key b (by omega) with hs|hs
     · exact .inl (by have:=eφ b;omega)
     · exact .inr hs
   · exact .inl (by have:=eφ b;omega)
theorem jd_ [ap_] {φ:Nat→Nat} (h1:∀ b,φ b≤1) (low:∀ b,φ b≠0→F b∧b<w.heap.size) {S:Value} (hSF:∀ b,cH_ S b≠0→F b) {t:TC} {zs:List (El t)} {L:List AV} {vals:List Value} {ψ:Nat→Nat}
  (hz:RL E w F L vals ψ) (hL:L.map AV.asView=bj_ .v t zs) (eφ:∀ b,cH_ S b+ψ b≤φ b) {R:Value} (hR:w'.ownsRow 0 (E.eid t) t.width R zs.length vals) (hg:kp_ w w' (fun b=>cH_ S b≠0))
  (hRb:∀ b,cH_ R b≠0→(w.heap.size≤b∨cH_ S b≠0)∧b<w'.heap.size) :
  ∃ φ',RL E w' (fun b=>(F b∧φ b=0)∨φ' b≠0) [.sl .s t zs] [R] φ'∧(∀ b,φ' b≤1)∧(∀ b,φ' b≠0→φ b≠0∨w.heap.size≤b) ∧
    w'.os=w.os∧w'.tape=w.tape∧w'.output=w.output∧w.heap.size≤w'.heap.size∧∀ b,b<w.heap.size→φ b=0→w'.heap[b]?=w.heap[b]?:=by
 have key:∀ b,cH_ R b≠0→cH_ S b≠0∨w.heap.size≤b:=fun b hb=>(hRb b hb).1.symm
 have hv:=hz.seen (F':=fun b=>F b∧ψ b=0) (fun b hb hc=>hb hc.2) (fun b _ hn hc=>hn hc.1)
 rw [hL] at hv
 refine ⟨cH_ R,?_,jX_ R,fun b hb => ?_,hg.os,hg.tape,hg.output,hg.size,fun b hb h0=>hg.heap b hb fun hc=>hc (by have:=eφ b;omega)⟩
 · refine .own .s t zs R vals (fun _=>0) [] _ (fun _=>0) _ (by decide) hR ?_ (fun b hb=>.inr hb) (.nil _ fun _=>rfl) (fun b=>rfl)
   refine hv.frame hg.size (fun b hb=>absurd rfl hb) fun b hb hn=>⟨hg.heap b hb fun hc=>hn ⟨hSF b hc,by have:=eφ b;have:=h1 b;omega⟩,fun hc => ?_⟩
   rcases hc with ⟨hf,h0⟩|hc
   · exact hn ⟨hf,by have:=eφ b;omega⟩
   · rcases key b hc with hs|hs
     · exact hn ⟨hSF b hs,by have:=eφ b;have:=h1 b;omega⟩
     · omega
 · rcases key b hb with hs|hs
   · exact .inl (by have:=eφ b;omega)
   · exact .inr hs
theorem RL.int_inv {k n l v vs φ} (h:RL E w F (.i k n::l) (v::vs) φ):v = .int k n∧RL E w F l vs φ:=by
 cases h with
 |scal _ _ _ _ _ h1 h2=>exact ⟨h1,h2⟩
theorem codedD [ap_] {m:M} {t:TC} (zs:List (El t)):∀ a ∈ bj_ m t zs,∃ m,a.coded m:=fun a ha=>⟨m,c2_ a ha⟩
theorem ny_ [ap_] {f:FuncId} {t:TC} {m1 m2:M} (hm1:m1 ≠ .v) (hm2:m2 ≠ .v) (h:InsM E.P f (E.eid t) t.width t.bytes) {xs ys:List (El t)} {i:Nat} (hi:i≤xs.length) (hb:(xs.length+ys.length)*t.bytes≤140737488355328) :
  dm_ E f [.sl m1 t xs,.i .i64 i,.sl m2 t ys] (.sl (M.both m1 m2) t (xs.take i++ys++xs.drop i)) [] [.o,.v,.o]:=by
 intro w F Vs φ hrl h1 hlow _
 have low:∀ b,φ b≠0→F b∧b<w.heap.size:=hrl.low
 obtain ⟨S,_,rfl⟩:=hrl.len_inv
 replace hrl:=hrl.own_inv hm1
 obtain ⟨vals,φx,φ2,hS,hx,hSF,hrl,e1⟩:=hrl
 obtain ⟨I,_,rfl⟩:=hrl.len_inv
 replace hrl:=hrl.int_inv
 obtain ⟨rfl,hrl⟩:=hrl
 obtain ⟨U,_,rfl⟩:=hrl.len_inv
 replace hrl:=hrl.own_inv hm2
 obtain ⟨us,φy,φ4,hU,hy,hUF,hrl,e3⟩:=hrl
 obtain ⟨rfl,e4⟩:=RL.nil_inv hrl
 have eφ:∀ b,φ b=cH_ S b+φx b+(cH_ U b+φy b):=fun b=>by rw [e1,e3,e4];omega
 refine (h w S xs.length vals U ys.length us i hS hU (fun b hb=>by have:=h1 b;have:=eφ b;omega) hi (hx.one (codedD _)) (hy.one (codedD _)) hb).mono ?_
 rintro e' w' ⟨R,rfl,hR,hg,hRb⟩
 have hx':RL E w F (bj_ m1.sub t (xs.take i)++bj_ m1.sub t (xs.drop i)) vals φx:=by rw [←cq_,List.take_append_drop];exact hx
 obtain ⟨va,vb,φa,φb,rfl,ha,hb',e6⟩:=hx'.split
 have hla:va.length=i*t.width:=by rw [←ha.length,cR_,List.length_take,Nat.min_eq_left hi]
 rw [←hla,List.take_left,List.drop_left] at hR
 have hz:RL E w F (bj_ m1.sub t (xs.take i)++bj_ m2.sub t ys++bj_ m1.sub t (xs.drop i)) (va++us++vb) (fun b=>φa b+φy b+φb b) :=
  (ha.append hy (ψ:=fun b=>φa b+φy b) (fun b=>rfl)).append hb' (fun b=>rfl)
 have hl:(xs.take i++ys++xs.drop i).length=xs.length+ys.length:=by simp;omega
 have he:∀ b,cH_ S b+(φa b+φy b+φb b)≤φ b:=fun b=>by have:=eφ b;have:=e6 b;omega
 by_cases hd:m1 = .d∧m2 = .d
 · obtain ⟨rfl,rfl⟩:=hd
   have hz':RL E w F (bj_ .d t (xs.take i++ys++xs.drop i)) (va++us++vb) (fun b=>φa b+φy b+φb b):=by
    rw [cq_,cq_];exact hz
   obtain ⟨φ',k1,k2⟩:=ms_ (S:=S) (R:=R) h1 low hSF hz' he (by rw [hl];exact hR) hg hRb
   exact ⟨R,φ',rfl,k1,k2⟩
 · have hb2:M.both m1 m2 = .s:=by cases m1<;>cases m2<;>first|rfl|exact absurd rfl hm1|exact absurd rfl hm2|exact absurd ⟨rfl,rfl⟩ hd
   rw [hb2]
   obtain ⟨φ',k1,k2⟩:=jd_ (S:=S) (R:=R) (t:=t) (zs:=xs.take i++ys++xs.drop i) h1 low hSF hz (by rw [List.map_append,List.map_append,dT_,dT_,dT_,cq_,cq_]) he (by rw [hl];exact hR) hg hRb
   exact ⟨R,φ',rfl,k1,k2⟩
theorem nL_ [ap_] {f:FuncId} {t:TC} {m:M} (hm0:m ≠ .v) (h:DelM E.P f (E.eid t) t.width) {xs:List (El t)} {i j:Nat} (hij:i≤j) (hj:j≤xs.length) :
  dm_ E f [.sl m t xs,.i .i64 i,.i .i64 j] (.sl (M.both m m) t (xs.take i++xs.drop j)) [] [.o,.v,.v]:=by
 intro w F Vs φ hrl h1 hlow _
 have low:∀ b,φ b≠0→F b∧b<w.heap.size:=hrl.low
 obtain ⟨S,_,rfl⟩:=hrl.len_inv
 replace hrl:=hrl.own_inv hm0
 obtain ⟨vals,φx,φ2,hS,hx,hSF,hrl,e1⟩:=hrl
 obtain ⟨I,_,rfl⟩:=hrl.len_inv
 replace hrl:=hrl.int_inv
 obtain ⟨rfl,hrl⟩:=hrl
 obtain ⟨J,_,rfl⟩:=hrl.len_inv
 replace hrl:=hrl.int_inv
 obtain ⟨rfl,hrl⟩:=hrl
 obtain ⟨rfl,e4⟩:=RL.nil_inv hrl
 have eφ:∀ b,φ b=cH_ S b+φx b:=fun b=>by rw [e1,e4];omega
 refine (h w S xs.length vals i j hS hij hj (hx.one (codedD _))).mono ?_
 rintro e' w' ⟨R,rfl,hR,hg,hRb⟩
 have hx':RL E w F (bj_ m.sub t (xs.take i)++(bj_ m.sub t ((xs.drop i).take (j - i))++bj_ m.sub t (xs.drop j))) vals φx:=by
  rw [←cq_,←cq_]
  have:xs.drop j=(xs.drop i).drop (j - i):=by rw [List.drop_drop];congr 1;omega
  rw [this,List.take_append_drop,List.take_append_drop];exact hx
 obtain ⟨va,vc,φa,φc,rfl,ha,hc,e6⟩:=hx'.split
 obtain ⟨vm,vb,φm,φb,rfl,hm,hb',e7⟩:=hc.split
 have hla:va.length=i*t.width:=by rw [←ha.length,cR_,List.length_take,Nat.min_eq_left (by omega)]
 have hlm:vm.length=(j - i)*t.width:=by rw [←hm.length,cR_,List.length_take,List.length_drop,Nat.min_eq_left (by omega)]
 have hlj:(va++vm).length=j*t.width:=by rw [List.length_append,hla,hlm,←Nat.add_mul];congr 1;omega
 rw [←hla,List.take_left,←hlj,←List.append_assoc,List.drop_left] at hR
 have hz:RL E w F (bj_ m.sub t (xs.take i)++bj_ m.sub t (xs.drop j)) (va++vb) (fun b=>φa b+φb b):=ha.append hb' (fun b=>rfl)
 have hl:(xs.take i++xs.drop j).length=xs.length - (j - i):=by simp;omega
 have he:∀ b,cH_ S b+(φa b+φb b)≤φ b:=fun b=>by have:=eφ b;have:=e6 b;have:=e7 b;omega
 cases m with
 |v=>exact absurd rfl hm0
 |d=>
  have hz':RL E w F (bj_ .d t (xs.take i++xs.drop j)) (va++vb) (fun b=>φa b+φb b):=by
   rw [cq_];exact hz
  obtain ⟨φ',k1,k2⟩:=ms_ (S:=S) (R:=R) h1 low hSF hz' he (by rw [hl];exact hR) hg hRb
  exact ⟨R,φ',rfl,k1,k2⟩
 |s=>
  obtain ⟨φ',k1,k2⟩:=jd_ (S:=S) (R:=R) (t:=t) (zs:=xs.take i++xs.drop j) h1 low hSF hz (by rw [List.map_append,dT_,dT_,cq_]) he (by rw [hl];exact hR) hg hRb
  exact ⟨R,φ',rfl,k1,k2⟩
theorem nDel_ok [ap_] {f:FuncId} {t:TC} {m:M} (hm0:m ≠ .v) (h:DelM E.P f (E.eid t) t.width) {xs r:List (El t)} {i j:Int} (hr:nDelete xs i j=some r) :
  dm_ E f [.sl m t xs,.i .i64 i,.i .i64 j] (.sl (M.both m m) t r) [] [.o,.v,.v]:=by
 unfold nDelete at hr
 by_cases hc:0≤i∧i≤j∧j≤(xs.length:Int)
 · obtain ⟨h1,h2,h3⟩:=hc
   obtain ⟨i,rfl⟩:=Int.eq_ofNat_of_zero_le h1
   obtain ⟨j,rfl⟩:=Int.eq_ofNat_of_zero_le (Int.le_trans h1 h2)
   simp only [h1,h2,h3,decide_true,Bool.and_true,cond_true,Option.some.injEq] at hr
   subst hr
   exact nL_ hm0 h (by omega) (by omega)
 · have:(decide (0≤i)&&(decide (i≤j)&&decide (j≤(xs.length:Int))))=false:=by
    rw [Bool.eq_false_iff];intro h;simp only [Bool.and_eq_true,decide_eq_true_eq] at h;exact hc h
   rw [this] at hr;cases hr
theorem nIns_ok [ap_] {f:FuncId} {t:TC} {m1 m2:M} (hm1:m1 ≠ .v) (hm2:m2 ≠ .v) (h:InsM E.P f (E.eid t) t.width t.bytes) {xs ys r:List (El t)} {i:Int} (hr:nInsert t.bytes xs i ys=some r) :
  dm_ E f [.sl m1 t xs,.i .i64 i,.sl m2 t ys] (.sl (M.both m1 m2) t r) [] [.o,.v,.o]:=by
 unfold nInsert at hr
 by_cases hc:0≤i∧i≤(xs.length:Int)
 · obtain ⟨h1,h2⟩:=hc
   obtain ⟨i,rfl⟩:=Int.eq_ofNat_of_zero_le h1
   by_cases hb:(xs.length+ys.length)*t.bytes≤140737488355328
   · simp only [h1,h2,hb,decide_true,Bool.and_true,cond_true,Option.some.injEq] at hr
     subst hr
     exact ny_ hm1 hm2 h (by omega) hb
   · simp [h1,h2,hb] at hr
 · have:(decide (0≤i)&&decide (i≤(xs.length:Int)))=false:=by
    rw [Bool.eq_false_iff];intro h;simp only [Bool.and_eq_true,decide_eq_true_eq] at h;exact hc h
   rw [this] at hr;cases hr
end Go.Pi
end
section
namespace Go.Proofs
open Go.Shelf Go.RowKit Go.Lib Go.Pi
section
variable {P:Program}
theorem nV_ {ops:Array Oper} {o:Oper} {a:Act} {w:World} {K:Act→World→Prop} {Q:Exit→Act→World→Prop} {E:Prop}
  (hg:o.guard=none) (d x:Operand) (dT sT:TypeId) (hop:o.op=Op.call { callee:=Callee.builtin Builtin.append,args:=#[d,x],argTypes:=#[dT,sT] })
  (v u:Value) (hd:a.eval d=v) (hx:a.eval x=u) {v':Value} {w':World} (hr:(Builtin.append_ #[dT,sT] o.type #[v,u]).run P w = .ok v' w') (hK:K (a.put o.dst v') w') :
  if Region.wanted o (yielded ops a.tmps)=true then Oper.wp P o a w K Q else E:=by
 have hw:Region.wanted o (yielded ops a.tmps)=true:=by simp [Region.wanted,hg]
 rw [if_pos hw]
 unfold Oper.wp
 simp [execOp,hop,resolve,invoke,builtin,hd,hx,hr,Result.andThen]
 exact hK
theorem nf_ (w:World) {ops:Array Oper} {fn_:List Oper} {o:Oper} {a:Act} {Q:Exit→Act→World→Prop} (hgd:o.guard=none) (d:Operand) (t:TypeId)
  (ho:o.op = .call { callee:=.builtin .clear,args:=#[d],argTypes:=#[t] }) (v:Value) (hd:a.eval d=v) {v':Value} {w':World}
  (hr:(Builtin.clear_ #[t] o.type #[v]).run P w = .ok v' w') (h:wpList P ops Q fn_ (a.put o.dst v') w'):wpList P ops Q (o::fn_) a w :=
 wpList_plain hgd fun _ hK=>by
  unfold Oper.wp execOp
  simp only [ho,resolve,invoke,builtin,Sem.run_bind,Sem.run_pure,Result.andThen_ok,List.map_toArray,List.map_cons,List.map_nil,hd,hr]
  exact hK _ _ h
theorem run_clear_k (w:World) (t e ty:TypeId) (z:Value) (ht:P.underlying t=some (.slice e)) (hv:∀ w,(zeroValue e).run P w = .ok z w) (g o n c:Nat) (hn:0<n) (cur:Array Value) (T:TypeId) (hg:w.heap[g]?=some (.cells cur T (0,0)))
  (hfit:o+(Builtin.zeroCells z.cells n).toList.length≤cur.size) (h1:∀ v ∈ (Builtin.zeroCells z.cells n).toList,v.oneCell'=true) :
  (Builtin.clear_ #[t] ty #[.slice (some ⟨g,o,none⟩) n c]).run P w = .ok (.tuple #[]) (w.setRow g (cur.toList.take o++(Builtin.zeroCells z.cells n).toList++cur.toList.drop (o+(Builtin.zeroCells z.cells n).toList.length)).toArray):=by
 have hst:=run_storeCells_at P g o T (Builtin.zeroCells z.cells n).toList 0 cur w hg (by simpa using hfit) h1
 obtain ⟨m,rfl⟩:∃ m,n=m+1:=⟨n - 1,by omega⟩
 simp only [Builtin.clear_,run_underlying ht,Sem.run_bind,Result.andThen_ok,hv]
 simp only [List.getElem?_toArray,List.getElem?_cons_zero,Sem.run_bind,run_underlying ht,Result.andThen_ok,hv,hst,Nat.add_zero,Sem.run_pure]
end
theorem nU_ (w:World) {P:Program} {ops:Array Oper} {fn_:List Oper} {o:Oper} {a:Act} {Q:Exit→Act→World→Prop} (hgd:o.guard=none) (d s:Operand) (t t':TypeId)
  (ho:o.op = .call { callee:=.builtin .copy,args:=#[d,s],argTypes:=#[t,t'] }) (v u:Value) (hd:a.eval d=v) (hs:a.eval s=u) {v':Value} {w':World}
  (hr:(Builtin.copy_ #[t,t'] o.type #[v,u]).run P w = .ok v' w') (h:wpList P ops Q fn_ (a.put o.dst v') w'):wpList P ops Q (o::fn_) a w :=
 wpList_plain hgd fun _ hK=>by
  unfold Oper.wp execOp
  simp only [ho,resolve,invoke,builtin,Sem.run_bind,Sem.run_pure,Result.andThen_ok,List.map_toArray,List.map_cons,List.map_nil,hd,hs,hr]
  exact hK _ _ h
theorem step_copy_runI {P:Program} {ops:Array Oper} {o:Oper} {a:Act} {w:World} {K:Act→World→Prop} {Q:Exit→Act→World→Prop} {E:Prop}
  (hg:o.guard=none) (d x:Operand) (dT sT:TypeId) (hop:o.op=Op.call { callee:=Callee.builtin Builtin.copy,args:=#[d,x],argTypes:=#[dT,sT] })
  (v u:Value) (hd:a.eval d=v) (hx:a.eval x=u) {v':Value} {w':World} (hr:(Builtin.copy_ #[dT,sT] o.type #[v,u]).run P w = .ok v' w') (hK:K (a.put o.dst v') w') :
  if Region.wanted o (yielded ops a.tmps)=true then Oper.wp P o a w K Q else E:=by
 have hw:Region.wanted o (yielded ops a.tmps)=true:=by simp [Region.wanted,hg]
 rw [if_pos hw]
 unfold Oper.wp
 simp [execOp,hop,resolve,invoke,builtin,hd,hx,hr,Result.andThen]
 exact hK
theorem run_copy_rowK {P:Program} (w:World) (dT sT ty elem:TypeId) (k:Nat) (g o dLen dCap:Nat) (a:Addr) (sLen sCap:Nat) (cur:Array Value) (t:TypeId) (cs:List Value)
  (hu:P.underlying dT=some (.slice elem)) (hs:(P.info? elem).map (·.size)=some k)
  (hg:w.heap[g]?=some (.cells cur t (0,0))) (hn:cs.length=Nat.min sLen dLen*k)
  (hsrc:∀ j v,cs[j]?=some v→w.cell? (a.add j)=some v) (hfit:o+cs.length≤cur.size) (h1:∀ v ∈ cs,v.oneCell'=true) :
  (Builtin.copy_ #[dT,sT] ty #[.slice (some ⟨g,o,none⟩) dLen dCap,.slice (some a) sLen sCap]).run P w =
   .ok (goInt (Nat.min sLen dLen)) (w.setRow g (cur.toList.take o++cs++cur.toList.drop (o+cs.length)).toArray):=by
 have hl:=run_loadCells_list (P:=P) w a cs hsrc
 have hst:=run_storeCells_at P g o t cs 0 cur w hg (by simpa using hfit) h1
 cases hq:P.info? elem with
 |none=>simp [hq] at hs
 |some i=>
  have hi:i.size=k:=by simpa [hq] using hs
  simp [Builtin.copy_,run_underlying hu,Builtin.lenOf,Builtin.firstCells,sizeOf,typeInfo,hq,hi,←hn,hl,hst]
theorem zc_one (cs:Array Value) (h:cs.toList.all Value.oneCell'=true) (n:Nat):∀ v ∈ (Builtin.zeroCells cs n).toList,v.oneCell'=true:=by
 intro v hv
 simp only [Builtin.zeroCells,Array.toList_map,List.mem_map,Array.toList_range,List.mem_range] at hv
 obtain ⟨x,hx,rfl⟩:=hv
 have h0:0<cs.size:=Nat.pos_of_mul_pos_left (by omega:0<n*cs.size)
 have:x % cs.size<cs.size:=Nat.mod_lt _ h0
 rw [getElem!_pos cs _ this]
 exact List.all_eq_true.1 h _ (by simp)
theorem own_low {w:World} {e:TypeId} {K:Nat} {S:Value} {n:Nat} {vals:List Value} (h:w.ownsRow 0 e K S n vals):∀ b,cH_ S b≠0→b<w.heap.size:=by
 intro b hb
 rcases h.2 with ⟨rfl,_⟩|⟨g,cap,cur,rfl,_,hg,_⟩
 · simp [cH_] at hb
 · have:g=b:=by simp only [cH_] at hb;exact Classical.byContradiction fun h=>hb (if_neg h)
   subst this
   exact (Array.getElem?_eq_some_iff.1 hg).1
theorem drow_size (w:World) (g:Nat) (A:Array Value):w.heap.size≤(w.drew.setRow g A).heap.size:=by
 have:(w.drew.setRow g A).heap.size=w.drew.heap.size:=by simp [World.setRow]
 rw [this];exact Nat.le_refl _
theorem owns1_iff {w:World} {e:TypeId} {v:Value} {n:Nat} {xs:List Value}:w.ownsRow 0 e 1 v n xs ↔
  (xs.length=n∧(v = .slice none 0 0∧n=0∨∃ g cap cur,v = .slice (some ⟨g,0,none⟩) n cap∧0≤g∧w.heap[g]?=some (.cells cur e (0,0))∧n≤cap∧cap≤maxLen∧cur.size=cap∧cur.toList.take n=xs)):=by
 unfold World.ownsRow
 simp only [Nat.mul_one]
end Go.Proofs
end
section
namespace Go.Proofs
open Go.Shelf
def Tryz.lays143_ren:Go.Shelf.Ren:=⟨fun|143=>72|219=>111|217=>136|225=>137|224=>138|267=>139|266=>174|314=>175|n=>n,fun|9=>9|3=>3|4=>4|5=>5|46=>157|146=>175|51=>174|n=>n,fun|1=>0|n=>n⟩
theorem Tryz.lays143:Go.Proofs.Lays.n143 Tryz.prog Tryz.lays143_ren:={
 mixed:=by kernel_rfl
 f143:=Tryz.func72.trans (congrArg some (by kernel_rfl))
 f217:=Tryz.func136.trans (congrArg some (by kernel_rfl))
 f219:=Tryz.func111.trans (congrArg some (by kernel_rfl))
 f224:=Tryz.func138.trans (congrArg some (by kernel_rfl))
 f225:=Tryz.func137.trans (congrArg some (by kernel_rfl))
 f266:=Tryz.func174.trans (congrArg some (by kernel_rfl))
 f267:=Tryz.func139.trans (congrArg some (by kernel_rfl))
 f314:=Tryz.func175.trans (congrArg some (by kernel_rfl))
 t3:=Tryz.underlying3
 a3:=Tryz.isAgg3
 z3:=Tryz.sizeOf3
 v3:=Tryz.zeroValue3
 t4:=Tryz.underlying4
 a4:=Tryz.isAgg4
 z4:=Tryz.sizeOf4
 v4:=Tryz.zeroValue4
 t5:=Tryz.underlying5
 a5:=Tryz.isAgg5
 z5:=Tryz.sizeOf5
 v5:=Tryz.zeroValue5
 t9:=Tryz.underlying9
 a9:=Tryz.isAgg9
 z9:=Tryz.sizeOf9
 v9:=Tryz.zeroValue9
 t46:=Tryz.underlying157
 a46:=Tryz.isAgg157
 z46:=Tryz.sizeOf157
 v46:=Tryz.zeroValue157
 t51:=Tryz.underlying174
 a51:=Tryz.isAgg174
 z51:=Tryz.sizeOf174
 v51:=Tryz.zeroValue174
 t146:=Tryz.underlying175
 a146:=Tryz.isAgg175
 z146:=Tryz.sizeOf175
 v146:=Tryz.zeroValue175
 g1:=by kernel_rfl }
open Go.RowKit Go.Sort Go.Lib in
theorem Tryz.strings_Index (s sub:ByteArray) (m:Int) (w:World) (hs:s.size<4294967281) (hm:w.cell? ⟨0,0,none⟩=some (.int .i64 m)) :
  Calls Tryz.prog 72 #[.string s,.string sub] w fun e w'=>e = .returned (.int .i64 (Lib.index s.data.toList sub.data.toList))∧w'=w:=Any.strings_Index Tryz.lays143 s sub m w hs hm
end Go.Proofs
namespace Go.Pi
open Go.Proofs
theorem strings_Index.ok (n:Nat) (_:CxOk E (cx n strings_Index.d.nt)) (_:KPar (cx n strings_Index.d.nt)):strings_Index.d.Ok E (strings_Index.F (n+1)):=fun _ _ h=>nr_ (g:=0) (fun s sep m w h1 h2=>Tryz.strings_Index s sep m w h1 h2) (.tail _ (.head _)) h
end Go.Pi
end
section
namespace Go.Proofs
open Go.Shelf
def Tryz.laysC172_ren:Go.Shelf.Ren:=⟨fun|172=>87|244=>123|245=>124|247=>144|279=>145|280=>146|281=>147|282=>148|287=>176|316=>177|171=>128|205=>178|321=>197|322=>198|243=>159|246=>183|283=>203|284=>204|285=>205|286=>206|129=>219|317=>218|318=>220|319=>221|320=>222|337=>231|338=>232|n=>n,fun|9=>9|3=>3|75=>121|76=>122|4=>4|5=>5|167=>160|37=>139|0=>0|85=>161|2=>2|168=>163|53=>177|175=>178|46=>157|210=>181|127=>198|145=>201|143=>199|21=>21|171=>205|173=>208|212=>216|51=>174|20=>20|213=>217|232=>229|233=>230|80=>166|n=>n,fun|15=>1|16=>2|17=>3|18=>6|19=>7|n=>n⟩
theorem Tryz.laysC172:Go.Proofs.LaysC.n172 Tryz.prog Tryz.laysC172_ren:={
 mixed:=by kernel_rfl
 f129:=Tryz.func219.trans (congrArg some (by kernel_rfl))
 f171:=Tryz.func128.trans (congrArg some (by kernel_rfl))
 f172:=Tryz.func87.trans (congrArg some (by kernel_rfl))
 f205:=Tryz.func178.trans (congrArg some (by kernel_rfl))
 f243:=Tryz.func159.trans (congrArg some (by kernel_rfl))
 f244:=Tryz.func123.trans (congrArg some (by kernel_rfl))
 f245:=Tryz.func124.trans (congrArg some (by kernel_rfl))
 f246:=Tryz.func183.trans (congrArg some (by kernel_rfl))
 f247:=Tryz.func144.trans (congrArg some (by kernel_rfl))
 f279:=Tryz.func145.trans (congrArg some (by kernel_rfl))
 f280:=Tryz.func146.trans (congrArg some (by kernel_rfl))
 f281:=Tryz.func147.trans (congrArg some (by kernel_rfl))
 f282:=Tryz.func148.trans (congrArg some (by kernel_rfl))
 f283:=Tryz.func203.trans (congrArg some (by kernel_rfl))
 f284:=Tryz.func204.trans (congrArg some (by kernel_rfl))
 f285:=Tryz.func205.trans (congrArg some (by kernel_rfl))
 f286:=Tryz.func206.trans (congrArg some (by kernel_rfl))
 f287:=Tryz.func176.trans (congrArg some (by kernel_rfl))
 f316:=Tryz.func177.trans (congrArg some (by kernel_rfl))
 f317:=Tryz.func218.trans (congrArg some (by kernel_rfl))
 f318:=Tryz.func220.trans (congrArg some (by kernel_rfl))
 f319:=Tryz.func221.trans (congrArg some (by kernel_rfl))
 f320:=Tryz.func222.trans (congrArg some (by kernel_rfl))
 f321:=Tryz.func197.trans (congrArg some (by kernel_rfl))
 f322:=Tryz.func198.trans (congrArg some (by kernel_rfl))
 f337:=Tryz.func231.trans (congrArg some (by kernel_rfl))
 f338:=Tryz.func232.trans (congrArg some (by kernel_rfl))
 t0:=Tryz.underlying0
 a0:=Tryz.isAgg0
 z0:=Tryz.sizeOf0
 v0:=Tryz.zeroValue0
 t2:=Tryz.underlying2
 a2:=Tryz.isAgg2
 z2:=Tryz.sizeOf2
 v2:=Tryz.zeroValue2
 t3:=Tryz.underlying3
 a3:=Tryz.isAgg3
 z3:=Tryz.sizeOf3
 v3:=Tryz.zeroValue3
 t4:=Tryz.underlying4
 a4:=Tryz.isAgg4
 z4:=Tryz.sizeOf4
 v4:=Tryz.zeroValue4
 t5:=Tryz.underlying5
 a5:=Tryz.isAgg5
 z5:=Tryz.sizeOf5
 v5:=Tryz.zeroValue5
 t9:=Tryz.underlying9
 a9:=Tryz.isAgg9
 z9:=Tryz.sizeOf9
 v9:=Tryz.zeroValue9
 t20:=Tryz.underlying20
 a20:=Tryz.isAgg20
 z20:=Tryz.sizeOf20
 v20:=Tryz.zeroValue20
 t21:=Tryz.underlying21
 a21:=Tryz.isAgg21
 z21:=Tryz.sizeOf21
 v21:=Tryz.zeroValue21
 t37:=Tryz.underlying139
 a37:=Tryz.isAgg139
 z37:=Tryz.sizeOf139
 v37:=Tryz.zeroValue139
 t46:=Tryz.underlying157
 a46:=Tryz.isAgg157
 z46:=Tryz.sizeOf157
 v46:=Tryz.zeroValue157
 t51:=Tryz.underlying174
 a51:=Tryz.isAgg174
 z51:=Tryz.sizeOf174
 v51:=Tryz.zeroValue174
 t53:=Tryz.underlying177
 a53:=Tryz.isAgg177
 z53:=Tryz.sizeOf177
 v53:=Tryz.zeroValue177
 t75:=Tryz.underlying121
 a75:=Tryz.isAgg121
 z75:=Tryz.sizeOf121
 v75:=Tryz.zeroValue121
 t76:=Tryz.underlying122
 a76:=Tryz.isAgg122
 z76:=Tryz.sizeOf122
 v76:=Tryz.zeroValue122
 t85:=Tryz.underlying161
 a85:=Tryz.isAgg161
 z85:=Tryz.sizeOf161
 v85:=Tryz.zeroValue161
 t127:=Tryz.underlying198
 a127:=Tryz.isAgg198
 z127:=Tryz.sizeOf198
 v127:=Tryz.zeroValue198
 t143:=Tryz.underlying199
 a143:=Tryz.isAgg199
 z143:=Tryz.sizeOf199
 v143:=Tryz.zeroValue199
 t145:=Tryz.underlying201
 a145:=Tryz.isAgg201
 z145:=Tryz.sizeOf201
 v145:=Tryz.zeroValue201
 t167:=Tryz.underlying160
 a167:=Tryz.isAgg160
 z167:=Tryz.sizeOf160
 v167:=Tryz.zeroValue160
 t168:=Tryz.underlying163
 a168:=Tryz.isAgg163
 z168:=Tryz.sizeOf163
 v168:=Tryz.zeroValue163
 t171:=Tryz.underlying205
 a171:=Tryz.isAgg205
 z171:=Tryz.sizeOf205
 v171:=Tryz.zeroValue205
 t173:=Tryz.underlying208
 a173:=Tryz.isAgg208
 z173:=Tryz.sizeOf208
 v173:=Tryz.zeroValue208
 t175:=Tryz.underlying178
 a175:=Tryz.isAgg178
 z175:=Tryz.sizeOf178
 v175:=Tryz.zeroValue178
 t210:=Tryz.underlying181
 a210:=Tryz.isAgg181
 z210:=Tryz.sizeOf181
 v210:=Tryz.zeroValue181
 t212:=Tryz.underlying216
 a212:=Tryz.isAgg216
 z212:=Tryz.sizeOf216
 v212:=Tryz.zeroValue216
 t213:=Tryz.underlying217
 a213:=Tryz.isAgg217
 z213:=Tryz.sizeOf217
 t232:=Tryz.underlying229
 a232:=Tryz.isAgg229
 z232:=Tryz.sizeOf229
 v232:=Tryz.zeroValue229
 t233:=Tryz.underlying230
 a233:=Tryz.isAgg230
 z233:=Tryz.sizeOf230
 v233:=Tryz.zeroValue230
 g15:=by kernel_rfl
 g16:=by kernel_rfl
 g17:=by kernel_rfl
 g18:=by kernel_rfl
 g19:=by kernel_rfl
 t80:=Tryz.underlying166
 a80:=Tryz.isAgg166
 z80:=Tryz.sizeOf166
 v80:=Tryz.zeroValue166
 i0:=by kernel_rfl
 i2:=by kernel_rfl
 i3:=by kernel_rfl
 i4:=by kernel_rfl
 i5:=by kernel_rfl
 i9:=by kernel_rfl
 i20:=by kernel_rfl
 i21:=by kernel_rfl
 i37:=by kernel_rfl
 i46:=by kernel_rfl
 i51:=by kernel_rfl
 i53:=by kernel_rfl
 i75:=by kernel_rfl
 i76:=by kernel_rfl
 i80:=by kernel_rfl
 i85:=by kernel_rfl
 i127:=by kernel_rfl
 i143:=by kernel_rfl
 i145:=by kernel_rfl
 i167:=by kernel_rfl
 i168:=by kernel_rfl
 i171:=by kernel_rfl
 i173:=by kernel_rfl
 i175:=by kernel_rfl
 i210:=by kernel_rfl
 i212:=by kernel_rfl
 i232:=by kernel_rfl
 i233:=by kernel_rfl
 m15:=by kernel_rfl
 m16:=by kernel_rfl
 m17:=by kernel_rfl
 m18:=by kernel_rfl
 m19:=by kernel_rfl
 c0:=by kernel_rfl
 c2:=by kernel_rfl
 c3:=by kernel_rfl
 c4:=by kernel_rfl
 c5:=by kernel_rfl
 c9:=by kernel_rfl
 c20:=by kernel_rfl
 c21:=by kernel_rfl
 c37:=by kernel_rfl
 c46:=by kernel_rfl
 c51:=by kernel_rfl
 c53:=by kernel_rfl
 c75:=by kernel_rfl
 c76:=by kernel_rfl
 c80:=by kernel_rfl
 c85:=by kernel_rfl
 c127:=by kernel_rfl
 c143:=by kernel_rfl
 c145:=by kernel_rfl
 c167:=by kernel_rfl
 c168:=by kernel_rfl
 c171:=by kernel_rfl
 c173:=by kernel_rfl
 c175:=by kernel_rfl
 c210:=by kernel_rfl
 c212:=by kernel_rfl
 c213:=by kernel_rfl
 c232:=by kernel_rfl
 c233:=by kernel_rfl }
end Go.Proofs
namespace Go.Pi
open Go.Proofs
theorem atoiM:AtoiM E.P 87 1 2 5:=⟨fun s v w h1 h2=>Any.strconv_Atoi_ok Tryz.laysC172 s h1 v h2 w,fun s ev w h1 h2 h3 h4=>by
 cases ha:Lib.atoiAll s.data.toList
 · rename_i v;exact absurd ha (h2.1 v)
 · exact (Any.strconv_Atoi_syntax Tryz.laysC172 s h1 ha ev w h3 h4).mono fun e w' ⟨N,he,_,_,hb⟩=>⟨⟨_,_,he⟩,hb⟩
 · exact absurd ha h2.2,fun s ev w h1 h2 h3 h4=>(Any.strconv_Atoi_range Tryz.laysC172 s h1 h2 ev w h3 h4).mono fun e w' ⟨N,he,_,_,hb⟩=>⟨⟨_,_,he⟩,hb⟩⟩
end Go.Pi
namespace Go.Pi
open Go.Proofs
theorem bN_.ok (n:Nat) (_:CxOk E (cx n bN_.d.nt)) (_:KPar (cx n bN_.d.nt)):bN_.d.Ok E (bN_.F (n+1)):=fun _ _ h=>nAtoi_ok atoiM (.tail _ (.tail _ (.head _))) (.tail _ (.tail _ (.tail _ (.head _)))) h
end Go.Pi
end
section
namespace Go.Proofs
open Go.Shelf
def Tryz.lays219_ren:Go.Shelf.Ren:=⟨fun|219=>111|217=>136|225=>137|224=>138|267=>139|266=>174|314=>175|n=>n,fun|9=>9|3=>3|4=>4|5=>5|46=>157|146=>175|51=>174|n=>n,fun|1=>0|n=>n⟩
theorem Tryz.lays219:Go.Proofs.Lays.n219 Tryz.prog Tryz.lays219_ren:={
 mixed:=by kernel_rfl
 f217:=Tryz.func136.trans (congrArg some (by kernel_rfl))
 f219:=Tryz.func111.trans (congrArg some (by kernel_rfl))
 f224:=Tryz.func138.trans (congrArg some (by kernel_rfl))
 f225:=Tryz.func137.trans (congrArg some (by kernel_rfl))
 f266:=Tryz.func174.trans (congrArg some (by kernel_rfl))
 f267:=Tryz.func139.trans (congrArg some (by kernel_rfl))
 f314:=Tryz.func175.trans (congrArg some (by kernel_rfl))
 t3:=Tryz.underlying3
 a3:=Tryz.isAgg3
 z3:=Tryz.sizeOf3
 v3:=Tryz.zeroValue3
 t4:=Tryz.underlying4
 a4:=Tryz.isAgg4
 z4:=Tryz.sizeOf4
 v4:=Tryz.zeroValue4
 t5:=Tryz.underlying5
 a5:=Tryz.isAgg5
 z5:=Tryz.sizeOf5
 v5:=Tryz.zeroValue5
 t9:=Tryz.underlying9
 a9:=Tryz.isAgg9
 z9:=Tryz.sizeOf9
 v9:=Tryz.zeroValue9
 t46:=Tryz.underlying157
 a46:=Tryz.isAgg157
 z46:=Tryz.sizeOf157
 v46:=Tryz.zeroValue157
 t51:=Tryz.underlying174
 a51:=Tryz.isAgg174
 z51:=Tryz.sizeOf174
 v51:=Tryz.zeroValue174
 t146:=Tryz.underlying175
 a146:=Tryz.isAgg175
 z146:=Tryz.sizeOf175
 v146:=Tryz.zeroValue175
 g1:=by kernel_rfl }
open Go.RowKit Go.Sort Go.Lib in
theorem Tryz.stringslite_Index_one (s:ByteArray) (c:UInt8) (w:World) :
  Calls Tryz.prog 111 #[.string s,.string ⟨#[c]⟩] w fun e w'=>e = .returned (.int .i64 (Lib.indexByte s.data.toList c))∧w'=w:=Any.stringslite_Index_one Tryz.lays219 s c w
end Go.Proofs
namespace Go.Pi
open Go.Proofs
theorem a7_.ok (n:Nat) (_:CxOk E (cx n a7_.d.nt)) (_:KPar (cx n a7_.d.nt)):a7_.d.Ok E (a7_.F (n+1)):=fun _ _ h=>nIndex_ok (fun s c w=>Tryz.stringslite_Index_one s c w) h
end Go.Pi
end
section
namespace Go.Proofs
open Go.Shelf
def Tryz.laysM171_ren:Go.Shelf.Ren:=⟨fun|171=>128|243=>159|246=>183|283=>203|284=>204|285=>205|286=>206|129=>219|317=>218|318=>220|319=>221|320=>222|337=>231|338=>232|n=>n,fun|3=>3|9=>9|2=>2|4=>4|171=>205|0=>0|53=>177|37=>139|5=>5|173=>208|212=>216|51=>174|20=>20|213=>217|46=>157|232=>229|233=>230|n=>n,fun|17=>3|18=>6|19=>7|n=>n⟩
theorem Tryz.laysM171:Go.Proofs.LaysM.n171 Tryz.prog Tryz.laysM171_ren:={
 mixed:=by kernel_rfl
 f129:=Tryz.func219.trans (congrArg some (by kernel_rfl))
 f171:=Tryz.func128.trans (congrArg some (by kernel_rfl))
 f243:=Tryz.func159.trans (congrArg some (by kernel_rfl))
 f246:=Tryz.func183.trans (congrArg some (by kernel_rfl))
 f283:=Tryz.func203.trans (congrArg some (by kernel_rfl))
 f284:=Tryz.func204.trans (congrArg some (by kernel_rfl))
 f285:=Tryz.func205.trans (congrArg some (by kernel_rfl))
 f286:=Tryz.func206.trans (congrArg some (by kernel_rfl))
 f317:=Tryz.func218.trans (congrArg some (by kernel_rfl))
 f318:=Tryz.func220.trans (congrArg some (by kernel_rfl))
 f319:=Tryz.func221.trans (congrArg some (by kernel_rfl))
 f320:=Tryz.func222.trans (congrArg some (by kernel_rfl))
 f337:=Tryz.func231.trans (congrArg some (by kernel_rfl))
 f338:=Tryz.func232.trans (congrArg some (by kernel_rfl))
 t0:=Tryz.underlying0
 a0:=Tryz.isAgg0
 z0:=Tryz.sizeOf0
 v0:=Tryz.zeroValue0
 t2:=Tryz.underlying2
 a2:=Tryz.isAgg2
 z2:=Tryz.sizeOf2
 v2:=Tryz.zeroValue2
 t3:=Tryz.underlying3
 a3:=Tryz.isAgg3
 z3:=Tryz.sizeOf3
 v3:=Tryz.zeroValue3
 t4:=Tryz.underlying4
 a4:=Tryz.isAgg4
 z4:=Tryz.sizeOf4
 v4:=Tryz.zeroValue4
 t5:=Tryz.underlying5
 a5:=Tryz.isAgg5
 z5:=Tryz.sizeOf5
 v5:=Tryz.zeroValue5
 t9:=Tryz.underlying9
 a9:=Tryz.isAgg9
 z9:=Tryz.sizeOf9
 v9:=Tryz.zeroValue9
 t20:=Tryz.underlying20
 a20:=Tryz.isAgg20
 z20:=Tryz.sizeOf20
 v20:=Tryz.zeroValue20
 t37:=Tryz.underlying139
 a37:=Tryz.isAgg139
 z37:=Tryz.sizeOf139
 v37:=Tryz.zeroValue139
 t46:=Tryz.underlying157
 a46:=Tryz.isAgg157
 z46:=Tryz.sizeOf157
 v46:=Tryz.zeroValue157
 t51:=Tryz.underlying174
 a51:=Tryz.isAgg174
 z51:=Tryz.sizeOf174
 v51:=Tryz.zeroValue174
 t53:=Tryz.underlying177
 a53:=Tryz.isAgg177
 z53:=Tryz.sizeOf177
 v53:=Tryz.zeroValue177
 t171:=Tryz.underlying205
 a171:=Tryz.isAgg205
 z171:=Tryz.sizeOf205
 v171:=Tryz.zeroValue205
 t173:=Tryz.underlying208
 a173:=Tryz.isAgg208
 z173:=Tryz.sizeOf208
 v173:=Tryz.zeroValue208
 t212:=Tryz.underlying216
 a212:=Tryz.isAgg216
 z212:=Tryz.sizeOf216
 v212:=Tryz.zeroValue216
 t213:=Tryz.underlying217
 a213:=Tryz.isAgg217
 z213:=Tryz.sizeOf217
 t232:=Tryz.underlying229
 a232:=Tryz.isAgg229
 z232:=Tryz.sizeOf229
 v232:=Tryz.zeroValue229
 t233:=Tryz.underlying230
 a233:=Tryz.isAgg230
 z233:=Tryz.sizeOf230
 v233:=Tryz.zeroValue230
 g17:=by kernel_rfl
 g18:=by kernel_rfl
 g19:=by kernel_rfl
 i0:=by kernel_rfl
 i2:=by kernel_rfl
 i3:=by kernel_rfl
 i4:=by kernel_rfl
 i5:=by kernel_rfl
 i9:=by kernel_rfl
 i20:=by kernel_rfl
 i37:=by kernel_rfl
 i46:=by kernel_rfl
 i51:=by kernel_rfl
 i53:=by kernel_rfl
 i171:=by kernel_rfl
 i173:=by kernel_rfl
 i212:=by kernel_rfl
 i232:=by kernel_rfl
 i233:=by kernel_rfl
 m17:=by kernel_rfl
 m18:=by kernel_rfl
 m19:=by kernel_rfl }
open Go.RowKit Go.Sort Go.Lib in
theorem Tryz.strconv_Itoa (n:Int) (h0 : -9223372036854775808≤n) (h1:n≤9223372036854775807) (w:World) (htab:Lib.TabIs Tryz.prog w "internal/strconv.uint64pow10" .u64 Lib.pow10Tab) :
  Calls Tryz.prog 128 #[.int .i64 n] w fun e w'=>e = .returned (.string ⟨(Lib.itoa n).toArray⟩)∧∃ k os,w'=grow (w.drewN k) os:=Any.strconv_Itoa Tryz.laysM171 n h0 h1 w htab
end Go.Proofs
namespace Go.Pi
open Go.Proofs
theorem iD_:E.P.globalNamed "internal/strconv.uint64pow10" = some 3:=by kernel_rfl
theorem strconv_Itoa.ok (n:Nat) (_:CxOk E (cx n strconv_Itoa.d.nt)) (_:KPar (cx n strconv_Itoa.d.nt)):strconv_Itoa.d.Ok E (strconv_Itoa.F (n+1)):=fun _ _ h=>nItoa_ok (fun n h0 h1 w ht=>Tryz.strconv_Itoa n h0 h1 w ht) (.head _) iD_ h
end Go.Pi
end
section
namespace Go.Proofs
open Go.Shelf
def Tryz.lays156_ren:Go.Shelf.Ren:=⟨fun|156=>161|165=>184|166=>185|169=>186|240=>207|241=>208|276=>223|277=>224|n=>n,fun|31=>23|9=>9|3=>3|4=>4|0=>0|20=>20|72=>189|76=>122|70=>187|37=>139|75=>121|127=>198|164=>219|5=>5|80=>166|n=>n,fun|n=>n⟩
theorem Tryz.lays156:Go.Proofs.Lays.n156 Tryz.prog Tryz.lays156_ren:={
 mixed:=by kernel_rfl
 f156:=Tryz.func161.trans (congrArg some (by kernel_rfl))
 f165:=Tryz.func184.trans (congrArg some (by kernel_rfl))
 f166:=Tryz.func185.trans (congrArg some (by kernel_rfl))
 f169:=Tryz.func186.trans (congrArg some (by kernel_rfl))
 f240:=Tryz.func207.trans (congrArg some (by kernel_rfl))
 f241:=Tryz.func208.trans (congrArg some (by kernel_rfl))
 f276:=Tryz.func223.trans (congrArg some (by kernel_rfl))
 f277:=Tryz.func224.trans (congrArg some (by kernel_rfl))
 t0:=Tryz.underlying0
 a0:=Tryz.isAgg0
 z0:=Tryz.sizeOf0
 v0:=Tryz.zeroValue0
 t3:=Tryz.underlying3
 a3:=Tryz.isAgg3
 z3:=Tryz.sizeOf3
 v3:=Tryz.zeroValue3
 t4:=Tryz.underlying4
 a4:=Tryz.isAgg4
 z4:=Tryz.sizeOf4
 v4:=Tryz.zeroValue4
 t9:=Tryz.underlying9
 a9:=Tryz.isAgg9
 z9:=Tryz.sizeOf9
 v9:=Tryz.zeroValue9
 t20:=Tryz.underlying20
 a20:=Tryz.isAgg20
 z20:=Tryz.sizeOf20
 v20:=Tryz.zeroValue20
 t31:=Tryz.underlying23
 a31:=Tryz.isAgg23
 z31:=Tryz.sizeOf23
 v31:=Tryz.zeroValue23
 t37:=Tryz.underlying139
 a37:=Tryz.isAgg139
 z37:=Tryz.sizeOf139
 v37:=Tryz.zeroValue139
 t70:=Tryz.underlying187
 a70:=Tryz.isAgg187
 z70:=Tryz.sizeOf187
 v70:=Tryz.zeroValue187
 t72:=Tryz.underlying189
 a72:=Tryz.isAgg189
 z72:=Tryz.sizeOf189
 v72:=Tryz.zeroValue189
 t75:=Tryz.underlying121
 a75:=Tryz.isAgg121
 z75:=Tryz.sizeOf121
 v75:=Tryz.zeroValue121
 t76:=Tryz.underlying122
 a76:=Tryz.isAgg122
 z76:=Tryz.sizeOf122
 v76:=Tryz.zeroValue122
 t127:=Tryz.underlying198
 a127:=Tryz.isAgg198
 z127:=Tryz.sizeOf198
 v127:=Tryz.zeroValue198
 t164:=Tryz.underlying219
 a164:=Tryz.isAgg219
 z164:=Tryz.sizeOf219
 v164:=Tryz.zeroValue219 }
theorem Tryz.Builder_Extra_156:Builder.Extra Tryz.prog Tryz.lays156_ren:={
 sizeBuilder:=by kernel_rfl
 liesBuilder:=by kernel_rfl
 t5:=Tryz.underlying5
 a5:=Tryz.isAgg5
 z5:=Tryz.sizeOf5
 v5:=Tryz.zeroValue5
 infoByte:=by kernel_rfl
 cellsByte:=by kernel_rfl
 sizeByte:=by kernel_rfl
 neB5:=by decide }
open Go.RowKit Go.Sort Go.Lib in
theorem Tryz.strings_Join_none (a:Option Addr) (c:Nat) (sep:ByteArray) (w:World) :
  Calls Tryz.prog 161 #[.slice a 0 c,.string sep] w fun e w'=>e = .returned (.string ⟨#[]⟩)∧w'=w:=Any.strings_Join_none Tryz.lays156 Tryz.Builder_Extra_156 a c sep w
open Go.RowKit Go.Sort Go.Lib in
theorem Tryz.strings_Join (bk o c:Nat) (xs:List ByteArray) (sep:ByteArray) (w:World) (hcells:∀ (j:Nat) x,xs[j]?=some x→w.cell? ⟨bk,o+j,none⟩=some (.string x)) (hbk:bk<w.heap.size) (hN:xs.length≤140737488355328) (hcap:xs.length≤c) (hlen:(Lib.join (xs.map (·.data.toList)) sep.data.toList).length≤140737488355328) :
  Calls Tryz.prog 161 #[.slice (some ⟨bk,o,none⟩) xs.length c,.string sep] w fun e w'=>e = .returned (.string ⟨(Lib.join (xs.map (·.data.toList)) sep.data.toList).toArray⟩)∧Below w.heap.size w w':=Any.strings_Join Tryz.lays156 Tryz.Builder_Extra_156 bk o c xs sep w hcells hbk hN hcap hlen
end Go.Proofs
namespace Go.Pi
open Go.Proofs
theorem strings_Join.ok (n:Nat) (_:CxOk E (cx n strings_Join.d.nt)) (_:KPar (cx n strings_Join.d.nt)):strings_Join.d.Ok E (strings_Join.F (n+1)):=fun _ _ h=>nJoin_ok ⟨fun a c sep w=>Tryz.strings_Join_none a c sep w,fun bk o c xs sep w h1 h2 h3 h4 h5=>Tryz.strings_Join bk o c xs sep w h1 h2 h3 h4 h5⟩ (fun _=>rfl) h
end Go.Pi
end
section
namespace Go.Proofs
open Go.Shelf
def Tryz.lays146_ren:Go.Shelf.Ren:=⟨fun|146=>180|221=>199|268=>215|138=>216|143=>72|195=>228|197=>217|218=>229|219=>111|260=>230|217=>136|225=>137|224=>138|267=>139|266=>174|314=>175|n=>n,fun|9=>9|31=>23|3=>3|4=>4|0=>0|105=>213|21=>21|5=>5|46=>157|119=>225|139=>228|138=>227|146=>175|51=>174|n=>n,fun|1=>0|3=>4|4=>5|n=>n⟩
theorem Tryz.lays146:Go.Proofs.Lays.n146 Tryz.prog Tryz.lays146_ren:={
 mixed:=by kernel_rfl
 f138:=Tryz.func216.trans (congrArg some (by kernel_rfl))
 f143:=Tryz.func72.trans (congrArg some (by kernel_rfl))
 f146:=Tryz.func180.trans (congrArg some (by kernel_rfl))
 f195:=Tryz.func228.trans (congrArg some (by kernel_rfl))
 f197:=Tryz.func217.trans (congrArg some (by kernel_rfl))
 f217:=Tryz.func136.trans (congrArg some (by kernel_rfl))
 f218:=Tryz.func229.trans (congrArg some (by kernel_rfl))
 f219:=Tryz.func111.trans (congrArg some (by kernel_rfl))
 f221:=Tryz.func199.trans (congrArg some (by kernel_rfl))
 f224:=Tryz.func138.trans (congrArg some (by kernel_rfl))
 f225:=Tryz.func137.trans (congrArg some (by kernel_rfl))
 f260:=Tryz.func230.trans (congrArg some (by kernel_rfl))
 f266:=Tryz.func174.trans (congrArg some (by kernel_rfl))
 f267:=Tryz.func139.trans (congrArg some (by kernel_rfl))
 f268:=Tryz.func215.trans (congrArg some (by kernel_rfl))
 f314:=Tryz.func175.trans (congrArg some (by kernel_rfl))
 t0:=Tryz.underlying0
 a0:=Tryz.isAgg0
 z0:=Tryz.sizeOf0
 v0:=Tryz.zeroValue0
 t3:=Tryz.underlying3
 a3:=Tryz.isAgg3
 z3:=Tryz.sizeOf3
 v3:=Tryz.zeroValue3
 t4:=Tryz.underlying4
 a4:=Tryz.isAgg4
 z4:=Tryz.sizeOf4
 v4:=Tryz.zeroValue4
 t5:=Tryz.underlying5
 a5:=Tryz.isAgg5
 z5:=Tryz.sizeOf5
 v5:=Tryz.zeroValue5
 t9:=Tryz.underlying9
 a9:=Tryz.isAgg9
 z9:=Tryz.sizeOf9
 v9:=Tryz.zeroValue9
 t21:=Tryz.underlying21
 a21:=Tryz.isAgg21
 z21:=Tryz.sizeOf21
 v21:=Tryz.zeroValue21
 t31:=Tryz.underlying23
 a31:=Tryz.isAgg23
 z31:=Tryz.sizeOf23
 v31:=Tryz.zeroValue23
 t46:=Tryz.underlying157
 a46:=Tryz.isAgg157
 z46:=Tryz.sizeOf157
 v46:=Tryz.zeroValue157
 t51:=Tryz.underlying174
 a51:=Tryz.isAgg174
 z51:=Tryz.sizeOf174
 v51:=Tryz.zeroValue174
 t105:=Tryz.underlying213
 a105:=Tryz.isAgg213
 z105:=Tryz.sizeOf213
 v105:=Tryz.zeroValue213
 t119:=Tryz.underlying225
 a119:=Tryz.isAgg225
 z119:=Tryz.sizeOf225
 t138:=Tryz.underlying227
 a138:=Tryz.isAgg227
 z138:=Tryz.sizeOf227
 v138:=Tryz.zeroValue227
 t139:=Tryz.underlying228
 a139:=Tryz.isAgg228
 z139:=Tryz.sizeOf228
 v139:=Tryz.zeroValue228
 t146:=Tryz.underlying175
 a146:=Tryz.isAgg175
 z146:=Tryz.sizeOf175
 v146:=Tryz.zeroValue175
 g1:=by kernel_rfl
 g3:=by kernel_rfl
 g4:=by kernel_rfl }
open Go.RowKit Go.Sort Go.Lib in
theorem Tryz.strings_Split (s sep:ByteArray) (m:Int) (w:World) (hs:s.size<4294967281) (hm:w.cell? ⟨0,0,none⟩=some (.int .i64 m)) (h1:1≤sep.size) :
  Calls Tryz.prog 180 #[.string s,.string sep] w fun e w'=>
   e = .returned (.slice (some ⟨w.heap.size,0,none⟩) (Lib.countB s sep+1) (Lib.countB s sep+1))∧w'=w.alloc (.cells ((Lib.splitB sep 0 (Lib.countB s sep) s).map Value.string).toArray 9):=Any.strings_Split Tryz.lays146 (by kernel_rfl) s sep m w hs hm h1
end Go.Proofs
namespace Go.Pi
open Go.Proofs
theorem strings_Split.ok (n:Nat) (_:CxOk E (cx n strings_Split.d.nt)) (_:KPar (cx n strings_Split.d.nt)):strings_Split.d.Ok E (strings_Split.F (n+1)):=fun _ _ h=>nSplit_ok (g:=0) (T:=9) (fun s sep m w h1 h2 h3=>Tryz.strings_Split s sep m w h1 h2 h3) (.tail _ (.head _)) rfl (fun _ _=>rfl) rfl h
end Go.Pi
end
section
namespace Go.Proofs
open Go.Shelf
def Tryz.lays155_ren:Go.Shelf.Ren:=⟨fun|155=>181|154=>200|138=>216|165=>184|143=>72|166=>185|197=>217|169=>186|195=>228|218=>229|240=>207|241=>208|219=>111|260=>230|276=>223|277=>224|217=>136|225=>137|224=>138|267=>139|266=>174|314=>175|n=>n,fun|9=>9|3=>3|4=>4|72=>189|0=>0|76=>122|105=>213|21=>21|5=>5|70=>187|20=>20|37=>139|75=>121|127=>198|164=>219|46=>157|119=>225|139=>228|138=>227|146=>175|51=>174|80=>166|n=>n,fun|1=>0|3=>4|4=>5|n=>n⟩
theorem Tryz.lays155:Go.Proofs.Lays.n155 Tryz.prog Tryz.lays155_ren:={
 mixed:=by kernel_rfl
 f138:=Tryz.func216.trans (congrArg some (by kernel_rfl))
 f143:=Tryz.func72.trans (congrArg some (by kernel_rfl))
 f154:=Tryz.func200.trans (congrArg some (by kernel_rfl))
 f155:=Tryz.func181.trans (congrArg some (by kernel_rfl))
 f165:=Tryz.func184.trans (congrArg some (by kernel_rfl))
 f166:=Tryz.func185.trans (congrArg some (by kernel_rfl))
 f169:=Tryz.func186.trans (congrArg some (by kernel_rfl))
 f195:=Tryz.func228.trans (congrArg some (by kernel_rfl))
 f197:=Tryz.func217.trans (congrArg some (by kernel_rfl))
 f217:=Tryz.func136.trans (congrArg some (by kernel_rfl))
 f218:=Tryz.func229.trans (congrArg some (by kernel_rfl))
 f219:=Tryz.func111.trans (congrArg some (by kernel_rfl))
 f224:=Tryz.func138.trans (congrArg some (by kernel_rfl))
 f225:=Tryz.func137.trans (congrArg some (by kernel_rfl))
 f240:=Tryz.func207.trans (congrArg some (by kernel_rfl))
 f241:=Tryz.func208.trans (congrArg some (by kernel_rfl))
 f260:=Tryz.func230.trans (congrArg some (by kernel_rfl))
 f266:=Tryz.func174.trans (congrArg some (by kernel_rfl))
 f267:=Tryz.func139.trans (congrArg some (by kernel_rfl))
 f276:=Tryz.func223.trans (congrArg some (by kernel_rfl))
 f277:=Tryz.func224.trans (congrArg some (by kernel_rfl))
 f314:=Tryz.func175.trans (congrArg some (by kernel_rfl))
 t0:=Tryz.underlying0
 a0:=Tryz.isAgg0
 z0:=Tryz.sizeOf0
 v0:=Tryz.zeroValue0
 t3:=Tryz.underlying3
 a3:=Tryz.isAgg3
 z3:=Tryz.sizeOf3
 v3:=Tryz.zeroValue3
 t4:=Tryz.underlying4
 a4:=Tryz.isAgg4
 z4:=Tryz.sizeOf4
 v4:=Tryz.zeroValue4
 t5:=Tryz.underlying5
 a5:=Tryz.isAgg5
 z5:=Tryz.sizeOf5
 v5:=Tryz.zeroValue5
 t9:=Tryz.underlying9
 a9:=Tryz.isAgg9
 z9:=Tryz.sizeOf9
 v9:=Tryz.zeroValue9
 t20:=Tryz.underlying20
 a20:=Tryz.isAgg20
 z20:=Tryz.sizeOf20
 v20:=Tryz.zeroValue20
 t21:=Tryz.underlying21
 a21:=Tryz.isAgg21
 z21:=Tryz.sizeOf21
 v21:=Tryz.zeroValue21
 t37:=Tryz.underlying139
 a37:=Tryz.isAgg139
 z37:=Tryz.sizeOf139
 v37:=Tryz.zeroValue139
 t46:=Tryz.underlying157
 a46:=Tryz.isAgg157
 z46:=Tryz.sizeOf157
 v46:=Tryz.zeroValue157
 t51:=Tryz.underlying174
 a51:=Tryz.isAgg174
 z51:=Tryz.sizeOf174
 v51:=Tryz.zeroValue174
 t70:=Tryz.underlying187
 a70:=Tryz.isAgg187
 z70:=Tryz.sizeOf187
 v70:=Tryz.zeroValue187
 t72:=Tryz.underlying189
 a72:=Tryz.isAgg189
 z72:=Tryz.sizeOf189
 v72:=Tryz.zeroValue189
 t75:=Tryz.underlying121
 a75:=Tryz.isAgg121
 z75:=Tryz.sizeOf121
 v75:=Tryz.zeroValue121
 t76:=Tryz.underlying122
 a76:=Tryz.isAgg122
 z76:=Tryz.sizeOf122
 v76:=Tryz.zeroValue122
 t105:=Tryz.underlying213
 a105:=Tryz.isAgg213
 z105:=Tryz.sizeOf213
 v105:=Tryz.zeroValue213
 t119:=Tryz.underlying225
 a119:=Tryz.isAgg225
 z119:=Tryz.sizeOf225
 t127:=Tryz.underlying198
 a127:=Tryz.isAgg198
 z127:=Tryz.sizeOf198
 v127:=Tryz.zeroValue198
 t138:=Tryz.underlying227
 a138:=Tryz.isAgg227
 z138:=Tryz.sizeOf227
 v138:=Tryz.zeroValue227
 t139:=Tryz.underlying228
 a139:=Tryz.isAgg228
 z139:=Tryz.sizeOf228
 v139:=Tryz.zeroValue228
 t146:=Tryz.underlying175
 a146:=Tryz.isAgg175
 z146:=Tryz.sizeOf175
 v146:=Tryz.zeroValue175
 t164:=Tryz.underlying219
 a164:=Tryz.isAgg219
 z164:=Tryz.sizeOf219
 v164:=Tryz.zeroValue219
 g1:=by kernel_rfl
 g3:=by kernel_rfl
 g4:=by kernel_rfl }
theorem Tryz.Builder_Extra_155:Builder.Extra Tryz.prog Tryz.lays155_ren:={
 sizeBuilder:=by kernel_rfl
 liesBuilder:=by kernel_rfl
 t5:=Tryz.underlying5
 a5:=Tryz.isAgg5
 z5:=Tryz.sizeOf5
 v5:=Tryz.zeroValue5
 infoByte:=by kernel_rfl
 cellsByte:=by kernel_rfl
 sizeByte:=by kernel_rfl
 neB5:=by decide }
open Go.RowKit Go.Sort Go.Lib in
theorem Tryz.strings_ReplaceAll (s old new:ByteArray) (m:Int) (w:World) (hs:s.size<4294967281) (hm:w.cell? ⟨0,0,none⟩=some (.int .i64 m)) (h1:1≤old.size) (hlen:s.size+Lib.countB s old*new.size≤140737488355328) :
  Calls Tryz.prog 181 #[.string s,.string old,.string new] w fun e w'=>
   e = .returned (.string ⟨(Lib.replaceAll s.data.toList old.data.toList new.data.toList).toArray⟩)∧Below w.heap.size w w':=Any.strings_ReplaceAll Tryz.lays155 Tryz.Builder_Extra_155 s old new m w hs hm h1 hlen
end Go.Proofs
namespace Go.Pi
open Go.Proofs
theorem strings_ReplaceAll.ok (n:Nat) (_:CxOk E (cx n strings_ReplaceAll.d.nt)) (_:KPar (cx n strings_ReplaceAll.d.nt)):strings_ReplaceAll.d.Ok E (strings_ReplaceAll.F (n+1)):=fun _ _ h=>nRepl_ok (g:=0) (fun s old new m w h1 h2 h3 h4=>Tryz.strings_ReplaceAll s old new m w h1 h2 h3 h4) (.tail _ (.head _)) h
end Go.Pi
end
section
namespace Go.Pi
open Go.Proofs
theorem kpar (n nt:Nat):KPar (cx n nt):=KH_par (l:=KL n) ⟨FD.kp,FD.kp,FD.kp,FD.kp,FD.kp,FD.kp,FD.kp,FD.kp,FD.kp,FD.kp,FD.kp,FD.kp,FD.kp,FD.kp,FD.kp,FD.kp,FD.kp,FD.kp,FD.kp,FD.kp,FD.kp,FD.kp,FD.kp,FD.kp,FD.kp,FD.kp,FD.kp,FD.kp,FD.kp,FD.kp,FD.kp,FD.kp,FD.kp,FD.kp,FD.kp,FD.kp,FD.kp,FD.kp,FD.kp,FD.kp,FD.kp,FD.kp,FD.kp,FD.kp,FD.kp,FD.kp,FD.kp,FD.kp,FD.kp,FD.kp,FD.kp,FD.kp,FD.kp,FD.kp,FD.kp,FD.kp,FD.kp,FD.kp,FD.kp,FD.kp,FD.kp,FD.kp,FD.kp,FD.kp,FD.kp,FD.kp,FD.kp,FD.kp,FD.kp,FD.kp,FD.kp,FD.kp,FD.kp,FD.kp,FD.kp,FD.kp,FD.kp,FD.kp,FD.kp,FD.kp,FD.kp,FD.kp,FD.kp,FD.kp,FD.kp,FD.kp,FD.kp,FD.kp,FD.kp,FD.kp,FD.kp,FD.kp,FD.kp,FD.kp,FD.kp,FD.kp,FD.kp,FD.kp,FD.kp,FD.kp,FD.kp,FD.kp,FD.kp,FD.kp,FD.kp,FD.kp,FD.kp,FD.kp,FD.kp,FD.kp,FD.kp,FD.kp,FD.kp,FD.kp,FD.kp,FD.kp,trivial⟩
structure AllOk (n:Nat):Prop where
 h0:b1_.d.Ok E (b1_.F n)
 h1:bL_.d.Ok E (bL_.F n)
 h2:bb_.d.Ok E (bb_.F n)
 h3:aT_.d.Ok E (aT_.F n)
 h4:bv_.d.Ok E (bv_.F n)
 h5:bM_.d.Ok E (bM_.F n)
 h6:ay_.d.Ok E (ay_.F n)
 h7:aL_.d.Ok E (aL_.F n)
 h8:b3_.d.Ok E (b3_.F n)
 h9:br_.d.Ok E (br_.F n)
 h10:az_.d.Ok E (az_.F n)
 h11:aP_.d.Ok E (aP_.F n)
 h12:bg_.d.Ok E (bg_.F n)
 h13:bd_.d.Ok E (bd_.F n)
 h14:ad_.d.Ok E (ad_.F n)
 h15:cs_.d.Ok E (cs_.F n)
 h16:aG_.d.Ok E (aG_.F n)
 h17:bV_.d.Ok E (bV_.F n)
 h18:aZ_.d.Ok E (aZ_.F n)
 h19:aC_.d.Ok E (aC_.F n)
 h20:b0_.d.Ok E (b0_.F n)
 h21:b9_.d.Ok E (b9_.F n)
 h22:bw_.d.Ok E (bw_.F n)
 h23:a9_.d.Ok E (a9_.F n)
 h24:cj_.d.Ok E (cj_.F n)
 h25:bS_.d.Ok E (bS_.F n)
 h26:aN_.d.Ok E (aN_.F n)
 h27:ah_.d.Ok E (ah_.F n)
 h28:bt_.d.Ok E (bt_.F n)
 h29:as_.d.Ok E (as_.F n)
 h30:bk_.d.Ok E (bk_.F n)
 h31:cf_.d.Ok E (cf_.F n)
 h32:bX_.d.Ok E (bX_.F n)
 h33:aK_.d.Ok E (aK_.F n)
 h34:bc_.d.Ok E (bc_.F n)
 h35:b5_.d.Ok E (b5_.F n)
 h36:bH_.d.Ok E (bH_.F n)
 h37:ac_.d.Ok E (ac_.F n)
 h38:bq_.d.Ok E (bq_.F n)
 h39:strings_Index.d.Ok E (strings_Index.F n)
 h40:ax_.d.Ok E (ax_.F n)
 h41:aE_.d.Ok E (aE_.F n)
 h42:bp_.d.Ok E (bp_.F n)
 h43:a7_.d.Ok E (a7_.F n)
 h44:aY_.d.Ok E (aY_.F n)
 h45:cn_.d.Ok E (cn_.F n)
 h46:aA_.d.Ok E (aA_.F n)
 h47:bl_.d.Ok E (bl_.F n)
 h48:b8_.d.Ok E (b8_.F n)
 h49:bN_.d.Ok E (bN_.F n)
 h50:a5_.d.Ok E (a5_.F n)
 h51:bs_.d.Ok E (bs_.F n)
 h52:bi_.d.Ok E (bi_.F n)
 h53:ai_.d.Ok E (ai_.F n)
 h54:af_.d.Ok E (af_.F n)
 h55:aS_.d.Ok E (aS_.F n)
 h56:ag_.d.Ok E (ag_.F n)
 h57:aI_.d.Ok E (aI_.F n)
 h58:bf_.d.Ok E (bf_.F n)
 h59:au_.d.Ok E (au_.F n)
 h60:ao_.d.Ok E (ao_.F n)
 h61:ct_.d.Ok E (ct_.F n)
 h62:a1_.d.Ok E (a1_.F n)
 h63:bW_.d.Ok E (bW_.F n)
 h64:be_.d.Ok E (be_.F n)
 h65:strconv_Itoa.d.Ok E (strconv_Itoa.F n)
 h66:strings_Join.d.Ok E (strings_Join.F n)
 h67:aR_.d.Ok E (aR_.F n)
 h68:b2_.d.Ok E (b2_.F n)
 h69:b4_.d.Ok E (b4_.F n)
 h70:ak_.d.Ok E (ak_.F n)
 h71:bI_.d.Ok E (bI_.F n)
 h72:aM_.d.Ok E (aM_.F n)
 h73:cr_.d.Ok E (cr_.F n)
 h74:strings_Split.d.Ok E (strings_Split.F n)
 h75:strings_ReplaceAll.d.Ok E (strings_ReplaceAll.F n)
 h76:a0_.d.Ok E (a0_.F n)
 h77:a6_.d.Ok E (a6_.F n)
 h78:bT_.d.Ok E (bT_.F n)
 h79:ca_.d.Ok E (ca_.F n)
 h80:bu_.d.Ok E (bu_.F n)
 h81:cg_.d.Ok E (cg_.F n)
 h82:ci_.d.Ok E (ci_.F n)
 h83:am_.d.Ok E (am_.F n)
 h84:ab_.d.Ok E (ab_.F n)
 h85:ck_.d.Ok E (ck_.F n)
 h86:bY_.d.Ok E (bY_.F n)
 h87:cb_.d.Ok E (cb_.F n)
 h88:bh_.d.Ok E (bh_.F n)
 h89:bU_.d.Ok E (bU_.F n)
 h90:bF_.d.Ok E (bF_.F n)
 h91:aX_.d.Ok E (aX_.F n)
 h92:bJ_.d.Ok E (bJ_.F n)
 h93:b7_.d.Ok E (b7_.F n)
 h94:ch_.d.Ok E (ch_.F n)
 h95:bK_.d.Ok E (bK_.F n)
 h96:bA_.d.Ok E (bA_.F n)
 h97:bm_.d.Ok E (bm_.F n)
 h98:bO_.d.Ok E (bO_.F n)
 h99:a4_.d.Ok E (a4_.F n)
 h100:aJ_.d.Ok E (aJ_.F n)
 h101:bG_.d.Ok E (bG_.F n)
 h102:cE_.d.Ok E (cE_.F n)
 h103:bn_.d.Ok E (bn_.F n)
 h104:b6_.d.Ok E (b6_.F n)
 h105:aU_.d.Ok E (aU_.F n)
 h106:aF_.d.Ok E (aF_.F n)
 h107:aq_.d.Ok E (aq_.F n)
 h108:av_.d.Ok E (av_.F n)
 h109:a2_.d.Ok E (a2_.F n)
 h110:aD_.d.Ok E (aD_.F n)
 h111:ar_.d.Ok E (ar_.F n)
 h112:aw_.d.Ok E (aw_.F n)
 h113:a3_.d.Ok E (a3_.F n)
 h114:aB_.d.Ok E (aB_.F n)
 h115:laws_FnExactFeed.d.Ok E (laws_FnExactFeed.F n)
theorem kok (n nt:Nat) (a:AllOk n):KOk E (cx n nt):=KH_ok (l:=KL n) ⟨FD.kf (d:=laws_FnExactFeed.d) Tryz.func6 (by kernel_rfl) (by kernel_rfl) (by kernel_rfl) a.h115,FD.kf (d:=ac_.d) Tryz.func9 (by kernel_rfl) (by kernel_rfl) (by kernel_rfl) a.h37,FD.kf (d:=bA_.d) Tryz.func10 (by kernel_rfl) (by kernel_rfl) (by kernel_rfl) a.h96,FD.kf (d:=b6_.d) Tryz.func11 (by kernel_rfl) (by kernel_rfl) (by kernel_rfl) a.h104,FD.kf (d:=aU_.d) Tryz.func27 (by kernel_rfl) (by kernel_rfl) (by kernel_rfl) a.h105,FD.kf (d:=aD_.d) Tryz.func28 (by kernel_rfl) (by kernel_rfl) (by kernel_rfl) a.h110,FD.kf (d:=b1_.d) Tryz.func29 (by kernel_rfl) (by kernel_rfl) (by kernel_rfl) a.h0,FD.kf (d:=bq_.d) Tryz.func30 (by kernel_rfl) (by kernel_rfl) (by kernel_rfl) a.h38,FD.kf (d:=bL_.d) Tryz.func31 (by kernel_rfl) (by kernel_rfl) (by kernel_rfl) a.h1,FD.kf (d:=bm_.d) Tryz.func32 (by kernel_rfl) (by kernel_rfl) (by kernel_rfl) a.h97,FD.kf (d:=bO_.d) Tryz.func33 (by kernel_rfl) (by kernel_rfl) (by kernel_rfl) a.h98,FD.kf (d:=aB_.d) Tryz.func34 (by kernel_rfl) (by kernel_rfl) (by kernel_rfl) a.h114,FD.kf (d:=aJ_.d) Tryz.func39 (by kernel_rfl) (by kernel_rfl) (by kernel_rfl) a.h100,FD.kf (d:=aq_.d) Tryz.func40 (by kernel_rfl) (by kernel_rfl) (by kernel_rfl) a.h107,FD.kf (d:=aT_.d) Tryz.func43 (by kernel_rfl) (by kernel_rfl) (by kernel_rfl) a.h3,FD.kf (d:=bv_.d) Tryz.func44 (by kernel_rfl) (by kernel_rfl) (by kernel_rfl) a.h4,FD.kf (d:=b3_.d) Tryz.func45 (by kernel_rfl) (by kernel_rfl) (by kernel_rfl) a.h8,FD.kf (d:=b9_.d) Tryz.func46 (by kernel_rfl) (by kernel_rfl) (by kernel_rfl) a.h21,FD.kf (d:=aK_.d) Tryz.func47 (by kernel_rfl) (by kernel_rfl) (by kernel_rfl) a.h33,FD.kf (d:=bH_.d) Tryz.func48 (by kernel_rfl) (by kernel_rfl) (by kernel_rfl) a.h36,FD.kf (d:=bU_.d) Tryz.func49 (by kernel_rfl) (by kernel_rfl) (by kernel_rfl) a.h89,FD.kf (d:=bK_.d) Tryz.func50 (by kernel_rfl) (by kernel_rfl) (by kernel_rfl) a.h95,FD.kf (d:=bG_.d) Tryz.func51 (by kernel_rfl) (by kernel_rfl) (by kernel_rfl) a.h101,FD.kf (d:=bn_.d) Tryz.func52 (by kernel_rfl) (by kernel_rfl) (by kernel_rfl) a.h103,FD.kf (d:=a2_.d) Tryz.func54 (by kernel_rfl) (by kernel_rfl) (by kernel_rfl) a.h109,FD.kf (d:=a3_.d) Tryz.func56 (by kernel_rfl) (by kernel_rfl) (by kernel_rfl) a.h113,FD.kf (d:=b5_.d) Tryz.func60 (by kernel_rfl) (by kernel_rfl) (by kernel_rfl) a.h35,FD.kf (d:=a9_.d) Tryz.func61 (by kernel_rfl) (by kernel_rfl) (by kernel_rfl) a.h23,FD.kf (d:=b7_.d) Tryz.func66 (by kernel_rfl) (by kernel_rfl) (by kernel_rfl) a.h93,FD.kf (d:=aM_.d) Tryz.func67 (by kernel_rfl) (by kernel_rfl) (by kernel_rfl) a.h72,FD.kf (d:=aF_.d) Tryz.func69 (by kernel_rfl) (by kernel_rfl) (by kernel_rfl) a.h106,FD.kf (d:=av_.d) Tryz.func70 (by kernel_rfl) (by kernel_rfl) (by kernel_rfl) a.h108,FD.kf (d:=bb_.d) Tryz.func71 (by kernel_rfl) (by kernel_rfl) (by kernel_rfl) a.h2,FD.kf (d:=strings_Index.d) Tryz.func72 (by kernel_rfl) (by kernel_rfl) (by kernel_rfl) a.h39,FD.kf (d:=aw_.d) Tryz.func73 (by kernel_rfl) (by kernel_rfl) (by kernel_rfl) a.h112,FD.kf (d:=ar_.d) Tryz.func74 (by kernel_rfl) (by kernel_rfl) (by kernel_rfl) a.h111,FD.kf (d:=ay_.d) Tryz.func75 (by kernel_rfl) (by kernel_rfl) (by kernel_rfl) a.h6,FD.kf (d:=aL_.d) Tryz.func76 (by kernel_rfl) (by kernel_rfl) (by kernel_rfl) a.h7,FD.kf (d:=bg_.d) Tryz.func77 (by kernel_rfl) (by kernel_rfl) (by kernel_rfl) a.h12,FD.kf (d:=b0_.d) Tryz.func78 (by kernel_rfl) (by kernel_rfl) (by kernel_rfl) a.h20,FD.kf (d:=cj_.d) Tryz.func79 (by kernel_rfl) (by kernel_rfl) (by kernel_rfl) a.h24,FD.kf (d:=bS_.d) Tryz.func80 (by kernel_rfl) (by kernel_rfl) (by kernel_rfl) a.h25,FD.kf (d:=aN_.d) Tryz.func81 (by kernel_rfl) (by kernel_rfl) (by kernel_rfl) a.h26,FD.kf (d:=bX_.d) Tryz.func82 (by kernel_rfl) (by kernel_rfl) (by kernel_rfl) a.h32,FD.kf (d:=cf_.d) Tryz.func83 (by kernel_rfl) (by kernel_rfl) (by kernel_rfl) a.h31,FD.kf (d:=bc_.d) Tryz.func84 (by kernel_rfl) (by kernel_rfl) (by kernel_rfl) a.h34,FD.kf (d:=bp_.d) Tryz.func85 (by kernel_rfl) (by kernel_rfl) (by kernel_rfl) a.h42,FD.kf (d:=b8_.d) Tryz.func86 (by kernel_rfl) (by kernel_rfl) (by kernel_rfl) a.h48,FD.kf (d:=bN_.d) Tryz.func87 (by kernel_rfl) (by kernel_rfl) (by kernel_rfl) a.h49,FD.kf (d:=b4_.d) Tryz.func88 (by kernel_rfl) (by kernel_rfl) (by kernel_rfl) a.h69,FD.kf (d:=bl_.d) Tryz.func89 (by kernel_rfl) (by kernel_rfl) (by kernel_rfl) a.h47,FD.kf (d:=bh_.d) Tryz.func90 (by kernel_rfl) (by kernel_rfl) (by kernel_rfl) a.h88,FD.kf (d:=ch_.d) Tryz.func91 (by kernel_rfl) (by kernel_rfl) (by kernel_rfl) a.h94,FD.kf (d:=b2_.d) Tryz.func92 (by kernel_rfl) (by kernel_rfl) (by kernel_rfl) a.h68,FD.kf (d:=aX_.d) Tryz.func93 (by kernel_rfl) (by kernel_rfl) (by kernel_rfl) a.h91,FD.kf (d:=a4_.d) Tryz.func94 (by kernel_rfl) (by kernel_rfl) (by kernel_rfl) a.h99,FD.kf (d:=cE_.d) Tryz.func95 (by kernel_rfl) (by kernel_rfl) (by kernel_rfl) a.h102,FD.kf (d:=cs_.d) Tryz.func98 (by kernel_rfl) (by kernel_rfl) (by kernel_rfl) a.h15,FD.kf (d:=ah_.d) Tryz.func99 (by kernel_rfl) (by kernel_rfl) (by kernel_rfl) a.h27,FD.kf (d:=bV_.d) Tryz.func100 (by kernel_rfl) (by kernel_rfl) (by kernel_rfl) a.h17,FD.kf (d:=bF_.d) Tryz.func104 (by kernel_rfl) (by kernel_rfl) (by kernel_rfl) a.h90,FD.kf (d:=aS_.d) Tryz.func105 (by kernel_rfl) (by kernel_rfl) (by kernel_rfl) a.h55,FD.kf (d:=ca_.d) Tryz.func106 (by kernel_rfl) (by kernel_rfl) (by kernel_rfl) a.h79,FD.kf (d:=bJ_.d) Tryz.func107 (by kernel_rfl) (by kernel_rfl) (by kernel_rfl) a.h92,FD.kf (d:=bI_.d) Tryz.func108 (by kernel_rfl) (by kernel_rfl) (by kernel_rfl) a.h71,FD.kf (d:=bW_.d) Tryz.func109 (by kernel_rfl) (by kernel_rfl) (by kernel_rfl) a.h63,FD.kf (d:=a7_.d) Tryz.func111 (by kernel_rfl) (by kernel_rfl) (by kernel_rfl) a.h43,FD.kf (d:=bM_.d) Tryz.func112 (by kernel_rfl) (by kernel_rfl) (by kernel_rfl) a.h5,FD.kf (d:=br_.d) Tryz.func113 (by kernel_rfl) (by kernel_rfl) (by kernel_rfl) a.h9,FD.kf (d:=az_.d) Tryz.func114 (by kernel_rfl) (by kernel_rfl) (by kernel_rfl) a.h10,FD.kf (d:=aP_.d) Tryz.func115 (by kernel_rfl) (by kernel_rfl) (by kernel_rfl) a.h11,FD.kf (d:=aC_.d) Tryz.func116 (by kernel_rfl) (by kernel_rfl) (by kernel_rfl) a.h19,FD.kf (d:=bw_.d) Tryz.func117 (by kernel_rfl) (by kernel_rfl) (by kernel_rfl) a.h22,FD.kf (d:=bt_.d) Tryz.func118 (by kernel_rfl) (by kernel_rfl) (by kernel_rfl) a.h28,FD.kf (d:=as_.d) Tryz.func119 (by kernel_rfl) (by kernel_rfl) (by kernel_rfl) a.h29,FD.kf (d:=bk_.d) Tryz.func120 (by kernel_rfl) (by kernel_rfl) (by kernel_rfl) a.h30,FD.kf (d:=aE_.d) Tryz.func121 (by kernel_rfl) (by kernel_rfl) (by kernel_rfl) a.h41,FD.kf (d:=cn_.d) Tryz.func122 (by kernel_rfl) (by kernel_rfl) (by kernel_rfl) a.h45,FD.kf (d:=aI_.d) Tryz.func125 (by kernel_rfl) (by kernel_rfl) (by kernel_rfl) a.h57,FD.kf (d:=aA_.d) Tryz.func126 (by kernel_rfl) (by kernel_rfl) (by kernel_rfl) a.h46,FD.kf (d:=cb_.d) Tryz.func127 (by kernel_rfl) (by kernel_rfl) (by kernel_rfl) a.h87,FD.kf (d:=strconv_Itoa.d) Tryz.func128 (by kernel_rfl) (by kernel_rfl) (by kernel_rfl) a.h65,FD.kf (d:=aR_.d) Tryz.func129 (by kernel_rfl) (by kernel_rfl) (by kernel_rfl) a.h67,FD.kf (d:=ci_.d) Tryz.func130 (by kernel_rfl) (by kernel_rfl) (by kernel_rfl) a.h82,FD.kf (d:=aG_.d) Tryz.func131 (by kernel_rfl) (by kernel_rfl) (by kernel_rfl) a.h16,FD.kf (d:=a1_.d) Tryz.func133 (by kernel_rfl) (by kernel_rfl) (by kernel_rfl) a.h62,FD.kf (d:=bu_.d) Tryz.func134 (by kernel_rfl) (by kernel_rfl) (by kernel_rfl) a.h80,FD.kf (d:=aZ_.d) Tryz.func140 (by kernel_rfl) (by kernel_rfl) (by kernel_rfl) a.h18,FD.kf (d:=bd_.d) Tryz.func141 (by kernel_rfl) (by kernel_rfl) (by kernel_rfl) a.h13,FD.kf (d:=ax_.d) Tryz.func142 (by kernel_rfl) (by kernel_rfl) (by kernel_rfl) a.h40,FD.kf (d:=aY_.d) Tryz.func143 (by kernel_rfl) (by kernel_rfl) (by kernel_rfl) a.h44,FD.kf (d:=a5_.d) Tryz.func149 (by kernel_rfl) (by kernel_rfl) (by kernel_rfl) a.h50,FD.kf (d:=bs_.d) Tryz.func150 (by kernel_rfl) (by kernel_rfl) (by kernel_rfl) a.h51,FD.kf (d:=ai_.d) Tryz.func151 (by kernel_rfl) (by kernel_rfl) (by kernel_rfl) a.h53,FD.kf (d:=af_.d) Tryz.func152 (by kernel_rfl) (by kernel_rfl) (by kernel_rfl) a.h54,FD.kf (d:=ag_.d) Tryz.func153 (by kernel_rfl) (by kernel_rfl) (by kernel_rfl) a.h56,FD.kf (d:=cr_.d) Tryz.func154 (by kernel_rfl) (by kernel_rfl) (by kernel_rfl) a.h73,FD.kf (d:=a6_.d) Tryz.func155 (by kernel_rfl) (by kernel_rfl) (by kernel_rfl) a.h77,FD.kf (d:=ak_.d) Tryz.func156 (by kernel_rfl) (by kernel_rfl) (by kernel_rfl) a.h70,FD.kf (d:=bT_.d) Tryz.func157 (by kernel_rfl) (by kernel_rfl) (by kernel_rfl) a.h78,FD.kf (d:=bY_.d) Tryz.func158 (by kernel_rfl) (by kernel_rfl) (by kernel_rfl) a.h86,FD.kf (d:=be_.d) Tryz.func160 (by kernel_rfl) (by kernel_rfl) (by kernel_rfl) a.h64,FD.kf (d:=strings_Join.d) Tryz.func161 (by kernel_rfl) (by kernel_rfl) (by kernel_rfl) a.h66,FD.kf (d:=a0_.d) Tryz.func162 (by kernel_rfl) (by kernel_rfl) (by kernel_rfl) a.h76,FD.kf (d:=cg_.d) Tryz.func163 (by kernel_rfl) (by kernel_rfl) (by kernel_rfl) a.h81,FD.kf (d:=ad_.d) Tryz.func164 (by kernel_rfl) (by kernel_rfl) (by kernel_rfl) a.h14,FD.kf (d:=ct_.d) Tryz.func168 (by kernel_rfl) (by kernel_rfl) (by kernel_rfl) a.h61,FD.kf (d:=au_.d) Tryz.func169 (by kernel_rfl) (by kernel_rfl) (by kernel_rfl) a.h59,FD.kf (d:=bi_.d) Tryz.func179 (by kernel_rfl) (by kernel_rfl) (by kernel_rfl) a.h52,FD.kf (d:=strings_Split.d) Tryz.func180 (by kernel_rfl) (by kernel_rfl) (by kernel_rfl) a.h74,FD.kf (d:=strings_ReplaceAll.d) Tryz.func181 (by kernel_rfl) (by kernel_rfl) (by kernel_rfl) a.h75,FD.kf (d:=ck_.d) Tryz.func182 (by kernel_rfl) (by kernel_rfl) (by kernel_rfl) a.h85,FD.kf (d:=bf_.d) Tryz.func189 (by kernel_rfl) (by kernel_rfl) (by kernel_rfl) a.h58,FD.kf (d:=ao_.d) Tryz.func190 (by kernel_rfl) (by kernel_rfl) (by kernel_rfl) a.h60,FD.kf (d:=am_.d) Tryz.func201 (by kernel_rfl) (by kernel_rfl) (by kernel_rfl) a.h83,FD.kf (d:=ab_.d) Tryz.func202 (by kernel_rfl) (by kernel_rfl) (by kernel_rfl) a.h84,trivial⟩
theorem cM_ (n nt:Nat) (a:AllOk n):CxOk E (cx n nt):=⟨ttOk,tcOk,u8Ok,kok n nt a⟩
theorem bR_:∀ n,AllOk n
 |0=>⟨fun _ _ h=>(by cases h),fun _ _ h=>(by cases h),fun _ _ h=>(by cases h),fun _ _ h=>(by cases h),fun _ _ h=>(by cases h),fun _ _ h=>(by cases h),fun _ _ h=>(by cases h),fun _ _ h=>(by cases h),fun _ _ h=>(by cases h),fun _ _ h=>(by cases h),fun _ _ h=>(by cases h),fun _ _ h=>(by cases h),fun _ _ h=>(by cases h),fun _ _ h=>(by cases h),fun _ _ h=>(by cases h),fun _ _ h=>(by cases h),fun _ _ h=>(by cases h),fun _ _ h=>(by cases h),fun _ _ h=>(by cases h),fun _ _ h=>(by cases h),fun _ _ h=>(by cases h),fun _ _ h=>(by cases h),fun _ _ h=>(by cases h),fun _ _ h=>(by cases h),fun _ _ h=>(by cases h),fun _ _ h=>(by cases h),fun _ _ h=>(by cases h),fun _ _ h=>(by cases h),fun _ _ h=>(by cases h),fun _ _ h=>(by cases h),fun _ _ h=>(by cases h),fun _ _ h=>(by cases h),fun _ _ h=>(by cases h),fun _ _ h=>(by cases h),fun _ _ h=>(by cases h),fun _ _ h=>(by cases h),fun _ _ h=>(by cases h),fun _ _ h=>(by cases h),fun _ _ h=>(by cases h),fun _ _ h=>(by cases h),fun _ _ h=>(by cases h),fun _ _ h=>(by cases h),fun _ _ h=>(by cases h),fun _ _ h=>(by cases h),fun _ _ h=>(by cases h),fun _ _ h=>(by cases h),fun _ _ h=>(by cases h),fun _ _ h=>(by cases h),fun _ _ h=>(by cases h),fun _ _ h=>(by cases h),fun _ _ h=>(by cases h),fun _ _ h=>(by cases h),fun _ _ h=>(by cases h),fun _ _ h=>(by cases h),fun _ _ h=>(by cases h),fun _ _ h=>(by cases h),fun _ _ h=>(by cases h),fun _ _ h=>(by cases h),fun _ _ h=>(by cases h),fun _ _ h=>(by cases h),fun _ _ h=>(by cases h),fun _ _ h=>(by cases h),fun _ _ h=>(by cases h),fun _ _ h=>(by cases h),fun _ _ h=>(by cases h),fun _ _ h=>(by cases h),fun _ _ h=>(by cases h),fun _ _ h=>(by cases h),fun _ _ h=>(by cases h),fun _ _ h=>(by cases h),fun _ _ h=>(by cases h),fun _ _ h=>(by cases h),fun _ _ h=>(by cases h),fun _ _ h=>(by cases h),fun _ _ h=>(by cases h),fun _ _ h=>(by cases h),fun _ _ h=>(by cases h),fun _ _ h=>(by cases h),fun _ _ h=>(by cases h),fun _ _ h=>(by cases h),fun _ _ h=>(by cases h),fun _ _ h=>(by cases h),fun _ _ h=>(by cases h),fun _ _ h=>(by cases h),fun _ _ h=>(by cases h),fun _ _ h=>(by cases h),fun _ _ h=>(by cases h),fun _ _ h=>(by cases h),fun _ _ h=>(by cases h),fun _ _ h=>(by cases h),fun _ _ h=>(by cases h),fun _ _ h=>(by cases h),fun _ _ h=>(by cases h),fun _ _ h=>(by cases h),fun _ _ h=>(by cases h),fun _ _ h=>(by cases h),fun _ _ h=>(by cases h),fun _ _ h=>(by cases h),fun _ _ h=>(by cases h),fun _ _ h=>(by cases h),fun _ _ h=>(by cases h),fun _ _ h=>(by cases h),fun _ _ h=>(by cases h),fun _ _ h=>(by cases h),fun _ _ h=>(by cases h),fun _ _ h=>(by cases h),fun _ _ h=>(by cases h),fun _ _ h=>(by cases h),fun _ _ h=>(by cases h),fun _ _ h=>(by cases h),fun _ _ h=>(by cases h),fun _ _ h=>(by cases h),fun _ _ h=>(by cases h),fun _ _ h=>(by cases h),fun _ _ h=>(by cases h),fun _ _ h=>(by cases h)⟩
 |n+1=>⟨b1_.ok n (cM_ n _ (bR_ n)) (kpar n _),bL_.ok n (cM_ n _ (bR_ n)) (kpar n _),bb_.ok n (cM_ n _ (bR_ n)) (kpar n _),aT_.ok n (cM_ n _ (bR_ n)) (kpar n _),bv_.ok n (cM_ n _ (bR_ n)) (kpar n _),bM_.ok n (cM_ n _ (bR_ n)) (kpar n _),ay_.ok n (cM_ n _ (bR_ n)) (kpar n _),aL_.ok n (cM_ n _ (bR_ n)) (kpar n _),b3_.ok n (cM_ n _ (bR_ n)) (kpar n _),br_.ok n (cM_ n _ (bR_ n)) (kpar n _),az_.ok n (cM_ n _ (bR_ n)) (kpar n _),aP_.ok n (cM_ n _ (bR_ n)) (kpar n _),bg_.ok n (cM_ n _ (bR_ n)) (kpar n _),bd_.ok n (cM_ n _ (bR_ n)) (kpar n _),ad_.ok n (cM_ n _ (bR_ n)) (kpar n _),cs_.ok n (cM_ n _ (bR_ n)) (kpar n _),aG_.ok n (cM_ n _ (bR_ n)) (kpar n _),bV_.ok n (cM_ n _ (bR_ n)) (kpar n _),aZ_.ok n (cM_ n _ (bR_ n)) (kpar n _),aC_.ok n (cM_ n _ (bR_ n)) (kpar n _),b0_.ok n (cM_ n _ (bR_ n)) (kpar n _),b9_.ok n (cM_ n _ (bR_ n)) (kpar n _),bw_.ok n (cM_ n _ (bR_ n)) (kpar n _),a9_.ok n (cM_ n _ (bR_ n)) (kpar n _),cj_.ok n (cM_ n _ (bR_ n)) (kpar n _),bS_.ok n (cM_ n _ (bR_ n)) (kpar n _),aN_.ok n (cM_ n _ (bR_ n)) (kpar n _),ah_.ok n (cM_ n _ (bR_ n)) (kpar n _),bt_.ok n (cM_ n _ (bR_ n)) (kpar n _),as_.ok n (cM_ n _ (bR_ n)) (kpar n _),bk_.ok n (cM_ n _ (bR_ n)) (kpar n _),cf_.ok n (cM_ n _ (bR_ n)) (kpar n _),bX_.ok n (cM_ n _ (bR_ n)) (kpar n _),aK_.ok n (cM_ n _ (bR_ n)) (kpar n _),bc_.ok n (cM_ n _ (bR_ n)) (kpar n _),b5_.ok n (cM_ n _ (bR_ n)) (kpar n _),bH_.ok n (cM_ n _ (bR_ n)) (kpar n _),ac_.ok n (cM_ n _ (bR_ n)) (kpar n _),bq_.ok n (cM_ n _ (bR_ n)) (kpar n _),strings_Index.ok n (cM_ n _ (bR_ n)) (kpar n _),ax_.ok n (cM_ n _ (bR_ n)) (kpar n _),aE_.ok n (cM_ n _ (bR_ n)) (kpar n _),bp_.ok n (cM_ n _ (bR_ n)) (kpar n _),a7_.ok n (cM_ n _ (bR_ n)) (kpar n _),aY_.ok n (cM_ n _ (bR_ n)) (kpar n _),cn_.ok n (cM_ n _ (bR_ n)) (kpar n _),aA_.ok n (cM_ n _ (bR_ n)) (kpar n _),bl_.ok n (cM_ n _ (bR_ n)) (kpar n _),b8_.ok n (cM_ n _ (bR_ n)) (kpar n _),bN_.ok n (cM_ n _ (bR_ n)) (kpar n _),a5_.ok n (cM_ n _ (bR_ n)) (kpar n _),bs_.ok n (cM_ n _ (bR_ n)) (kpar n _),bi_.ok n (cM_ n _ (bR_ n)) (kpar n _),ai_.ok n (cM_ n _ (bR_ n)) (kpar n _),af_.ok n (cM_ n _ (bR_ n)) (kpar n _),aS_.ok n (cM_ n _ (bR_ n)) (kpar n _),ag_.ok n (cM_ n _ (bR_ n)) (kpar n _),aI_.ok n (cM_ n _ (bR_ n)) (kpar n _),bf_.ok n (cM_ n _ (bR_ n)) (kpar n _),au_.ok n (cM_ n _ (bR_ n)) (kpar n _),ao_.ok n (cM_ n _ (bR_ n)) (kpar n _),ct_.ok n (cM_ n _ (bR_ n)) (kpar n _),a1_.ok n (cM_ n _ (bR_ n)) (kpar n _),bW_.ok n (cM_ n _ (bR_ n)) (kpar n _),be_.ok n (cM_ n _ (bR_ n)) (kpar n _),strconv_Itoa.ok n (cM_ n _ (bR_ n)) (kpar n _),strings_Join.ok n (cM_ n _ (bR_ n)) (kpar n _),aR_.ok n (cM_ n _ (bR_ n)) (kpar n _),b2_.ok n (cM_ n _ (bR_ n)) (kpar n _),b4_.ok n (cM_ n _ (bR_ n)) (kpar n _),ak_.ok n (cM_ n _ (bR_ n)) (kpar n _),bI_.ok n (cM_ n _ (bR_ n)) (kpar n _),aM_.ok n (cM_ n _ (bR_ n)) (kpar n _),cr_.ok n (cM_ n _ (bR_ n)) (kpar n _),strings_Split.ok n (cM_ n _ (bR_ n)) (kpar n _),strings_ReplaceAll.ok n (cM_ n _ (bR_ n)) (kpar n _),a0_.ok n (cM_ n _ (bR_ n)) (kpar n _),a6_.ok n (cM_ n _ (bR_ n)) (kpar n _),bT_.ok n (cM_ n _ (bR_ n)) (kpar n _),ca_.ok n (cM_ n _ (bR_ n)) (kpar n _),bu_.ok n (cM_ n _ (bR_ n)) (kpar n _),cg_.ok n (cM_ n _ (bR_ n)) (kpar n _),ci_.ok n (cM_ n _ (bR_ n)) (kpar n _),am_.ok n (cM_ n _ (bR_ n)) (kpar n _),ab_.ok n (cM_ n _ (bR_ n)) (kpar n _),ck_.ok n (cM_ n _ (bR_ n)) (kpar n _),bY_.ok n (cM_ n _ (bR_ n)) (kpar n _),cb_.ok n (cM_ n _ (bR_ n)) (kpar n _),bh_.ok n (cM_ n _ (bR_ n)) (kpar n _),bU_.ok n (cM_ n _ (bR_ n)) (kpar n _),bF_.ok n (cM_ n _ (bR_ n)) (kpar n _),aX_.ok n (cM_ n _ (bR_ n)) (kpar n _),bJ_.ok n (cM_ n _ (bR_ n)) (kpar n _),b7_.ok n (cM_ n _ (bR_ n)) (kpar n _),ch_.ok n (cM_ n _ (bR_ n)) (kpar n _),bK_.ok n (cM_ n _ (bR_ n)) (kpar n _),bA_.ok n (cM_ n _ (bR_ n)) (kpar n _),bm_.ok n (cM_ n _ (bR_ n)) (kpar n _),bO_.ok n (cM_ n _ (bR_ n)) (kpar n _),a4_.ok n (cM_ n _ (bR_ n)) (kpar n _),aJ_.ok n (cM_ n _ (bR_ n)) (kpar n _),bG_.ok n (cM_ n _ (bR_ n)) (kpar n _),cE_.ok n (cM_ n _ (bR_ n)) (kpar n _),bn_.ok n (cM_ n _ (bR_ n)) (kpar n _),b6_.ok n (cM_ n _ (bR_ n)) (kpar n _),aU_.ok n (cM_ n _ (bR_ n)) (kpar n _),aF_.ok n (cM_ n _ (bR_ n)) (kpar n _),aq_.ok n (cM_ n _ (bR_ n)) (kpar n _),av_.ok n (cM_ n _ (bR_ n)) (kpar n _),a2_.ok n (cM_ n _ (bR_ n)) (kpar n _),aD_.ok n (cM_ n _ (bR_ n)) (kpar n _),ar_.ok n (cM_ n _ (bR_ n)) (kpar n _),aw_.ok n (cM_ n _ (bR_ n)) (kpar n _),a3_.ok n (cM_ n _ (bR_ n)) (kpar n _),aB_.ok n (cM_ n _ (bR_ n)) (kpar n _),laws_FnExactFeed.ok n (cM_ n _ (bR_ n)) (kpar n _)⟩
end Go.Pi
end
section
namespace Go.Pi
inductive Kd where
 |i (k:IntKind)
 |b
 |s
 |sl (t:TC)
def kdsL (P:Program) (rec_:TypeId→Option (List Kd)):List Field→Nat→Option (List Kd)
 |[],_=>some []
 |f::fs,off=>cond (Nat.beq f.offset off) (match rec_ f.type with
  |some ks=>cond (Nat.beq (P.cellsOf f.type) ks.length) (match kdsL P rec_ fs (off+ks.length) with
   |some r=>some (ks++r)
   |none=>none) none
  |none=>none) none
def kds (P:Program) (hJ_:TypeId→Option TC):Nat→TypeId→Option (List Kd)
 |0,_=>none
 |d+1,T=>match P.underlying T with
  |some (.int k)=>some [.i k]
  |some .bool=>some [.b]
  |some .string=>some [.s]
  |some (.slice e)=>match hJ_ e with
   |some t=>some [.sl t]
   |none=>none
  |some (.struct fs)=>match kdsL P (kds P hJ_ d) fs.toList 0 with
   |some ks=>cond (Nat.beq (P.cellsOf T) ks.length) (some ks) none
   |none=>none
  |_=>none
inductive Good [an_]:AV→Prop
 |i (k n):(Lit.int k n).wf=true→Good (.i k n)
 |b (q):Good (.b q)
 |s (l):l.length≤maxLen→Good (.s l)
 |sl (t xs):xs.length≤maxLen→(∀ x ∈ xs,∀ c ∈ an_.enc .v t x,Good c)→Good (.sl .v t xs)
def KindOk:Kd→AV→Prop
 |.i k,a=>∃ n,a = .i k n
 |.b,a=>∃ q,a = .b q
 |.s,a=>∃ l,a = .s l
 |.sl t,a=>∃ xs,a = .sl .v t xs
def hM_:List Kd→List AV→Prop
 |[],[]=>True
 |k::ks,a::l=>KindOk k a∧hM_ ks l
 |_,_=>False
section
variable {H:Type} {enc:TypeId × Value→H} {P:Program} {w:World} {spare:Nat→Bool}
def ls_ (enc:TypeId × Value→H) (P:Program) (w:World) (spare:Nat→Bool) (eid:TC→TypeId) (F:Nat):Kd→Value→Prop
 |.i k,v=>∃ n,v = .int k n∧(Lit.int k n).wf=true
 |.b,v=>∃ q,v = .bool q
 |.s,v=>∃ s:ByteArray,v = .string s∧s.size≤maxLen
 |.sl t,v=>v = .slice none 0 0∨∃ (a:Addr) (len cap N:Nat),v = .slice (some a) len cap∧len≤cap∧cap≤maxLen∧N<F ∧
   ∀ i,i<len→∃ cs x,w.cells? 0 (a.add (i*P.cellsOf (eid t))) (P.cellsOf (eid t))=some cs∧DataW.trod enc P w 0 spare true N (eid t) cs=some x
def dL_ (enc:TypeId × Value→H) (P:Program) (w:World) (spare:Nat→Bool) (eid:TC→TypeId) (F:Nat):List Kd→List Value→Prop
 |[],[]=>True
 |k::ks,v::vs=>ls_ enc P w spare eid F k v∧dL_ enc P w spare eid F ks vs
 |_,_=>False
theorem ls_.mono {eid:TC→TypeId} {F F':Nat} (hF:F≤F') {k:Kd} {v:Value} (h:ls_ enc P w spare eid F k v):ls_ enc P w spare eid F' k v:=by
 cases k with
 |sl t=>
  rcases h with h|⟨a,len,cap,N,h1,h2,h3,h4,h5⟩
  · exact .inl h
  · exact .inr ⟨a,len,cap,N,h1,h2,h3,Nat.lt_of_lt_of_le h4 hF,h5⟩
 |_=>exact h
theorem dL_.mono {eid:TC→TypeId} {F F':Nat} (hF:F≤F'):∀ {ks:List Kd} {vs:List Value},dL_ enc P w spare eid F ks vs→dL_ enc P w spare eid F' ks vs
 |[],[],_=>trivial
 |k::ks,v::vs,h=>⟨h.1.mono hF,dL_.mono hF h.2⟩
 |[],_::_,h=>h.elim
 |_::_,[],h=>h.elim
theorem dL_.append {eid:TC→TypeId} {F:Nat}:∀ {ks:List Kd} {vs:List Value} {ks':List Kd} {vs':List Value},dL_ enc P w spare eid F ks vs→dL_ enc P w spare eid F ks' vs'→dL_ enc P w spare eid F (ks++ks') (vs++vs')
 |[],[],_,_,_,h=>h
 |k::ks,v::vs,_,_,h,h'=>⟨h.1,dL_.append h.2 h'⟩
 |[],_::_,_,_,h,_=>h.elim
 |_::_,[],_,_,h,_=>h.elim
theorem jx_ {hJ_:TypeId→Option TC} {eid:TC→TypeId} {n:Nat} {rec_:TypeId→Option (List Kd)} {cs:List Value} (hrec:∀ T ks cs x,rec_ T=some ks→DataW.trod enc P w 0 spare true n T cs=some x→dL_ enc P w spare eid n ks cs) :
  ∀ (fs:List Field) (off:Nat) (ks:List Kd),kdsL P rec_ fs off=some ks→(∀ f ∈ fs,∃ x,DataW.trod enc P w 0 spare true n f.type ((cs.drop f.offset).take (P.cellsOf f.type))=some x)→off+ks.length=cs.length→dL_ enc P w spare eid n ks (cs.drop off)
 |[],off,ks,h,_,hl=>by
  simp only [kdsL,Option.some.injEq] at h
  subst h
  rw [List.drop_eq_nil_of_le (by simp at hl;omega)]
  trivial
 |f::fs,off,ks,h,hx,hl=>by
  simp only [kdsL] at h
  obtain ⟨h1,h2⟩:=cc_ h
  have h1:=cD_.1 h1
  cases hr:rec_ f.type with
  |none=>rw [hr] at h2;cases h2
  |some k1=>
   rw [hr] at h2
   obtain ⟨h3,h4⟩:=cc_ h2
   have h3:=cD_.1 h3
   cases hk:kdsL P rec_ fs (off+k1.length) with
   |none=>rw [hk] at h4;cases h4
   |some r=>
    rw [hk] at h4
    simp only [Option.some.injEq] at h4
    subst h4
    obtain ⟨x,hx1⟩:=hx f (List.mem_cons_self ..)
    have h5:=hrec _ _ _ _ hr hx1
    have h6:=jx_ (hJ_:=hJ_) hrec fs (off+k1.length) r hk (fun g hg=>hx g (List.mem_cons_of_mem _ hg)) (by simp at hl;omega)
    rw [h1,h3] at h5
    have:cs.drop off=(cs.drop off).take k1.length++cs.drop (off+k1.length):=by rw [←List.drop_drop,List.take_append_drop]
    rw [this]
    exact h5.append h6
theorem jM_ {hJ_:TypeId→Option TC} {eid:TC→TypeId} (hcode:∀ e t,hJ_ e=some t→eid t=e):∀ (d F:Nat) (T:TypeId) (ks:List Kd) (cs:List Value) (x:DataW H × List MemPlace),kds P hJ_ d T=some ks→DataW.trod enc P w 0 spare true F T cs=some x→dL_ enc P w spare eid F ks cs
 |0,F,T,ks,cs,x,hk,h=>by cases hk
 |d+1,F,T,ks,cs,x,hk,h=>by
  simp only [kds] at hk
  cases hu:P.underlying T with
  |none=>rw [hu] at hk;cases hk
  |some u=>
   rw [hu] at hk
   cases u<;>simp only at hk<;>(try (cases hk;done))
   case bool=>
    cases hk
    obtain ⟨q,rfl,_⟩:=DataW.trod_bool hu h
    exact ⟨⟨q,rfl⟩,trivial⟩
   case int k=>
    cases hk
    obtain ⟨n,rfl,_,hw⟩:=DataW.trod_int hu h
    exact ⟨⟨n,rfl,hw⟩,trivial⟩
   case string=>
    cases hk
    obtain ⟨s,rfl,_,hs⟩:=DataW.trod_string hu h
    exact ⟨⟨s,rfl,hs⟩,trivial⟩
   case slice e=>
    cases hc:hJ_ e with
    |none=>rw [hc] at hk;cases hk
    |some t=>
     rw [hc] at hk
     cases hk
     have he:=hcode e t hc
     rcases DataW.trod_slice hu h with ⟨rfl,_⟩|⟨a,len,cap,elems,fn_,n,hF,rfl,_,_,hl,hm,hlen,hel,_,_⟩
     · exact ⟨.inl rfl,trivial⟩
     · refine ⟨.inr ⟨a,len,cap,n,rfl,hl,hm,by omega,fun i hi => ?_⟩,trivial⟩
       have h1:=hel i hi
       rw [List.getElem?_eq_getElem (by omega)] at h1
       rw [Option.bind_eq_some_iff] at h1
       obtain ⟨cs,k1,k2⟩:=h1
       exact ⟨cs,_,by rw [he];exact k1,by rw [he];exact k2⟩
   case struct fs=>
    obtain ⟨xs,n,hF,_,hcl,hxl,hx⟩:=DataW.trod_struct hu h
    cases hks:kdsL P (kds P hJ_ d) fs.toList 0 with
    |none=>rw [hks] at hk;cases hk
    |some ks'=>
     rw [hks] at hk
     obtain ⟨h1,h2⟩:=cc_ hk
     have h1:=cD_.1 h1
     cases h2
     subst hF
     have:=jx_ (hJ_:=hJ_) (eid:=eid) (n:=n) (cs:=cs) (fun T ks cs x k1 k2=>jM_ hcode d n T ks cs x k1 k2) fs.toList 0 ks hks (fun f hf=>by
      obtain ⟨i,hi⟩:=List.getElem?_of_mem hf
      have hi':fs[i]?=some f:=by simpa using hi
      have h3:=hx i f hi'
      have hlt:i<xs.length:=by rw [hxl];exact (Array.getElem?_eq_some_iff.1 hi').1
      rw [List.getElem?_eq_getElem hlt] at h3
      exact ⟨_,h3⟩) (by omega)
     exact (this.mono (Nat.le_succ n))
end
end Go.Pi
end
section
namespace Go.Pi
variable [an_]
open an_
variable {H:Type} {enc':TypeId × Value→H} {E:Env} {w:World} {spare:Nat→Bool}
abbrev NoF:Nat→Prop:=fun _=>False
omit [an_] in
theorem ig_:∀ {ks:List Kd} {l c:List AV},hM_ ks l→sims .v l c→c=l
 |[],[],[],_,_=>rfl
 |k::ks,a::l,b::c,h,hs=>by
  have e:=ig_ h.2 hs.2
  subst e
  have h1:=h.1
  have h2:=hs.1
  cases k<;>obtain ⟨x,rfl⟩:=h1<;>simp only [AV.sim] at h2<;>rw [h2]
 |[],[],_::_,_,h=>h.elim
 |[],_::_,_,h,_=>h.elim
 |_::_,[],_,h,_=>h.elim
 |_::_,_::_,[],_,h=>h.elim
structure iR_ (E:Env) (hJ_:TypeId→Option TC) (kinds:TC→List Kd) (d:Nat):Prop where
 codeOk:∀ e t,hJ_ e=some t→E.eid t=e
 kdsOk:∀ t,kds E.P hJ_ d (E.eid t)=some (kinds t)
 dec:∀ t l,hM_ (kinds t) l→∃ y,dec t l=some y
 cells:∀ t,E.P.cellsOf (E.eid t)=t.width
theorem kL_ [ap_] {t:TC} {N:Nat} (hel:∀ cs x,DataW.trod enc' E.P w 0 spare true N (E.eid t) cs=some x→∃ y:El t,RL E w NoF (enc .v t y) cs (fun _=>0)∧∀ c ∈ enc .v t y,Good c) {b o:Nat} (hW:E.P.cellsOf (E.eid t)=t.width) :
  ∀ len,(∀ i,i<len→∃ cs x,w.cells? 0 ((⟨b,o,none⟩:Addr).add (i*E.P.cellsOf (E.eid t))) (E.P.cellsOf (E.eid t))=some cs∧DataW.trod enc' E.P w 0 spare true N (E.eid t) cs=some x) →
  ∃ (xs:List (El t)) (vals:List Value),xs.length=len∧vals.length=len*t.width∧RL E w NoF (bj_ .v t xs) vals (fun _=>0)∧w.rangeAt b o vals∧∀ x ∈ xs,∀ c ∈ enc .v t x,Good c
 |0,_=>⟨[],[],rfl,by simp,RL.nil (fun _=>0) fun _=>rfl,fun j v h=>by simp at h,fun x hx=>by cases hx⟩
 |len+1,h=>by
  obtain ⟨xs,vals,h1,h2,h3,h4,h5⟩:=kL_ hel hW len fun i hi=>h i (by omega)
  obtain ⟨cs,x,k1,k2⟩:=h len (Nat.lt_succ_self _)
  obtain ⟨y,j1,j2⟩:=hel cs x k2
  obtain ⟨_,hl,hc⟩:=World.cells?_some k1
  rw [hW] at hl hc
  refine ⟨xs++[y],vals++cs,by simp [h1],by rw [List.length_append,h2,hl];exact (Nat.succ_mul _ _).symm,?_,fun j v hj => ?_,fun x hx => ?_⟩
  · rw [cq_]
    refine RL.append h3 (φ':=fun _=>0) ?_ (fun b=>rfl)
    simpa [bj_] using j1
  · by_cases hlt:j<vals.length
    · rw [List.getElem?_append_left hlt] at hj
      exact h4 j v hj
    · rw [List.getElem?_append_right (by omega)] at hj
      have hjl:j - vals.length<t.width:=by rw [←hl];exact (List.getElem?_eq_some_iff.1 hj).1
      have:=hc (j - vals.length) hjl
      rw [Addr.add_mid,Addr.add_mid,hj] at this
      rw [←this]
      congr 2
      omega
  · rcases List.mem_append.1 hx with hx|hx
    · exact h5 x hx
    · rw [List.mem_singleton] at hx;subst hx;exact j2
theorem cell_open [ap_] {hJ_:TypeId→Option TC} {kinds:TC→List Kd} {d:Nat} (hk:iR_ E hJ_ kinds d) {F:Nat} (ih:∀ N,N<F→∀ t cs x,DataW.trod enc' E.P w 0 spare true N (E.eid t) cs=some x→∃ y:El t,RL E w NoF (enc .v t y) cs (fun _=>0)∧∀ c ∈ enc .v t y,Good c) {k:Kd} {v:Value} (h:ls_ enc' E.P w spare E.eid F k v) :
  ∃ a,KindOk k a∧RL E w NoF [a] [v] (fun _=>0)∧Good a:=by
 cases k with
 |i k=>obtain ⟨n,rfl,hw⟩:=h;exact ⟨.i k n,⟨n,rfl⟩,.scal _ _ _ _ _ rfl (.nil _ fun _=>rfl),.i _ _ hw⟩
 |b=>obtain ⟨q,rfl⟩:=h;exact ⟨.b q,⟨q,rfl⟩,.scal _ _ _ _ _ rfl (.nil _ fun _=>rfl),.b _⟩
 |s=>
  obtain ⟨s,rfl,hs⟩:=h
  refine ⟨.s s.data.toList,⟨_,rfl⟩,.scal _ _ _ _ _ ?_ (.nil _ fun _=>rfl),.s _ ?_⟩
  · show Value.string s = .string ⟨s.data.toList.toArray⟩
    simp
  · rw [Array.length_toList];exact hs
 |sl t=>
  rcases h with rfl|⟨a,len,cap,N,rfl,hl,hm,hN,hel⟩
  · exact ⟨.sl .v t [],⟨_,rfl⟩,.view t [] none 0 0 [] (fun _=>0) _ _ _ ⟨rfl,Nat.le_refl _⟩ (.nil _ fun _=>rfl) (fun _=>rfl) (fun hp=>by omega) (.nil _ fun _=>rfl),.sl _ _ (Nat.zero_le _) (fun x hx=>by cases hx)⟩
  · cases len with
    |zero=>exact ⟨.sl .v t [],⟨_,rfl⟩,.view t [] (some a) 0 cap [] (fun _=>0) _ _ _ ⟨rfl,hl⟩ (.nil _ fun _=>rfl) (fun _=>rfl) (fun hp=>by omega) (.nil _ fun _=>rfl),.sl _ _ (Nat.zero_le _) (fun x hx=>by cases hx)⟩
    |succ len=>
     have hW:=hk.cells t
     have hpos:0<t.width:=ap_.pos t
     obtain ⟨cs0,x0,k1,_⟩:=hel 0 (Nat.succ_pos _)
     obtain ⟨_,hl0,hc0⟩:=World.cells?_some k1
     have hcell:=hc0 0 (by rw [hW];exact hpos)
     rw [List.getElem?_eq_getElem (by rw [hl0,hW];exact hpos)] at hcell
     have ha:a.spot=none:=by
      have h0:(a.add (0*E.P.cellsOf (E.eid t))).add 0=a:=by simp [Addr.add]
      rw [h0] at hcell
      unfold World.cell? at hcell
      split at hcell
      · cases hs:a.spot with
        |none=>rfl
        |some q=>simp [hs] at hcell
      · cases hcell
     obtain ⟨b,o,sp⟩:=a
     simp only at ha
     subst ha
     have hb:b<w.heap.size:=World.cells?_block k1 (by rw [hW];exact hpos) |> fun h=>by simpa [Addr.add] using h
     obtain ⟨xs,vals,e1,e2,e3,e4,e5⟩:=kL_ (ih N hN t) hW (len+1) hel
     refine ⟨.sl .v t xs,⟨_,rfl⟩,?_,.sl _ _ (by omega) e5⟩
     exact .view t xs (some ⟨b,o,none⟩) (len+1) cap vals (fun _=>0) _ _ _ ⟨e1.symm,hl⟩ e3 (fun _=>rfl) (fun _=>⟨b,o,rfl,e4,hb,fun h=>h⟩) (.nil _ fun _=>rfl)
theorem hu_ [ap_] {hJ_:TypeId→Option TC} {kinds:TC→List Kd} {d:Nat} (hk:iR_ E hJ_ kinds d) {F:Nat} (ih:∀ N,N<F→∀ t cs x,DataW.trod enc' E.P w 0 spare true N (E.eid t) cs=some x→∃ y:El t,RL E w NoF (enc .v t y) cs (fun _=>0)∧∀ c ∈ enc .v t y,Good c) :
  ∀ {ks:List Kd} {vs:List Value},dL_ enc' E.P w spare E.eid F ks vs→∃ l,hM_ ks l∧RL E w NoF l vs (fun _=>0)∧∀ c ∈ l,Good c
 |[],[],_=>⟨[],trivial,.nil _ fun _=>rfl,fun c hc=>by cases hc⟩
 |k::ks,v::vs,h=>by
  obtain ⟨a,h1,h2,h3⟩:=cell_open hk ih h.1
  obtain ⟨l,k1,k2,k3⟩:=hu_ hk ih h.2
  refine ⟨a::l,⟨h1,k1⟩,RL.cons h2 k2 (fun b=>rfl),fun c hc => ?_⟩
  rcases List.mem_cons.1 hc with rfl|hc
  · exact h3
  · exact k3 c hc
 |[],_::_,h=>h.elim
 |_::_,[],h=>h.elim
theorem el_open [ap_] {hJ_:TypeId→Option TC} {kinds:TC→List Kd} {d:Nat} (hk:iR_ E hJ_ kinds d):∀ (F:Nat) (t:TC) (cs:List Value) (x:DataW H × List MemPlace),DataW.trod enc' E.P w 0 spare true F (E.eid t) cs=some x →
  ∃ y:El t,RL E w NoF (enc .v t y) cs (fun _=>0)∧∀ c ∈ enc .v t y,Good c:=by
 intro F
 induction F using Nat.strongRecOn with
 |_ F ih=>
  intro t cs x h
  have h1:=jM_ hk.codeOk d F _ _ _ _ (hk.kdsOk t) h
  obtain ⟨l,h2,h3,h4⟩:=hu_ hk ih h1
  obtain ⟨y,hy⟩:=hk.dec t l h2
  have h5:=ap_.dec .v t l y hy
  have h6:=ig_ h2 h5
  exact ⟨y,by rw [h6];exact h3,by rw [h6];exact h4⟩
theorem na_ [ap_] {hJ_:TypeId→Option TC} {kinds:TC→List Kd} {d:Nat} (hk:iR_ E hJ_ kinds d) {T:TypeId} {ks:List Kd} (hT:kds E.P hJ_ d T=some ks) {v:Value} {dd:DataW H} {ps:List MemPlace} (h:DataW.Trod enc' E.P w 0 spare true T v dd ps) :
  ∃ l,hM_ ks l∧RL E w NoF l v.cells.toList (fun _=>0)∧∀ c ∈ l,Good c:=by
 obtain ⟨F,hF⟩:=h
 exact hu_ hk (fun N _=>el_open hk N) (jM_ hk.codeOk d F T ks _ _ hT hF)
end Go.Pi
end
section
namespace Go.Pi
open Go.RowKit
variable [an_]
open an_
omit [an_] in
theorem c3_ {k:Kd} {ks:List Kd} {l:List AV} (h:hM_ (k::ks) l):∃ a l',l=a::l'∧KindOk k a∧hM_ ks l':=by
 cases l with
 |nil=>exact h.elim
 |cons a l=>exact ⟨a,l,rfl,h.1,h.2⟩
omit [an_] in
theorem du_ {l:List AV} (h:hM_ [] l):l=[]:=by
 cases l with
 |nil=>rfl
 |cons a l=>exact h.elim
def codeL (eid:TC→TypeId):List TC→TypeId→Option TC
 |[],_=>none
 |t::ts,e=>cond (Nat.beq (eid t) e) (some t) (codeL eid ts e)
omit [an_] in
theorem m6_ {eid:TC→TypeId} {e:TypeId} {t:TC}:∀ ts,codeL eid ts e=some t→eid t=e
 |[],h=>by cases h
 |u::ts,h=>by
  simp only [codeL] at h
  cases hb:Nat.beq (eid u) e with
  |true=>rw [hb] at h;cases h;exact cD_.1 hb
  |false=>rw [hb] at h;exact m6_ ts h
theorem law_true [ap_] {E:Env} {f:FuncId} {avs:List AV} {outs:List AV} {ps:List PS} (h:dm_ E f avs (.b true) outs ps) {w:World} (hgl:Glob E w NoF) {Vs:List Value} (hr:RL E w NoF avs Vs (fun _=>0)) :
  Calls E.P f Vs.toArray w fun e W'=>e = .returned (.bool true)∧Below w.heap.size w W':=by
 refine (h w NoF Vs _ hr (fun _=>Nat.zero_le _) (fun b hb=>hb.elim) hgl).mono fun e W' ⟨V,φ',he,h1,_,_,e1,e2,e3,e4,e5⟩=>⟨?_,e1,e2,e3,e4,fun k hk=>e5 k hk rfl⟩
 cases h1 with
 |scal a v l vs φ hs _=>rw [he,show V = .bool true from hs]
theorem ag_open {E:Env} {w:World} {l:List AV} {cs:Array Value} (h:RL E w NoF l (Value.agg cs).cells.toList (fun _=>0)) {l':List AV} {vs:List Value} (h':RL E w NoF l' vs (fun _=>0)) :
  RL E w NoF (.ag l::l') (.agg cs::vs) (fun _=>0):=by
 have:=RL.ag (E:=E) (w:=w) (F:=NoF) l cs.toList (fun _=>0) l' vs (fun _=>0) (fun _=>0) h h' (fun b=>rfl)
 simpa using this
end Go.Pi
end
section
namespace Go.Pi
open Go.Proofs Go.Proofs.YtccdklkcfjmchaaGreatDoor
open Go.ChangeShapes Go.WideShapes Go.ChangeAt Go.RowKit
def hJ_:TypeId→Option TC:=codeL eid [.str,.u8,.iEvent,.iJson,.iOp,.lJson,.lOp]
def kinds:TC→List Kd
 |.str=>[.s]
 |.u8=>[.i .u8]
 |.iEvent=>[.i .i64,.i .i64,.i .i64,.i .i64,.i .i64,.s,.sl .iJson,.sl .str,.sl .iOp]
 |.iJson=>[.i .i64,.i .i64,.s,.sl .iJson,.sl .str]
 |.iOp=>[.i .i64,.sl .str,.i .i64,.i .i64,.s,.sl .iJson,.sl .str]
 |.lJson=>[.i .i64,.i .i64,.s,.sl .lJson,.sl .str]
 |.lOp=>[.i .i64,.sl .str,.i .i64,.i .i64,.s,.sl .lJson,.sl .str]
theorem kindsOk:iR_ E hJ_ kinds 12 where
 codeOk:=fun e t h=>m6_ _ h
 kdsOk:=by intro t;cases t<;>kernel_rfl
 cells:=by intro t;cases t<;>kernel_rfl
 dec:=by
  intro t l h
  cases t with
  |str=>
   iterate 1 (replace h:=c3_ h;obtain ⟨_,_,rfl,⟨_,rfl⟩,h⟩:=h)
   replace h:=du_ h;subst h;exact ⟨_,rfl⟩
  |u8=>
   iterate 1 (replace h:=c3_ h;obtain ⟨_,_,rfl,⟨_,rfl⟩,h⟩:=h)
   replace h:=du_ h;subst h;exact ⟨_,rfl⟩
  |iEvent=>
   iterate 9 (replace h:=c3_ h;obtain ⟨_,_,rfl,⟨_,rfl⟩,h⟩:=h)
   replace h:=du_ h;subst h;exact ⟨_,rfl⟩
  |iJson=>
   iterate 5 (replace h:=c3_ h;obtain ⟨_,_,rfl,⟨_,rfl⟩,h⟩:=h)
   replace h:=du_ h;subst h;exact ⟨_,rfl⟩
  |iOp=>
   iterate 7 (replace h:=c3_ h;obtain ⟨_,_,rfl,⟨_,rfl⟩,h⟩:=h)
   replace h:=du_ h;subst h;exact ⟨_,rfl⟩
  |lJson=>
   iterate 5 (replace h:=c3_ h;obtain ⟨_,_,rfl,⟨_,rfl⟩,h⟩:=h)
   replace h:=du_ h;subst h;exact ⟨_,rfl⟩
  |lOp=>
   iterate 7 (replace h:=c3_ h;obtain ⟨_,_,rfl,⟨_,rfl⟩,h⟩:=h)
   replace h:=du_ h;subst h;exact ⟨_,rfl⟩
namespace laws_FnExactFeed
theorem own:ownKnob Tryz.prog.godebug=none:=by kernel_rfl
theorem laidOut:laidOutB Tryz.prog=true:=by kernel_rfl
def nj_:DataW Unit→ByteArray
 |.iface _ (.ptr (.agg [.lit (.string l)]))=>⟨l.toArray⟩
 |_=>ByteArray.empty
def tab1:DataW Unit→List Value
 |.lit (.int k n)=>[Value.int k n]
 |_=>[]
def tab2:DataW Unit→List Value
 |.agg l=>l.flatMap tab1
 |d=>tab1 d
def tabOf:DataW Unit→Array Value
 |.agg l=>(l.flatMap tab2).toArray
 |_ => #[]
def Pure:Prop:=∀ (o:aO_) (append:Bs),(∀ c ∈ ([.s o.wait,.b o.bad]:List AV),Good c)→(∀ c ∈ ([.s append]:List AV),Good c)→∃ n,Go.Pi.laws_FnExactFeed n o append=some true
noncomputable def low:Nat:=(World.holding Tryz.prog default ⟨#[],#[],[]⟩).heap.size
noncomputable def kY_ (os:Os):World :=
 let w0:=World.holding Tryz.prog os ⟨#[.cells #[.string (nj_ Rows.laid_strconv_ErrRange)] 201,.cells #[.string (nj_ Rows.laid_strconv_ErrSyntax)] 201],#[],[]⟩
 let put:=fun (h:Array Obj) (g:Nat) (cs:Array Value)=>h.modify g fun
  |.cells _ t frozen=>.cells cs t frozen
  |o=>o
 { w0 with heap:=put (put (put (put (put (put (put (w0.heap) 6 (tabOf Rows.laid_math_bits_deBruijn32tab)) 7 (tabOf Rows.laid_math_bits_deBruijn64tab)) 3 (tabOf Rows.laid_internal_strconv_uint64pow10)) 5 (tabOf Rows.laid_unicode_utf8_acceptRanges)) 2 (#[.iface 199 (.pointer (some ⟨low+0,0,none⟩))])) 1 (#[.iface 199 (.pointer (some ⟨low+1,0,none⟩))])) 4 (tabOf Rows.laid_unicode_utf8_first) }
theorem j8_ (os:Os) (args:Array Value):laidMet Tryz.prog Rows.fnExactFeedRow.laid ((kY_ os).forCall (fun _ _=>0) ⟨#[],args,[]⟩).memory :=
 laidMet_of_run' 8 (by kernel_rfl) (by kernel_rfl)
theorem lifted (hp:Pure) (os:Os) (started:os.Started) (H:Type) (enc:TypeId × Value→H) :
  ReturnsInHanded {} Tryz.checked os 6 .any (fun w args=>(Rows.fnExactFeedSpec.pre enc Tryz.prog Tryz.f6 Rows.fnExactFeedRow.domain false w args∧laidMet Tryz.prog Rows.fnExactFeedRow.laid w)∧sizedMet enc Tryz.prog Tryz.f6 (OpenSpec.ofChange Rows.fnExactFeedSpec) false w args) (Rows.fnExactFeedSpec.post enc Tryz.prog Tryz.f6 false true false false):=by
 refine returnsInHanded_of_calls own started (by kernel_rfl) (ChangeSpec.witness_at (enc:=enc) (C:=Tryz.checked) (os:=os) (X:=fun w _=>laidMet Tryz.prog Rows.fnExactFeedRow.laid w) false (kY_ os) #[.agg #[.string ByteArray.empty,.bool false],.string ByteArray.empty] 8 rfl (by kernel_rfl) (by kernel_rfl) (by kernel_rfl) (by kernel_rfl) (by kernel_rfl) (j8_ os _)) ?_
 intro w0 tape inp _ hsh _ hok hpre _
 obtain ⟨_,_,_,fn',hfn',_,_,_,_,hval0⟩:=hok
 obtain rfl:fn'=Tryz.f6:=Option.some.inj (hfn'.symm.trans Tryz.func6)
 obtain ⟨⟨⟨ds,gs,before,hw0,hcnd⟩,hL0⟩,hz⟩:=hpre
 have hW:=DataW.Whole.of_heap (w':=w0.forCall tape inp) (by rfl) hw0
 have hL:laidMet Tryz.prog Rows.fnExactFeedRow.laid (w0.forCall tape inp):=hL0.of_heap (by rfl)
 clear hw0 hL0 hz hfn' hcnd
 generalize w0.forCall tape inp=W at hsh hval0 hW hL ⊢
 generalize inp.args=args at hval0 hW ⊢
 generalize w0.heap.size=base at hval0
 suffices hgo:Calls Tryz.prog 6 args W fun e W'=>∃ v,e = .returned v∧Rows.fnExactFeedSpec.post enc Tryz.prog Tryz.f6 false true false false W args v W' from hgo.mono fun e W' ⟨v,he,hp⟩=>by subst he;exact ChangeSpec.post_blind hp
 have hval:∀ (j:Nat) t v,Tryz.f6.params[j]?=some t→args[j]?=some v→Value.okWide Tryz.prog W .any base t v:=hval0
 have hW':=hW
 obtain ⟨p,q,hA0,hV,rfl,hfz,hnd⟩:=hW
 have hA:DataW.TrodAll enc Tryz.prog W 0 (fun _=>true) true Tryz.f6.params.toList args.toList ds p:=hA0
 rw [Tryz.params6] at hA hval
 obtain ⟨v0,vs0,d0,ds0,p0,q0,hargs,rfl,rfl,h0,r0⟩:=trodAll_cons hA
 obtain ⟨v1,vs1,d1,ds1,p1,q1,rfl,rfl,rfl,h1,r1⟩:=trodAll_cons r0
 obtain ⟨rfl,rfl,rfl⟩:=trodAll_nil r1
 obtain rfl:args = #[v0,v1]:=by cases args;simp_all
 obtain ⟨rfl,rfl⟩:=trodVars_none hV
 obtain ⟨c0,rfl,-⟩:=okWide_struct Tryz.underlying61 (hval 0 61 v0 rfl rfl)
 have lt0:∀ x ∈ p0,x.block<W.heap.size:=by obtain ⟨m,hm⟩:=h0;exact DataW.trod_lt m _ _ _ hm
 obtain ⟨l0,k0,e0,g0⟩:=na_ kindsOk (T:=61) (ks:=[.s,.b]) (by kernel_rfl) h0
 obtain ⟨c1,rfl⟩:=okWide_string Tryz.underlying9 (hval 1 9 v1 rfl rfl)
 have lt1:∀ x ∈ p1,x.block<W.heap.size:=by obtain ⟨m,hm⟩:=h1;exact DataW.trod_lt m _ _ _ hm
 obtain ⟨l1,k1,e1,g1⟩:=na_ kindsOk (T:=9) (ks:=[.s]) (by kernel_rfl) h1
 replace k0:=c3_ k0;obtain ⟨_,_,rfl,⟨z0,rfl⟩,k0⟩:=k0
 replace k0:=c3_ k0;obtain ⟨_,_,rfl,⟨z1,rfl⟩,k0⟩:=k0
 replace k0:=du_ k0;subst k0
 replace k1:=c3_ k1;obtain ⟨_,_,rfl,⟨z2,rfl⟩,k1⟩:=k1
 replace k1:=du_ k1;subst k1
 have hT:Lib.TabIs Tryz.prog W "internal/strconv.uint64pow10" .u64 Lib.pow10Tab:=Lib.tabIs_of_head (t:=216) (e:=177) (n:=20) iD_ (by kernel_rfl) (by kernel_rfl) (by kernel_rfl) (by kernel_rfl) (by kernel_rfl) (show laidMet Tryz.prog ((_,Lib.tabData .u64 Lib.pow10Tab)::_) W from hL.tail.tail)
 obtain ⟨mx,hmx⟩:=cell_of_shapedOpen_int (g:=0) (t:=3) (k:=.i64) (zero:=#[.int .i64 0]) hsh (by decide +kernel) (by kernel_rfl) rfl (by kernel_rfl) (by kernel_rfl) (by kernel_rfl)
 have hgl:Glob E W NoF:=fun p hp=>by
  rcases List.mem_cons.1 hp with rfl|hp
  · obtain ⟨T,fr,h⟩:=tab_glob hT iD_;exact ⟨⟨_,T,fr,h,rfl⟩,fun h=>h.elim⟩
  rcases List.mem_cons.1 hp with rfl|hp
  · exact ⟨int_glob hmx,fun h=>h.elim⟩
  rcases List.mem_cons.1 hp with rfl|hp
  · exact ⟨mY_ (d:=.ptr (.agg [.lit (.string (nj_ Rows.laid_strconv_ErrSyntax).data.toList)])) (show laidMet Tryz.prog (("strconv.ErrSyntax", .iface "*errors.errorString" (.ptr (.agg [.lit (.string (nj_ Rows.laid_strconv_ErrSyntax).data.toList)])))::_) W from hL.tail.tail.tail.tail.tail) (by kernel_rfl) (by kernel_rfl),fun h=>h.elim⟩
  rcases List.mem_singleton.1 hp with rfl
  exact ⟨mY_ (d:=.ptr (.agg [.lit (.string (nj_ Rows.laid_strconv_ErrRange).data.toList)])) (show laidMet Tryz.prog (("strconv.ErrRange", .iface "*errors.errorString" (.ptr (.agg [.lit (.string (nj_ Rows.laid_strconv_ErrRange).data.toList)])))::_) W from hL.tail.tail.tail.tail) (by kernel_rfl) (by kernel_rfl),fun h=>h.elim⟩
 obtain ⟨n,hn⟩:=hp (aO_.mk z0 z1) z2 g0 g1
 refine (law_true ((bR_ n).h115 ((z0,z1,()),z2,()) _ hn) hgl (ag_open e0 (RL.cons e1 (.nil _ fun _=>rfl) (fun b=>rfl)))).mono fun e W' ⟨he,bel⟩ => ?_
 subst he
 exact ⟨_,rfl,_,_,_,[],_,[],hW',trodAll_mk1 (shut_bool Tryz.underlying4 _),(trodAll_cons_mk (Below.trod laidOut (by kernel_rfl) (of_decide_eq_true (by kernel_rfl)) h0 bel lt0) (trodAll_cons_mk (Below.trod laidOut (by kernel_rfl) (of_decide_eq_true (by kernel_rfl)) h1 bel lt1) trodAll_mk0)),rfl,bel.frame _,fun h=>by cases h⟩
theorem jf0:(Rows.fnExactFeedRow.wf (OpenSpec.ofChange Rows.fnExactFeedSpec))=true:=by kernel_rfl
theorem jf1:(laidOutB Tryz.prog)=true:=by kernel_rfl
theorem jf2:(mapsRowed Tryz.prog)=true:=by kernel_rfl
theorem jf3:(Tryz.f6.params.all (Tryz.prog.readableRec ·))=true:=by kernel_rfl
theorem jf4:(namedTie Tryz.prog Rows.fnExactFeedRow.named Rows.fnExactFeedSpec.vars)=true:=by kernel_rfl
theorem jf5:((Rows.fnExactFeedRow.stops == []))=true:=by kernel_rfl
theorem jf6:((Tryz.prog.stops == []))=true:=by kernel_rfl
theorem jf7:((Rows.fnExactFeedRow.knobs == []))=true:=by kernel_rfl
theorem jf8:((Tryz.prog.stopKnobs == []))=true:=by kernel_rfl
theorem jf9:((Rows.fnExactFeedRow.inPlace == Tryz.prog.inPlace 6))=true:=by kernel_rfl
theorem jf10:((Rows.fnExactFeedRow.unfollowed == Tryz.prog.unfollowed 6))=true:=by kernel_rfl
theorem jf11:((Rows.fnExactFeedRow.recurses == Tryz.prog.recurses 6))=true:=by kernel_rfl
theorem jf12:((Rows.fnExactFeedRow.named == Tryz.prog.varsNamed 6))=true:=by kernel_rfl
theorem jf13:((Rows.fnExactFeedRow.maps == (Tryz.f6.params.toList++Rows.fnExactFeedSpec.plain.varTypes Tryz.prog).any (Tryz.prog.mapsRec ·)))=true:=by kernel_rfl
theorem jf14:((Rows.fnExactFeedRow.ifaces == (Tryz.f6.params.toList++Rows.fnExactFeedSpec.plain.varTypes Tryz.prog).any (Tryz.prog.ifacesRec ·)))=true:=by kernel_rfl
theorem jf15:((Rows.fnExactFeedRow.mapsOut == Tryz.prog.mapsAmong Tryz.f6.resultTypes.toList))=true:=by kernel_rfl
theorem jf16:((Rows.fnExactFeedRow.loops == (Tryz.f6.params.toList++Rows.fnExactFeedSpec.plain.varTypes Tryz.prog).any (Tryz.prog.loopsFrom ·)))=true:=by kernel_rfl
theorem jf17:((Rows.fnExactFeedRow.wideKeys == (Tryz.f6.params.toList++Rows.fnExactFeedSpec.plain.varTypes Tryz.prog++Tryz.f6.resultTypes.toList).any (Tryz.prog.wideKeysFrom ·)))=true:=by kernel_rfl
theorem jf18:(Rows.fnExactFeedSpec.vars.all (Tryz.prog.varReadable ·))=true:=by kernel_rfl
theorem jf19:(Tryz.f6.resultTypes.all (fun t=>Tryz.prog.readableRec t&&decide (t<Tryz.prog.types.size)))=true:=by kernel_rfl
theorem jf20:((Rows.fnExactFeedRow.ifacesOut == Tryz.f6.resultTypes.toList.any (Tryz.prog.ifacesRec ·)))=true:=by kernel_rfl
theorem jf21:((Rows.fnExactFeedRow.loopsOut == Tryz.f6.resultTypes.toList.any (Tryz.prog.loopsFrom ·)))=true:=by kernel_rfl
theorem jf22:((Rows.fnExactFeedRow.plainKeys == Tryz.prog.plainKeys))=true:=by kernel_rfl
theorem jf23:(Rows.fnExactFeedRow.shortTexts.isNone)=true:=by kernel_rfl
theorem jf24:(Tryz.prog.stopsHeard)=true:=by kernel_rfl
theorem jf25:(Tryz.prog.mayEnter)=true:=by kernel_rfl
theorem jf26:((Rows.fnExactFeedRow.lifted == Tryz.prog.liftsFinal))=true:=by kernel_rfl
theorem jf27:((Tryz.prog.make == some Rows.fnExactFeedRow.make))=true:=by kernel_rfl
theorem jf28:((Rows.fnExactFeedRow.kinds == (if Rows.fnExactFeedRow.domain.isEmpty then [] else Tryz.f6.params.toList.map fun t=>match Tryz.prog.underlying t with|some (.int k)=>some k|_=>none)))=true:=by kernel_rfl
theorem jf29:((Rows.fnExactFeedRow.pinned == Rows.fnExactFeedRow.pinnedBy))=true:=by kernel_rfl
theorem jf30:((Rows.fnExactFeedRow.veiled == (Tryz.f6.params.toList++Rows.fnExactFeedSpec.plain.varTypes Tryz.prog++Tryz.f6.resultTypes.toList).any (Tryz.prog.veiledRec ·)))=true:=by kernel_rfl
theorem jf31:(Rows.fnExactFeedRow.veiledFits Tryz.prog Tryz.f6.params.toList (Tryz.f6.params.toList++Rows.fnExactFeedSpec.plain.varTypes Tryz.prog++Tryz.f6.resultTypes.toList))=true:=by kernel_rfl
theorem gw_ {a b:Bool} (h:a=true) (k:b=true):(a&&b)=true:=by rw [h,k];rfl
theorem facts:joinedFacts Tryz.pinned.checked.prog 6 Tryz.f6 Rows.fnExactFeedSpec Rows.fnExactFeedRow=true:=(gw_ (gw_ (gw_ (gw_ (gw_ (gw_ (gw_ (gw_ (gw_ (gw_ (gw_ (gw_ (gw_ (gw_ (gw_ (gw_ (gw_ (gw_ (gw_ (gw_ (gw_ (gw_ (gw_ (gw_ (gw_ (gw_ (gw_ (gw_ (gw_ (gw_ (gw_ jf0 jf1) jf2) jf3) jf4) jf5) jf6) jf7) jf8) jf9) jf10) jf11) jf12) jf13) jf14) jf15) jf16) jf17) jf18) jf19) jf20) jf21) jf22) jf23) jf24) jf25) jf26) jf27) jf28) jf29) jf30) jf31)
theorem over (hp:Pure):Rows.fnExactFeedRow.holds Tryz.pinned (OpenSpec.ofChange Rows.fnExactFeedSpec) :=
 OpenClaim.holds_of_wide 6 Tryz.f6 rfl rfl rfl rfl rfl rfl rfl ⟨rfl,rfl,rfl,rfl,rfl⟩ rfl rfl rfl rfl rfl (by kernel_rfl) Tryz.func6 facts
  (of_decide_eq_true (by kernel_rfl)) (by unfold Func.isWrapper;first|(rw [if_pos (by decide +kernel)];kernel_rfl)|(rw [if_neg (by decide +kernel)];exact ⟨rfl,rfl⟩))
  (fun os started H enc _=>lifted hp os started H enc)
end laws_FnExactFeed
theorem laws_FnExactFeed.card (hp:laws_FnExactFeed.Pure):Rows.FnExactFeedCardSaid :=
 Claim7.holds_tied_plain_at .later [] [.data,.data,.data,.data,.sentinel,.sentinel,.pinned] true (true, "eb8428fd810aea7f5a51b1307ca0e5a40614afabd133ac955bae0ee68fce9228") true
  (laws_FnExactFeed.over hp) (fun _ h=>by cases h) (by kernel_rfl) (fun _ h=>by cases h) fnExactFeed_row_tie rfl ⟨rfl,rfl⟩ (by kernel_rfl) rfl
  (fun f fn hf hfn=>by
    obtain rfl:f=6:=Option.some.inj ((show Tryz.prog.funcNamed "loop.example/g00198/laws.FnExactFeed" = some 6 by kernel_rfl).symm.trans hf) |>.symm
    obtain rfl:fn=Tryz.f6:=(Option.some.inj (Tryz.func6.symm.trans hfn)).symm
    exact ⟨by kernel_rfl,fun j t ht=>by
     rw [Tryz.params6] at ht
     have hm:t ∈ ([61,9]:List TypeId):=List.mem_of_getElem? (show ([61,9]:List TypeId)[j]?=some t by simpa using ht)
     have:=List.all_eq_true.1 (show ([61,9]:List TypeId).all (fun t => !Tryz.prog.wantsStandIn t)=true by kernel_rfl) t hm
     exact (by simpa using this:Tryz.prog.wantsStandIn t=false)⟩)
  (by kernel_rfl)
end Go.Pi
end
section
namespace Go.Pi
section
variable {α β:Type}
def Ev (f:Nat→Nat→Option α) (v:α):Prop:=∃ M,∀ n N,M≤n→M≤N→f n N=some v
theorem al_ {v w:α}:Ev (fun _ _=>some v) w↔v=w :=
 ⟨fun ⟨M,h⟩=>Option.some.inj (h M M (Nat.le_refl _) (Nat.le_refl _)),fun h=>⟨0,fun _ _ _ _=>by rw [h]⟩⟩
theorem dN_ {f:Nat→Nat→Option α} {v w:α} (h:Ev f v):Ev f w↔v=w:=by
 constructor
 · rintro ⟨M',h'⟩
   obtain ⟨M,h⟩:=h
   have a:=h (max M M') (max M M') (by omega) (by omega)
   have b:=h' (max M M') (max M M') (by omega) (by omega)
   rw [a] at b
   exact Option.some.inj b
 · rintro rfl;exact h
theorem ae_ {f:Nat→Nat→Option α} {a:α} (h:Ev f a) {g:Nat→Nat→α→Option β} {v:β}:Ev (fun n N=>(f n N).bind (g n N)) v↔Ev (fun n N=>g n N a) v:=by
 obtain ⟨M,h⟩:=h
 constructor
 · rintro ⟨M',h'⟩
   refine ⟨max M M',fun n N h1 h2 => ?_⟩
   have:=h' n N (by omega) (by omega)
   simp only [h n N (by omega) (by omega),Option.bind_some] at this
   exact this
 · rintro ⟨M',h'⟩
   refine ⟨max M M',fun n N h1 h2 => ?_⟩
   simp only [h n N (by omega) (by omega),Option.bind_some]
   exact h' n N (by omega) (by omega)
theorem cT_ {v:α}:Ev (fun _ _=>none) v↔False:=by
 simp only [iff_false]
 rintro ⟨M,h⟩
 cases h M M (Nat.le_refl _) (Nat.le_refl _)
theorem aH_ {c:Bool} {f g:Nat→Nat→Option α} {v:α}:Ev (fun n N=>cond c (f n N) (g n N)) v↔(c=true→Ev f v)∧(c=false→Ev g v):=by
 cases c<;>simp
theorem bQ_ {i:Int} {len:Nat} {f:Nat→Nat→Option α} {v:α}:Ev (fun n N=>inB i len (f n N)) v↔(0≤i∧i<(len:Int))∧Ev f v:=by
 unfold inB
 rw [aH_,aH_]
 by_cases h1:0≤i<;>by_cases h2:i<(len:Int)<;>simp [h1,h2,cT_]
theorem aV_ {f:Nat→Nat→Option α} {v:α} (h:Ev (fun n N=>f (n+1) N) v):Ev f v:=by
 obtain ⟨M,h⟩:=h
 refine ⟨M+1,fun n N h1 h2 => ?_⟩
 obtain ⟨m,rfl⟩:∃ m,n=m+1:=⟨n - 1,by omega⟩
 exact h m N (by omega) (by omega)
theorem cF_ {f:Nat→Nat→Option α} {v:α} (h:Ev f v):Ev (fun n _=>f n n) v:=by
 obtain ⟨M,h⟩:=h
 exact ⟨M,fun n N h1 h2=>h n n h1 h1⟩
theorem bo_ {f:Nat→Nat→Option α} {v:α} (h:Ev (fun n N=>f n (N+1)) v):Ev f v:=by
 obtain ⟨M,h⟩:=h
 refine ⟨M+1,fun n N h1 h2 => ?_⟩
 obtain ⟨m,rfl⟩:∃ m,N=m+1:=⟨N - 1,by omega⟩
 exact h n m (by omega) (by omega)
theorem ev_ex {f:Nat→Option α} {v:α} (h:Ev (fun n _=>f n) v):∃ n,f n=some v:=by
 obtain ⟨M,h⟩:=h
 exact ⟨M,h M M (Nat.le_refl _) (Nat.le_refl _)⟩
theorem ev_up {σ:Type} (L:Nat→Nat→Nat→σ→Option α) (F:Nat→σ→α) (I:Nat→σ→Prop) (len:Nat)
  (h:∀ i s,I i s→i≤len→(∀ s',I (i+1) s'→i<len→Ev (fun n N=>L n N (i+1) s') (F (i+1) s'))→Ev (fun n N=>L n (N+1) i s) (F i s)) :
  ∀ s,I 0 s→Ev (fun n _=>L n n 0 s) (F 0 s):=by
 have key:∀ d i s,d+i=len→I i s→Ev (fun n N=>L n N i s) (F i s):=by
  intro d
  induction d with
  |zero=>exact fun i s hd hI=>bo_ (h i s hI (by omega) fun s' _ hl=>absurd hl (by omega))
  |succ d ih=>exact fun i s hd hI=>bo_ (h i s hI (by omega) fun s' hI' _=>ih (i+1) s' (by omega) hI')
 exact fun s hI=>cF_ (f:=fun n N=>L n N 0 s) (key len 0 s (by omega) hI)
theorem mX_ (L:Nat→Nat→Nat→Option α) (F:Nat→α) (len:Nat)
  (h:∀ i,i≤len→(i<len→Ev (fun n N=>L n N (i+1)) (F (i+1)))→Ev (fun n N=>L n (N+1) i) (F i)) :
  Ev (fun n _=>L n n 0) (F 0) :=
 ev_up (σ:=Unit) (fun n N i _=>L n N i) (fun i _=>F i) (fun _ _=>True) len (fun i s _ hi k=>h i hi fun hl=>k () trivial hl) () trivial
end
abbrev cz_:Nat:=9223372036854775807
theorem W_id {n:Int} (h : -9223372036854775808≤n) (h':n<9223372036854775808):W n=n:=by
 show IntKind.i64.wrap n=n
 rw [IntKind.wrap_i64];omega
theorem W_up {i:Nat} {len:Nat} (h:i<len) (hl:len≤cz_):W ((i:Int)+1)=((i+1:Nat):Int):=by
 rw [W_id (by omega) (by simp only [cz_] at hl;omega)];omega
theorem dA_ {α:Type} (d:α) {a:List α} {i:Nat} (h:i<a.length):a.drop i=a.getD i d::a.drop (i+1):=by
 rw [List.drop_eq_getElem_cons h,List.getD_eq_getElem?_getD,List.getElem?_eq_getElem h];rfl
theorem m1_ {α:Type} {a:List α} {i:Nat} (h:a.length≤i):a.drop i=[]:=List.drop_eq_nil_of_le h
theorem cC_ {α:Type} (d:α) {a:List α} {i:Nat} (h:i<a.length):a.getD i d ∈ a:=by
 rw [List.getD_eq_getElem?_getD,List.getElem?_eq_getElem h];exact List.getElem_mem h
end Go.Pi
end
section
namespace Go.Pi
abbrev bb_.K3:Type:=Option Int
theorem bb_.turn3 {n N:Nat} {k:Option Int} {x0 x1}:bb_.loop3 n k (N+1) x0 x1=bb_.step3 n k (bb_.loop3 n k N) x0 x1:=rfl
abbrev aT_.K5:Type:=(List Bs)→Option (List Bs)
theorem aT_.turn5 {n N:Nat} {k:(List Bs)→Option (List Bs)} {x0 x1 x2 x3}:aT_.loop5 n k (N+1) x0 x1 x2 x3=aT_.step5 n k (aT_.loop5 n k N) x0 x1 x2 x3:=rfl
abbrev ay_.K7:Type:=Bool→Int→Int→Bs→Int→Bool→Int→Option (Int × a8_)
theorem ay_.turn7 {n N:Nat} {k:Bool→Int→Int→Bs→Int→Bool→Int→Option (Int × a8_)} {x0 x1 x2 x3 x4 x5 x6}:ay_.loop7 n k (N+1) x0 x1 x2 x3 x4 x5 x6=ay_.step7 n k (ay_.loop7 n k N) x0 x1 x2 x3 x4 x5 x6:=rfl
abbrev aL_.K7:Type:=Bool→Bs→Option Bs
theorem aL_.turn7 {n N:Nat} {k:Bool→Bs→Option Bs} {x0 x1 x2}:aL_.loop7 n k (N+1) x0 x1 x2=aL_.step7 n k (aL_.loop7 n k N) x0 x1 x2:=rfl
abbrev az_.K4:Type:=Bs→Int→Bool→Int→(List Int)→Option (Bs × a8_)
theorem az_.turn4 {n N:Nat} {k:Bs→Int→Bool→Int→(List Int)→Option (Bs × a8_)} {x0 x1 x2 x3 x4}:az_.loop4 n k (N+1) x0 x1 x2 x3 x4=az_.step4 n k (az_.loop4 n k N) x0 x1 x2 x3 x4:=rfl
abbrev aP_.K8_1:Type:=Bs→Bs→Int→Bool→Int→Int→Int→Bs→Int→Int→Bs→(List aa_)→(List Bs)→Option (aa_ × a8_)
theorem aP_.turn8 {n N:Nat} {k0:a8_→Int→Option (aa_ × a8_)} {k1:Bs→Bs→Int→Bool→Int→Int→Int→Bs→Int→Int→Bs→(List aa_)→(List Bs)→Option (aa_ × a8_)} {x0 x1 x2 x3 x4 x5 x6 x7 x8 x9 x10 x11 x12 x13}:aP_.loop8 n k0 k1 (N+1) x0 x1 x2 x3 x4 x5 x6 x7 x8 x9 x10 x11 x12 x13=aP_.step8 n k0 k1 (aP_.loop8 n k0 k1 N) x0 x1 x2 x3 x4 x5 x6 x7 x8 x9 x10 x11 x12 x13:=rfl
abbrev bd_.K3:Type:=Bs→Option Bool
theorem bd_.turn3 {n N:Nat} {k:Bs→Option Bool} {x0 x1}:bd_.loop3 n k (N+1) x0 x1=bd_.step3 n k (bd_.loop3 n k N) x0 x1:=rfl
abbrev ad_.K6:Type:=Int→Int→Bs→(List aa_)→(List Bs)→Option Bool
theorem ad_.turn6 {n N:Nat} {k:Int→Int→Bs→(List aa_)→(List Bs)→Option Bool} {x0 x1 x2 x3 x4 x5}:ad_.loop6 n k (N+1) x0 x1 x2 x3 x4 x5=ad_.step6 n k (ad_.loop6 n k N) x0 x1 x2 x3 x4 x5:=rfl
abbrev aG_.K23_1:Type:=Int→Int→Int→Int→Bs→(List aa_)→(List Bs)→Option Int
theorem aG_.turn23 {n N:Nat} {k0:aa_→Int→Option Int} {k1:Int→Int→Int→Int→Bs→(List aa_)→(List Bs)→Option Int} {x0 x1 x2 x3 x4 x5 x6 x7 x8}:aG_.loop23 n k0 k1 (N+1) x0 x1 x2 x3 x4 x5 x6 x7 x8=aG_.step23 n k0 k1 (aG_.loop23 n k0 k1 N) x0 x1 x2 x3 x4 x5 x6 x7 x8:=rfl
abbrev aZ_.K4:Type:=(List Int)→Option Bs
theorem aZ_.turn4 {n N:Nat} {k:(List Int)→Option Bs} {x0 x1 x2}:aZ_.loop4 n k (N+1) x0 x1 x2=aZ_.step4 n k (aZ_.loop4 n k N) x0 x1 x2:=rfl
abbrev aC_.K17_1:Type:=Bs→Int→Int→Bs→(List aa_)→(List Bs)→Option Bs
theorem aC_.turn17 {n N:Nat} {k0:aa_→Option Bs} {k1:Bs→Int→Int→Bs→(List aa_)→(List Bs)→Option Bs} {x0 x1 x2 x3 x4 x5 x6}:aC_.loop17 n k0 k1 (N+1) x0 x1 x2 x3 x4 x5 x6=aC_.step17 n k0 k1 (aC_.loop17 n k0 k1 N) x0 x1 x2 x3 x4 x5 x6:=rfl
abbrev bw_.K3:Type:=Option Int
theorem bw_.turn3 {n N:Nat} {k:Option Int} {x0 x1 x2 x3 x4 x5 x6}:bw_.loop3 n k (N+1) x0 x1 x2 x3 x4 x5 x6=bw_.step3 n k (bw_.loop3 n k N) x0 x1 x2 x3 x4 x5 x6:=rfl
abbrev a9_.K4_1:Type:=Int→Int→Bs→Int→Int→Bs→(List aa_)→(List Bs)→Option aa_
theorem a9_.turn4 {n N:Nat} {k0:aa_→Option aa_} {k1:Int→Int→Bs→Int→Int→Bs→(List aa_)→(List Bs)→Option aa_} {x0 x1 x2 x3 x4 x5 x6 x7 x8 x9 x10 x11 x12 x13}:a9_.loop4 n k0 k1 (N+1) x0 x1 x2 x3 x4 x5 x6 x7 x8 x9 x10 x11 x12 x13=a9_.step4 n k0 k1 (a9_.loop4 n k0 k1 N) x0 x1 x2 x3 x4 x5 x6 x7 x8 x9 x10 x11 x12 x13:=rfl
abbrev aN_.K6:Type:=Bs→(List Bs)→(List Bs)→(List Int)→Option ((List Bs) × Bool)
theorem aN_.turn6 {n N:Nat} {k:Bs→(List Bs)→(List Bs)→(List Int)→Option ((List Bs) × Bool)} {x0 x1 x2 x3 x4}:aN_.loop6 n k (N+1) x0 x1 x2 x3 x4=aN_.step6 n k (aN_.loop6 n k N) x0 x1 x2 x3 x4:=rfl
abbrev ah_.K6_1:Type:=Int→Int→Bs→(List aa_)→(List Bs)→Int→Int→Bs→(List aa_)→(List Bs)→Option Bool
theorem ah_.turn6 {n N:Nat} {k0:aa_→aa_→Option Bool} {k1:Int→Int→Bs→(List aa_)→(List Bs)→Int→Int→Bs→(List aa_)→(List Bs)→Option Bool} {x0 x1 x2 x3 x4 x5 x6 x7 x8 x9 x10}:ah_.loop6 n k0 k1 (N+1) x0 x1 x2 x3 x4 x5 x6 x7 x8 x9 x10=ah_.step6 n k0 k1 (ah_.loop6 n k0 k1 N) x0 x1 x2 x3 x4 x5 x6 x7 x8 x9 x10:=rfl
abbrev ah_.K14_1:Type:=Option Bool
theorem ah_.turn14 {n N:Nat} {k0:aa_→aa_→Option Bool} {k1:Option Bool} {x0 x1 x2 x3 x4 x5 x6 x7 x8 x9 x10}:ah_.loop14 n k0 k1 (N+1) x0 x1 x2 x3 x4 x5 x6 x7 x8 x9 x10=ah_.step14 n k0 k1 (ah_.loop14 n k0 k1 N) x0 x1 x2 x3 x4 x5 x6 x7 x8 x9 x10:=rfl
abbrev bt_.K6:Type:=Int→(List Bs)→Int→Int→Bs→(List aa_)→(List Bs)→Option Bool
theorem bt_.turn6 {n N:Nat} {k:Int→(List Bs)→Int→Int→Bs→(List aa_)→(List Bs)→Option Bool} {x0 x1 x2 x3 x4 x5 x6 x7}:bt_.loop6 n k (N+1) x0 x1 x2 x3 x4 x5 x6 x7=bt_.step6 n k (bt_.loop6 n k N) x0 x1 x2 x3 x4 x5 x6 x7:=rfl
abbrev as_.K10:Type:=(List Bs)→Int→(List Int)→Option Bs
theorem as_.turn10 {n N:Nat} {k:(List Bs)→Int→(List Int)→Option Bs} {x0 x1 x2 x3}:as_.loop10 n k (N+1) x0 x1 x2 x3=as_.step10 n k (as_.loop10 n k N) x0 x1 x2 x3:=rfl
abbrev as_.K4:Type:=(List Int)→Option Bs
theorem as_.turn4 {n N:Nat} {k:(List Int)→Option Bs} {x0 x1 x2}:as_.loop4 n k (N+1) x0 x1 x2=as_.step4 n k (as_.loop4 n k N) x0 x1 x2:=rfl
abbrev bk_.K5:Type:=Bs→Bool→Int→Int→Bs→(List aa_)→(List Bs)→Int→Int→Bs→Int→Int→Bs→(List aa_)→(List Bs)→Option aa_
theorem bk_.turn5 {n N:Nat} {k:Bs→Bool→Int→Int→Bs→(List aa_)→(List Bs)→Int→Int→Bs→Int→Int→Bs→(List aa_)→(List Bs)→Option aa_} {x0 x1 x2 x3 x4 x5 x6 x7 x8 x9 x10 x11 x12 x13 x14 x15 x16 x17 x18 x19 x20}:bk_.loop5 n k (N+1) x0 x1 x2 x3 x4 x5 x6 x7 x8 x9 x10 x11 x12 x13 x14 x15 x16 x17 x18 x19 x20=bk_.step5 n k (bk_.loop5 n k N) x0 x1 x2 x3 x4 x5 x6 x7 x8 x9 x10 x11 x12 x13 x14 x15 x16 x17 x18 x19 x20:=rfl
abbrev aK_.K7:Type:=Int→Int→Bs→(List aa_)→(List Bs)→Int→Int→Int→Bs→Int→Int→Int→Bs→Int→Int→Bs→(List aa_)→(List Bs)→Option (TOp × Bool)
theorem aK_.turn7 {n N:Nat} {k:Int→Int→Bs→(List aa_)→(List Bs)→Int→Int→Int→Bs→Int→Int→Int→Bs→Int→Int→Bs→(List aa_)→(List Bs)→Option (TOp × Bool)} {x0 x1 x2 x3 x4 x5 x6 x7 x8 x9 x10 x11 x12 x13 x14 x15 x16 x17 x18 x19 x20 x21 x22 x23 x24}:aK_.loop7 n k (N+1) x0 x1 x2 x3 x4 x5 x6 x7 x8 x9 x10 x11 x12 x13 x14 x15 x16 x17 x18 x19 x20 x21 x22 x23 x24=aK_.step7 n k (aK_.loop7 n k N) x0 x1 x2 x3 x4 x5 x6 x7 x8 x9 x10 x11 x12 x13 x14 x15 x16 x17 x18 x19 x20 x21 x22 x23 x24:=rfl
abbrev bc_.K4:Type:=(List TOp)→Int→Int→Bs→Int→Int→Bs→(List aa_)→Option (aa_ × Bool)
theorem bc_.turn4 {n N:Nat} {k:(List TOp)→Int→Int→Bs→Int→Int→Bs→(List aa_)→Option (aa_ × Bool)} {x0 x1 x2 x3 x4 x5 x6 x7 x8}:bc_.loop4 n k (N+1) x0 x1 x2 x3 x4 x5 x6 x7 x8=bc_.step4 n k (bc_.loop4 n k N) x0 x1 x2 x3 x4 x5 x6 x7 x8:=rfl
abbrev ac_.K20:Type:=Bs→Int→Int→Int→Int→Int→Int→Bs→Int→Int→Int→Int→Int→Bs→(List Bs)→(List aa_)→(List Bs)→(List TOp)→Option (aj_ × Bool)
theorem ac_.turn20 {n N:Nat} {k:Bs→Int→Int→Int→Int→Int→Int→Bs→Int→Int→Int→Int→Int→Bs→(List Bs)→(List aa_)→(List Bs)→(List TOp)→Option (aj_ × Bool)} {x0 x1 x2 x3 x4 x5 x6 x7 x8 x9 x10 x11 x12 x13 x14 x15 x16 x17 x18 x19 x20 x21 x22 x23}:ac_.loop20 n k (N+1) x0 x1 x2 x3 x4 x5 x6 x7 x8 x9 x10 x11 x12 x13 x14 x15 x16 x17 x18 x19 x20 x21 x22 x23=ac_.step20 n k (ac_.loop20 n k N) x0 x1 x2 x3 x4 x5 x6 x7 x8 x9 x10 x11 x12 x13 x14 x15 x16 x17 x18 x19 x20 x21 x22 x23:=rfl
abbrev ac_.K5:Type:=Bs→Int→Int→Int→Int→Int→Bs→Int→Int→Int→Int→Int→Bs→(List aa_)→(List Bs)→(List TOp)→Option (aj_ × Bool)
theorem ac_.turn5 {n N:Nat} {k:Bs→Int→Int→Int→Int→Int→Bs→Int→Int→Int→Int→Int→Bs→(List aa_)→(List Bs)→(List TOp)→Option (aj_ × Bool)} {x0 x1 x2 x3 x4 x5 x6 x7 x8 x9 x10 x11 x12 x13 x14 x15 x16 x17}:ac_.loop5 n k (N+1) x0 x1 x2 x3 x4 x5 x6 x7 x8 x9 x10 x11 x12 x13 x14 x15 x16 x17=ac_.step5 n k (ac_.loop5 n k N) x0 x1 x2 x3 x4 x5 x6 x7 x8 x9 x10 x11 x12 x13 x14 x15 x16 x17:=rfl
abbrev bq_.K8:Type:=Bs→Bs→Bool→(List aj_)→Bs→Bool→Option (aO_ × (List aj_))
theorem bq_.turn8 {n N:Nat} {k:Bs→Bs→Bool→(List aj_)→Bs→Bool→Option (aO_ × (List aj_))} {x0 x1 x2 x3 x4 x5}:bq_.loop8 n k (N+1) x0 x1 x2 x3 x4 x5=bq_.step8 n k (bq_.loop8 n k N) x0 x1 x2 x3 x4 x5:=rfl
abbrev ai_.K4:Type:=Bs→Bool→Option (Bs × aQ_)
theorem ai_.turn4 {n N:Nat} {k:Bs→Bool→Option (Bs × aQ_)} {x0 x1 x2}:ai_.loop4 n k (N+1) x0 x1 x2=ai_.step4 n k (ai_.loop4 n k N) x0 x1 x2:=rfl
abbrev ag_.K3:Type:=Int→Bs→Bool→Int→Int→Bs→Option (aa_ × aQ_)
theorem ag_.turn3 {n N:Nat} {k:Int→Bs→Bool→Int→Int→Bs→Option (aa_ × aQ_)} {x0 x1 x2 x3 x4 x5}:ag_.loop3 n k (N+1) x0 x1 x2 x3 x4 x5=ag_.step3 n k (ag_.loop3 n k N) x0 x1 x2 x3 x4 x5:=rfl
abbrev af_.K7_1:Type:=Bs→Bs→Bool→Int→Int→Bs→Int→Int→Bs→(List aa_)→(List Bs)→Option (aa_ × aQ_)
theorem af_.turn7 {n N:Nat} {k0:aQ_→Int→Option (aa_ × aQ_)} {k1:Bs→Bs→Bool→Int→Int→Bs→Int→Int→Bs→(List aa_)→(List Bs)→Option (aa_ × aQ_)} {x0 x1 x2 x3 x4 x5 x6 x7 x8 x9 x10 x11 x12 x13}:af_.loop7 n k0 k1 (N+1) x0 x1 x2 x3 x4 x5 x6 x7 x8 x9 x10 x11 x12 x13=af_.step7 n k0 k1 (af_.loop7 n k0 k1 N) x0 x1 x2 x3 x4 x5 x6 x7 x8 x9 x10 x11 x12 x13:=rfl
abbrev au_.K3:Type:=Bs→Option Bool
theorem au_.turn3 {n N:Nat} {k:Bs→Option Bool} {x0 x1 x2}:au_.loop3 n k (N+1) x0 x1 x2=au_.step3 n k (au_.loop3 n k N) x0 x1 x2:=rfl
abbrev ao_.K3:Type:=Option Bool
theorem ao_.turn3 {n N:Nat} {k:Option Bool} {x0 x1 x2 x3}:ao_.loop3 n k (N+1) x0 x1 x2 x3=ao_.step3 n k (ao_.loop3 n k N) x0 x1 x2 x3:=rfl
abbrev a1_.K7_1:Type:=Int→Option Int
theorem a1_.turn7 {n N:Nat} {k0:aa_→Int→Option Int} {k1:Int→Option Int} {x0 x1 x2 x3 x4}:a1_.loop7 n k0 k1 (N+1) x0 x1 x2 x3 x4=a1_.step7 n k0 k1 (a1_.loop7 n k0 k1 N) x0 x1 x2 x3 x4:=rfl
abbrev be_.K4:Type:=(List Int)→Option Bs
theorem be_.turn4 {n N:Nat} {k:(List Int)→Option Bs} {x0 x1 x2 x3}:be_.loop4 n k (N+1) x0 x1 x2 x3=be_.step4 n k (be_.loop4 n k N) x0 x1 x2 x3:=rfl
abbrev aR_.K4_1:Type:=Int→Int→Bs→(List aa_)→(List Bs)→(List Bs)→Option Bs
theorem aR_.turn4 {n N:Nat} {k0:aa_→Option Bs} {k1:Int→Int→Bs→(List aa_)→(List Bs)→(List Bs)→Option Bs} {x0 x1 x2 x3 x4 x5 x6 x7 x8}:aR_.loop4 n k0 k1 (N+1) x0 x1 x2 x3 x4 x5 x6 x7 x8=aR_.step4 n k0 k1 (aR_.loop4 n k0 k1 N) x0 x1 x2 x3 x4 x5 x6 x7 x8:=rfl
abbrev ak_.K3:Type:=Option Int
theorem ak_.turn3 {n N:Nat} {k:Option Int} {x0 x1 x2 x3}:ak_.loop3 n k (N+1) x0 x1 x2 x3=ak_.step3 n k (ak_.loop3 n k N) x0 x1 x2 x3:=rfl
abbrev aM_.K4_1:Type:=Int→Int→Bs→Int→Int→Bs→(List aa_)→(List Bs)→Option aa_
theorem aM_.turn4 {n N:Nat} {k0:aa_→Option aa_} {k1:Int→Int→Bs→Int→Int→Bs→(List aa_)→(List Bs)→Option aa_} {x0 x1 x2 x3 x4 x5 x6 x7 x8 x9 x10}:aM_.loop4 n k0 k1 (N+1) x0 x1 x2 x3 x4 x5 x6 x7 x8 x9 x10=aM_.step4 n k0 k1 (aM_.loop4 n k0 k1 N) x0 x1 x2 x3 x4 x5 x6 x7 x8 x9 x10:=rfl
abbrev a0_.K4:Type:=Bs→Option Bs
theorem a0_.turn4 {n N:Nat} {k:Bs→Option Bs} {x0 x1 x2 x3}:a0_.loop4 n k (N+1) x0 x1 x2 x3=a0_.step4 n k (a0_.loop4 n k N) x0 x1 x2 x3:=rfl
abbrev a6_.K7:Type:=Bs→(List Bs)→Option ((List Bs) × Bool)
theorem a6_.turn7 {n N:Nat} {k:Bs→(List Bs)→Option ((List Bs) × Bool)} {x0 x1 x2 x3 x4}:a6_.loop7 n k (N+1) x0 x1 x2 x3 x4=a6_.step7 n k (a6_.loop7 n k N) x0 x1 x2 x3 x4:=rfl
abbrev bu_.K3:Type:=Int→(List Bs)→Int→Int→Bs→(List aa_)→(List Bs)→Option Bool
theorem bu_.turn3 {n N:Nat} {k:Int→(List Bs)→Int→Int→Bs→(List aa_)→(List Bs)→Option Bool} {x0 x1 x2 x3 x4 x5 x6 x7 x8 x9}:bu_.loop3 n k (N+1) x0 x1 x2 x3 x4 x5 x6 x7 x8 x9=bu_.step3 n k (bu_.loop3 n k N) x0 x1 x2 x3 x4 x5 x6 x7 x8 x9:=rfl
abbrev am_.K6:Type:=Option Bool
theorem am_.turn6 {n N:Nat} {k:Option Bool} {x0 x1 x2 x3}:am_.loop6 n k (N+1) x0 x1 x2 x3=am_.step6 n k (am_.loop6 n k N) x0 x1 x2 x3:=rfl
abbrev ab_.K6_1:Type:=Option Bool
theorem ab_.turn6 {n N:Nat} {k0:aa_→aa_→Option Bool} {k1:Option Bool} {x0 x1 x2 x3}:ab_.loop6 n k0 k1 (N+1) x0 x1 x2 x3=ab_.step6 n k0 k1 (ab_.loop6 n k0 k1 N) x0 x1 x2 x3:=rfl
abbrev bh_.K4:Type:=Int→Int→Bs→(List aa_)→(List Bs)→(List TOp)→Option ((List TOp) × Bool)
theorem bh_.turn4 {n N:Nat} {k:Int→Int→Bs→(List aa_)→(List Bs)→(List TOp)→Option ((List TOp) × Bool)} {x0 x1 x2 x3 x4 x5 x6 x7 x8}:bh_.loop4 n k (N+1) x0 x1 x2 x3 x4 x5 x6 x7 x8=bh_.step4 n k (bh_.loop4 n k N) x0 x1 x2 x3 x4 x5 x6 x7 x8:=rfl
abbrev aX_.K4:Type:=Int→Int→Bs→Int→Int→Bs→(List aa_)→Option (aa_ × Bool)
theorem aX_.turn4 {n N:Nat} {k:Int→Int→Bs→Int→Int→Bs→(List aa_)→Option (aa_ × Bool)} {x0 x1 x2 x3 x4 x5 x6 x7 x8 x9}:aX_.loop4 n k (N+1) x0 x1 x2 x3 x4 x5 x6 x7 x8 x9=aX_.step4 n k (aX_.loop4 n k N) x0 x1 x2 x3 x4 x5 x6 x7 x8 x9:=rfl
abbrev bm_.K5:Type:=Bs→Bool→Bs→Bool→(List aj_)→Option (aO_ × (List aj_))
theorem bm_.turn5 {n N:Nat} {k:Bs→Bool→Bs→Bool→(List aj_)→Option (aO_ × (List aj_))} {x0 x1 x2 x3 x4}:bm_.loop5 n k (N+1) x0 x1 x2 x3 x4=bm_.step5 n k (bm_.loop5 n k N) x0 x1 x2 x3 x4:=rfl
abbrev aJ_.K6:Type:=Option Bool
theorem aJ_.turn6 {n N:Nat} {k:Option Bool} {x0 x1 x2}:aJ_.loop6 n k (N+1) x0 x1 x2=aJ_.step6 n k (aJ_.loop6 n k N) x0 x1 x2:=rfl
abbrev a4_.K6_1:Type:=Option Bool
theorem a4_.turn6 {n N:Nat} {k0:aa_→aa_→Option Bool} {k1:Option Bool} {x0 x1 x2}:a4_.loop6 n k0 k1 (N+1) x0 x1 x2=a4_.step6 n k0 k1 (a4_.loop6 n k0 k1 N) x0 x1 x2:=rfl
abbrev bn_.K6:Type:=Option Bool
theorem bn_.turn6 {n N:Nat} {k:Option Bool} {x0 x1 x2}:bn_.loop6 n k (N+1) x0 x1 x2=bn_.step6 n k (bn_.loop6 n k N) x0 x1 x2:=rfl
abbrev aU_.K6:Type:=Option Bool
theorem aU_.turn6 {n N:Nat} {k:Option Bool} {x0 x1 x2}:aU_.loop6 n k (N+1) x0 x1 x2=aU_.step6 n k (aU_.loop6 n k N) x0 x1 x2:=rfl
abbrev aF_.K6:Type:=Bs→Option Bs
theorem aF_.turn6 {n N:Nat} {k:Bs→Option Bs} {x0 x1}:aF_.loop6 n k (N+1) x0 x1=aF_.step6 n k (aF_.loop6 n k N) x0 x1:=rfl
abbrev aq_.K3:Type:=Int→(List Bs)→Option (Int × (List Bs))
theorem aq_.turn3 {n N:Nat} {k:Int→(List Bs)→Option (Int × (List Bs))} {x0 x1 x2}:aq_.loop3 n k (N+1) x0 x1 x2=aq_.step3 n k (aq_.loop3 n k N) x0 x1 x2:=rfl
abbrev av_.K3_1:Type:=Int→(List aa_)→Option (Int × (List aa_))
theorem av_.turn3 {n N:Nat} {k0:(List aa_)→Int→Option (Int × (List aa_))} {k1:Int→(List aa_)→Option (Int × (List aa_))} {x0 x1 x2}:av_.loop3 n k0 k1 (N+1) x0 x1 x2=av_.step3 n k0 k1 (av_.loop3 n k0 k1 N) x0 x1 x2:=rfl
abbrev a2_.K3:Type:=Int→(List TOp)→Option (Int × (List TOp))
theorem a2_.turn3 {n N:Nat} {k:Int→(List TOp)→Option (Int × (List TOp))} {x0 x1 x2}:a2_.loop3 n k (N+1) x0 x1 x2=a2_.step3 n k (a2_.loop3 n k N) x0 x1 x2:=rfl
abbrev aD_.K3:Type:=Int→(List aj_)→Option (Int × (List aj_))
theorem aD_.turn3 {n N:Nat} {k:Int→(List aj_)→Option (Int × (List aj_))} {x0 x1 x2}:aD_.loop3 n k (N+1) x0 x1 x2=aD_.step3 n k (aD_.loop3 n k N) x0 x1 x2:=rfl
abbrev ar_.K3:Type:=Int→Option Int
theorem ar_.turn3 {n N:Nat} {k:Int→Option Int} {x0 x1 x2}:ar_.loop3 n k (N+1) x0 x1 x2=ar_.step3 n k (ar_.loop3 n k N) x0 x1 x2:=rfl
abbrev aw_.K3_1:Type:=Int→Option Int
theorem aw_.turn3 {n N:Nat} {k0:(List aa_)→Int→Option Int} {k1:Int→Option Int} {x0 x1 x2}:aw_.loop3 n k0 k1 (N+1) x0 x1 x2=aw_.step3 n k0 k1 (aw_.loop3 n k0 k1 N) x0 x1 x2:=rfl
abbrev a3_.K3:Type:=Int→Option Int
theorem a3_.turn3 {n N:Nat} {k:Int→Option Int} {x0 x1 x2}:a3_.loop3 n k (N+1) x0 x1 x2=a3_.step3 n k (a3_.loop3 n k N) x0 x1 x2:=rfl
abbrev aB_.K3:Type:=Int→Option Int
theorem aB_.turn3 {n N:Nat} {k:Int→Option Int} {x0 x1 x2}:aB_.loop3 n k (N+1) x0 x1 x2=aB_.step3 n k (aB_.loop3 n k N) x0 x1 x2:=rfl
end Go.Pi
end
section
namespace Go.Pi
def fM_ (p:Nat→Bool):Nat→Nat→Bool
 |0,_=>true
 |d+1,i=>p i&&fM_ p d (i+1)
def l7_ (p:Nat→Bool) (len:Nat):Bool:=fM_ p len 0
theorem gh_ (L:Nat→Nat→Nat→Option Bool) (p:Nat→Bool) {len:Nat} {v:Bool}
  (h:∀ i w,i<len→Ev (fun n N=>L n N (i+1)) w→Ev (fun n N=>L n (N+1) i) (p i&&w)) (h2:Ev (fun n N=>L n (N+1) len) v) :
  Ev (fun n _=>L n n 0) (l7_ p len&&v):=by
 have key:∀ d i,d+i=len→Ev (fun n N=>L n N i) (fM_ p d i&&v):=by
  intro d
  induction d with
  |zero=>intro i hd;obtain rfl:i=len:=by omega
         simpa [fM_] using bo_ (f:=fun n N=>L n N i) h2
  |succ d ih=>intro i hd
              have:=h i _ (by omega) (ih (i+1) (by omega))
              rw [←Bool.and_assoc] at this
              exact bo_ (f:=fun n N=>L n N i) this
 exact cF_ (f:=fun n N=>L n N 0) (key len 0 (by omega))
theorem h0_ {α:Type} {f:Nat→Nat→Option α} {v w:α} (h:Ev f v) (e:v=w):Ev f w:=e ▸ h
def inn (x lo hi:Int):Bool:=decide (lo≤x)&&decide (x≤hi)
theorem inn_iff {x lo hi:Int}:inn x lo hi=true↔lo≤x∧x≤hi:=by simp [inn]
theorem l1In_ev {x lo hi:Int}:Ev (fun n _=>cs_ n x lo hi) (inn x lo hi):=by
 refine aV_ ?_
 simp only [cs_,aH_,al_,inn]
 grind
theorem kt_ {x lo hi:Int}:Ev (fun n _=>aS_ n x lo hi) (inn x lo hi):=by
 refine aV_ ?_
 simp only [aS_,aH_,al_,inn]
 grind
section
variable {β:Type} {x lo hi:Int} {g:Nat→Nat→Bool→Option β} {v:β}
theorem l1In_b:Ev (fun n N=>(cs_ n x lo hi).bind (g n N)) v↔Ev (fun n N=>g n N (inn x lo hi)) v:=ae_ l1In_ev
theorem ev_:Ev (fun n N=>(aS_ n x lo hi).bind (g n N)) v↔Ev (fun n N=>g n N (inn x lo hi)) v:=ae_ kt_
theorem isNum_b:Ev (fun n N=>(bf_ n x).bind (g n N)) v↔Ev (fun n N=>g n N (inn x (-1000000000) 1000000000)) v :=
 ae_ (aV_ (by simp only [bf_,ev_,al_]))
end
theorem cS_ {i len:Nat} (h:i<len):decide ((i:Int)<(len:Int))=true:=by simp;omega
theorem cQ_ {len:Nat}:decide ((len:Int)<(len:Int))=false:=by simp
theorem cG_ {i len:Nat} (h:i<len):((0:Int)≤(i:Int)∧(i:Int)<(len:Int))↔True:=by simp;omega
end Go.Pi
end
section
namespace Go.Pi
abbrev cap:Nat:=1048576
def dD_ {α:Type} (f:α→Nat):List α→Nat
 |[]=>0
 |x::xs=>f x+dD_ f xs
def dc_ {α:Type} (f:α→Nat) (l:List α):Nat:=l.length+dD_ f l
def lenL {α:Type} (P:α→Prop) (l:List α):Prop:=l.length≤cz_∧∀ x ∈ l,P x
def szB (s:Bs):Nat:=s.length
def lenB (s:Bs):Prop:=s.length≤cz_
theorem gE_ {α:Type} (f:α→Nat) (d:α) {a:List α} {i:Nat} (h:i<a.length):dD_ f (a.drop i)=f (a.getD i d)+dD_ f (a.drop (i+1)):=by
 rw [dA_ d h];rfl
theorem jO_ {α:Type} (f:α→Nat) (x:α):∀ (a:List α) (i:Nat),dD_ f ((a.set i x).drop (i+1))=dD_ f (a.drop (i+1))
 |[],_=>rfl
 |_::_,0=>rfl
 |_::a,i+1=>by simpa using jO_ f x a i
theorem he_ {α:Type} (f:α→Nat) {a:List α} {x:α} (h:x ∈ a):f x≤dD_ f a:=by
 induction a with
 |nil=>cases h
 |cons y a ih=>
  simp only [dD_]
  rcases List.mem_cons.1 h with rfl|h
  · omega
  · have:=ih h;omega
theorem hV_ {α:Type} (f:α→Nat) {a:List α} {x:α} (h:x ∈ a):1+f x≤dc_ f a:=by
 unfold dc_
 have:=he_ f h
 have:=List.length_pos_of_mem h
 omega
theorem db_ {α:Type} (f:α→Nat) (a:List α):a.length≤dc_ f a:=by unfold dc_;omega
theorem hZ_ {α:Type} (d:α) {a:List α} {i:Nat} (h:i<a.length) (x:α):(a.set i x).getD i d=x:=by
 rw [List.getD_eq_getElem?_getD,List.getElem?_set_self h];rfl
def ja_ (l:Int) (s:Nat):Int:=if (s:Int)≤l then l - s else -1
theorem subS_zero {l:Int} (h:0≤l):ja_ l 0=l:=by unfold ja_;rw [if_pos (by omega)];omega
theorem mn_ {l:Int} {s t:Nat} (h0:0≤l):(ja_ l s<0→ja_ l (s+t) = -1)∧(¬ ja_ l s<0→(0≤ja_ l s∧ja_ l s≤l)∧ja_ (ja_ l s) t=ja_ l (s+t)):=by
 unfold ja_
 constructor<;>intro h
 · split at h
   · omega
   · rw [if_neg (by omega)]
 · split at h
   · rename_i h1
     rw [if_pos h1]
     refine ⟨by omega,?_⟩
     by_cases h2:(t:Int)≤l - s
     · rw [if_pos h2,if_pos (by omega)];omega
     · rw [if_neg h2,if_neg (by omega)]
   · omega
theorem subS_ok {l:Int} {s:Nat} (h:¬ ja_ l s<0):(s:Int)≤l:=by
 unfold ja_ at h;split at h<;>omega
section
variable {α β:Type}
theorem ev_szE {l:Int} (h:0≤l):Ev (fun _ _=>some l) (ja_ l 0):=by rw [subS_zero h];exact al_.2 rfl
theorem ev_szL {l:Int} {m t:Nat} (h0:0≤l) (h1:l≤1048576) (hm:m≤cz_) {g:Nat→Nat→Int→Option Int} (k:∀ r,0≤r→r≤1048576→Ev (fun n N=>g n N r) (ja_ r t)) :
  Ev (fun n N=>cond (decide (W (l - (m:Int))<0)) (some (-1)) (g n N (W (l - (m:Int))))) (ja_ l (m+t)):=by
 simp only [cz_] at hm
 rw [W_id (by omega) (by omega)]
 have e:l - (m:Int)<0∨l - m=ja_ l m:=by unfold ja_;split<;>omega
 rw [aH_]
 refine ⟨fun h => ?_,fun h => ?_⟩
 · have h:=of_decide_eq_true h
   rw [(mn_ h0).1 (by unfold ja_;rw [if_neg (by omega)];omega)]
   exact al_.2 rfl
 · have h:=of_decide_eq_false h
   have e:=e.resolve_left h
   have:=(mn_ (l:=l) (s:=m) (t:=t) h0).2 (by rw [←e];exact h)
   rw [←this.2,←e]
   exact k _ (by omega) (by omega)
theorem jl_ (Q:α→Prop) (d:α) (f:α→Nat) (LM:Nat→Nat→Int→Nat→List α→Option (Int × List α)) (LH:Nat→Nat→List α→Int→Nat→Option Int)
  (hm:∀ i (a:List α) (k:Int),i<a.length→Q (a.getD i d)→a.length≤cz_→0≤k→k+32*(1+f (a.getD i d):Nat)≤cz_ →
    ∃ k' x',k≤k'∧k'≤k+32*(1+f (a.getD i d):Nat)∧(∀ F,Ev (fun n N=>LM n N k' (i+1) (a.set i x')) F→Ev (fun n N=>LM n (N+1) k i a) F) ∧
      ∀ (b:List α) F,i<b.length→b.length≤cz_→b.getD i d=x'→Ev (fun n N=>LH n N b k' (i+1)) F→Ev (fun n N=>LH n (N+1) b k i) F)
  (em:∀ (a:List α) k,Ev (fun n N=>LM n (N+1) k a.length a) (k,a)) (eh:∀ (a:List α) k,Ev (fun n N=>LH n (N+1) a k a.length) k)
  (a:List α) (k:Int) (hq:∀ i,i<a.length→Q (a.getD i d)) (ha:a.length≤cz_) (hk:0≤k) (hb:k+32*(dc_ f a:Nat)≤cz_) :
  ∃ k' a',k≤k'∧k'≤k+32*(dc_ f a:Nat)∧a'.length=a.length∧Ev (fun n _=>LM n n k 0 a) (k',a')∧Ev (fun n _=>LH n n a' k 0) k':=by
 have key:∀ j i (a:List α) (k:Int),j+i=a.length→(∀ m,i≤m→m<a.length→Q (a.getD m d))→a.length≤cz_→0≤k→k+32*((j+dD_ f (a.drop i):Nat):Int)≤cz_ →
   ∃ k' a',k≤k'∧k'≤k+32*((j+dD_ f (a.drop i):Nat):Int)∧a'.length=a.length∧a'.take i=a.take i∧Ev (fun n N=>LM n N k i a) (k',a')∧Ev (fun n N=>LH n N a' k i) k':=by
  intro j
  induction j with
  |zero=>
   intro i a k hi _ _ hk _
   have:i=a.length:=by omega
   subst this
   exact ⟨k,a,by omega,by omega,rfl,rfl,bo_ (em a k),bo_ (eh a k)⟩
  |succ j ih=>
   intro i a k hi hq ha hk hb
   rw [gE_ f d (by omega)] at hb ⊢
   obtain ⟨k1,x',p1,p2,p3,p4⟩:=hm i a k (by omega) (hq i (Nat.le_refl _) (by omega)) ha hk (by omega)
   obtain ⟨k2,a',q1,q2,q3,q4,q5,q6⟩:=ih (i+1) (a.set i x') k1 (by rw [List.length_set];omega) (fun m h1 h2=>by
    rw [List.length_set] at h2
    rw [List.getD_eq_getElem?_getD,List.getElem?_set_ne (by omega),←List.getD_eq_getElem?_getD]
    exact hq m (by omega) h2) (by rw [List.length_set];exact ha) (by omega) (by rw [jO_];omega)
   rw [jO_] at q2
   rw [List.length_set] at q3
   have hlt:i<a'.length:=by omega
   have hx:a'.getD i d=x':=by
    have e:=congrArg (fun l=>l[i]?) q4
    simp only [List.getElem?_take,if_pos (Nat.lt_succ_self i),List.getElem?_set_self (show i<a.length by omega)] at e
    rw [List.getD_eq_getElem?_getD,e];rfl
   refine ⟨k2,a',by omega,by omega,q3,?_,bo_ (p3 _ q5),bo_ (p4 a' k2 hlt (by omega) hx q6)⟩
   have e:=congrArg (List.take i) q4
   simp only [List.take_take,Nat.min_eq_left (Nat.le_succ i),List.take_set_of_le (Nat.le_refl i)] at e
   exact e
 obtain ⟨k',a',h1,h2,h3,_,h5,h6⟩:=key a.length 0 a k (by omega) (fun m _ h=>hq m h) ha hk (by rw [List.drop_zero];unfold dc_ at hb;omega)
 refine ⟨k',a',h1,by rw [List.drop_zero] at h2;unfold dc_;omega,h3,cF_ (f:=fun n N=>LM n N k 0 a) h5,cF_ (f:=fun n N=>LH n N a' k 0) h6⟩
theorem ir_ (d:α) (f:α→Nat) (LM:Nat→Nat→Int→Nat→List α→Option (Int × List α)) (LH:Nat→Nat→List α→Int→Nat→Option Int)
  (hm:∀ i (a:List α) (k:Int),i<a.length→a.length≤cz_→0≤k→k+32*(1+f (a.getD i d):Nat)≤cz_ →
    ∃ k' x',k≤k'∧k'≤k+32*(1+f (a.getD i d):Nat)∧(∀ F,Ev (fun n N=>LM n N k' (i+1) (a.set i x')) F→Ev (fun n N=>LM n (N+1) k i a) F) ∧
      ∀ (b:List α) F,i<b.length→b.length≤cz_→b.getD i d=x'→Ev (fun n N=>LH n N b k' (i+1)) F→Ev (fun n N=>LH n (N+1) b k i) F)
  (em:∀ (a:List α) k,Ev (fun n N=>LM n (N+1) k a.length a) (k,a)) (eh:∀ (a:List α) k,Ev (fun n N=>LH n (N+1) a k a.length) k)
  (a:List α) (k:Int) (ha:a.length≤cz_) (hk:0≤k) (hb:k+32*(dc_ f a:Nat)≤cz_) :
  ∃ k' a',k≤k'∧k'≤k+32*(dc_ f a:Nat)∧a'.length=a.length∧Ev (fun n _=>LM n n k 0 a) (k',a')∧Ev (fun n _=>LH n n a' k 0) k' :=
 jl_ (fun _=>True) d f LM LH (fun i a k h1 _ h2 h3 h4=>hm i a k h1 h2 h3 h4) em eh a k (fun _ _=>trivial) ha hk hb
end
theorem c7_ {k:Int} (h:0≤k) (h':k+1≤cz_):W (k+1)=k+1:=W_id (by omega) (by simp only [cz_] at h';omega)
end Go.Pi
end
section
namespace Go.Pi
theorem W_dn {i:Nat} (h:i≤cz_):W ((i:Int) - 1)=(i:Int) - 1:=by
 rw [W_id (by omega) (by simp only [cz_] at h;omega)]
theorem mi_ {i:Nat}:((i:Int) - 1).toNat=i - 1:=by omega
theorem fU_ {x lo hi:Int} (h:inn x lo hi=true):lo≤x∧x≤hi:=inn_iff.1 h
def fX_ {α:Type} (s:Nat→α→α) (v:α):Nat→Nat→α
 |0,_=>v
 |d+1,i=>s i (fX_ s v d (i+1))
theorem ev_fold {α:Type} (L:Nat→Nat→Nat→Option α) (s:Nat→α→α) {len:Nat} {v:α}
  (h:∀ i w,i<len→Ev (fun n N=>L n N (i+1)) w→Ev (fun n N=>L n (N+1) i) (s i w)) (h2:Ev (fun n N=>L n (N+1) len) v) :
  Ev (fun n _=>L n n 0) (fX_ s v len 0):=by
 have key:∀ d i,d+i=len→Ev (fun n N=>L n N i) (fX_ s v d i):=by
  intro d
  induction d with
  |zero=>intro i hd;obtain rfl:i=len:=by omega
         exact bo_ (f:=fun n N=>L n N i) h2
  |succ d ih=>intro i hd
              exact bo_ (f:=fun n N=>L n N i) (h i _ (by omega) (ih (i+1) (by omega)))
 exact cF_ (f:=fun n N=>L n N 0) (key len 0 (by omega))
theorem ce_ {α:Type} {n b:Nat} {f:Nat→Nat→Option α} {v:α}:Ev (fun m N=>co_ n b (f m N)) v↔n*b≤140737488355328∧Ev f v:=by
 unfold co_
 rw [aH_]
 by_cases h:n*b≤140737488355328<;>simp [h,cT_]
theorem ev_map {α β γ:Type} (d:α) (a:List α) (f:α→β) (L:Nat→Nat→Nat→List β→Option γ) (v:γ)
  (h1:∀ i s,i<a.length→s.length=i→∀ F,Ev (fun n N=>L n N (i+1) (s++[f (a.getD i d)])) F→Ev (fun n N=>L n (N+1) i s) F)
  (h2:Ev (fun n N=>L n (N+1) a.length (a.map f)) v):Ev (fun n _=>L n n 0 []) v:=by
 have key:∀ j i,j+i=a.length→Ev (fun n N=>L n N i ((a.take i).map f)) v:=by
  intro j
  induction j with
  |zero=>
   intro i hi
   have:i=a.length:=by omega
   subst this
   rw [List.take_of_length_le (Nat.le_refl _)]
   exact bo_ h2
  |succ j ih=>
   intro i hi
   refine bo_ (h1 i _ (by omega) (by simp;omega) _ ?_)
   have:=ih (i+1) (by omega)
   rw [List.take_add_one,List.map_append] at this
   have e:a[i]?.toList=[a.getD i d]:=by
    rw [List.getD_eq_getElem?_getD,List.getElem?_eq_getElem (by omega)];rfl
   rw [e] at this
   exact this
 have:=key a.length 0 (by omega)
 exact cF_ (f:=fun n N=>L n N 0 []) this
theorem ex_ {α γ:Type} (S:Nat→α) (len:Nat) (L:Nat→Nat→Nat→α→Option γ) (v:γ)
  (h1:∀ i,i<len→∀ F,Ev (fun n N=>L n N (i+1) (S (i+1))) F→Ev (fun n N=>L n (N+1) i (S i)) F)
  (h2:Ev (fun n N=>L n (N+1) len (S len)) v):Ev (fun n _=>L n n 0 (S 0)) v:=by
 have key:∀ j i,j+i=len→Ev (fun n N=>L n N i (S i)) v:=by
  intro j
  induction j with
  |zero=>
   intro i hi
   have:i=len:=by omega
   subst this
   exact bo_ h2
  |succ j ih=>exact fun i hi=>bo_ (h1 i (by omega) _ (ih (i+1) (by omega)))
 exact cF_ (f:=fun n N=>L n N 0 (S 0)) (key len 0 (by omega))
theorem cJ_ {α:Type} (d:α) {a:List α} {i:Nat} (h:i<a.length):a.take (i+1)=a.take i++[a.getD i d]:=by
 rw [List.take_add_one,List.getD_eq_getElem?_getD,List.getElem?_eq_getElem h];rfl
theorem hG_ {α:Type} (d:α) (P:α→Bool):∀ (rows:List α),fX_ (fun i (x:Int)=>cond (P (rows.getD i d)) (i:Int) x) (-1) rows.length 0=if rows.findIdx P<rows.length then (rows.findIdx P:Int) else -1:=by
 intro rows
 have key:∀ j i,j+i=rows.length→(∀ k,k<i→P (rows.getD k d)=false)→fX_ (fun i (x:Int)=>cond (P (rows.getD i d)) (i:Int) x) (-1) j i=if rows.findIdx P<rows.length then (rows.findIdx P:Int) else -1:=by
  intro j
  induction j with
  |zero=>
   intro i hi hk
   have:¬ rows.findIdx P<rows.length:=by
    intro h
    have h1:=List.findIdx_getElem (w:=h)
    have h2:=hk _ (show rows.findIdx P<i by omega)
    rw [List.getD_eq_getElem?_getD,List.getElem?_eq_getElem h] at h2
    simp only [Option.getD_some] at h2
    rw [h1] at h2;cases h2
   rw [if_neg this];rfl
  |succ j ih=>
   intro i hi hk
   simp only [fX_]
   cases hp:P (rows.getD i d) with
   |true=>
    have hlt:i<rows.length:=by omega
    rw [List.getD_eq_getElem?_getD,List.getElem?_eq_getElem hlt] at hp
    have e:rows.findIdx P=i:=by
     apply Nat.le_antisymm
     · exact Nat.le_of_not_lt fun h=>by have:=List.not_of_lt_findIdx h;rw [Option.getD_some] at hp;rw [hp] at this;cases this
     · exact Nat.le_of_not_lt fun h=>by
        have h2:=hk _ h
        have hl:rows.findIdx P<rows.length:=by omega
        rw [List.getD_eq_getElem?_getD,List.getElem?_eq_getElem hl] at h2
        rw [Option.getD_some,List.findIdx_getElem (w:=hl)] at h2;cases h2
    rw [e,if_pos hlt];rfl
   |false=>
    rw [cond_false]
    exact ih (i+1) (by omega) fun k hk'=>by
     by_cases e:k=i
     · subst e;exact hp
     · exact hk k (by omega)
 exact key rows.length 0 (by omega) fun k hk=>by omega
theorem dr_ {α:Type} {lo hi:Int} {len:Nat} {f:Nat→Nat→Option α} {v:α}:Ev (fun n N=>f0_ lo hi len (f n N)) v↔(0≤lo∧lo≤hi∧hi≤(len:Int))∧Ev f v:=by
 unfold f0_
 simp only [aH_,cT_]
 by_cases h1:0≤lo<;>by_cases h2:lo≤hi<;>by_cases h3:hi≤(len:Int)<;>simp [h1,h2,h3]
theorem f4_ {p:Nat→Bool} {len:Nat}:l7_ p len=true↔∀ i,i<len→p i=true:=by
 have key:∀ d i,d+i=len→(fM_ p d i=true↔∀ k,i≤k→k<len→p k=true):=by
  intro d
  induction d with
  |zero=>intro i hi;simp only [fM_,true_iff];intro k h1 h2;omega
  |succ d ih=>
   intro i hi
   simp only [fM_,Bool.and_eq_true,ih (i+1) (by omega)]
   constructor
   · rintro ⟨h1,h2⟩ k h3 h4
     by_cases e:k=i
     · subst e;exact h1
     · exact h2 k (by omega) h4
   · exact fun h=>⟨h i (Nat.le_refl _) (by omega),fun k h1 h2=>h k (by omega) h2⟩
 have:=key len 0 (by omega)
 unfold l7_
 rw [this]
 exact ⟨fun h i hi=>h i (Nat.zero_le _) hi,fun h i _ hi=>h i hi⟩
end Go.Pi
end
section
namespace Go.Pi
section
variable {α β σ:Type}
def Ans (f:Nat→Nat→Option α) (Q:α→Prop):Prop:=∃ v,Ev f v∧Q v
theorem ans_ev {f:Nat→Nat→Option α} {v:α} (h:Ev f v) {Q:α→Prop}:Ans f Q↔Q v :=
 ⟨fun ⟨w,h1,h2⟩=>(dN_ h).1 h1 ▸ h2,fun hq=>⟨v,h,hq⟩⟩
theorem cp_ {v:α} {Q:α→Prop}:Ans (fun _ _=>some v) Q↔Q v:=ans_ev (al_.2 rfl)
theorem bP_ {f:Nat→Nat→Option α} {a:α} (h:Ev f a) {g:Nat→Nat→α→Option β} {Q:β→Prop}:Ans (fun n N=>(f n N).bind (g n N)) Q↔Ans (fun n N=>g n N a) Q:=by
 unfold Ans;simp only [ae_ h]
theorem cP_ {f:Nat→Nat→Option α} {P:α→Prop} (h:Ans f P) {g:Nat→Nat→α→Option β} {Q:β→Prop} (k:∀ v,P v→Ans (fun n N=>g n N v) Q):Ans (fun n N=>(f n N).bind (g n N)) Q:=by
 obtain ⟨v,h1,h2⟩:=h
 exact (bP_ h1).2 (k v h2)
theorem cv_ {c:Bool} {f g:Nat→Nat→Option α} {Q:α→Prop}:Ans (fun n N=>cond c (f n N) (g n N)) Q↔(c=true→Ans f Q)∧(c=false→Ans g Q):=by
 cases c<;>simp
theorem hv_ {i:Int} {len:Nat} {f:Nat→Nat→Option α} {Q:α→Prop}:Ans (fun n N=>inB i len (f n N)) Q↔(0≤i∧i<(len:Int))∧Ans f Q:=by
 unfold Ans;simp only [bQ_]
 exact ⟨fun ⟨v,⟨h1,h2⟩,h3⟩=>⟨h1,v,h2,h3⟩,fun ⟨h1,v,h2,h3⟩=>⟨v,⟨h1,h2⟩,h3⟩⟩
theorem eq_ {n b:Nat} {f:Nat→Nat→Option α} {Q:α→Prop}:Ans (fun m N=>co_ n b (f m N)) Q↔n*b≤140737488355328∧Ans f Q:=by
 unfold Ans;simp only [ce_]
 exact ⟨fun ⟨v,⟨h1,h2⟩,h3⟩=>⟨h1,v,h2,h3⟩,fun ⟨h1,v,h2,h3⟩=>⟨v,⟨h1,h2⟩,h3⟩⟩
theorem nb_ {lo hi:Int} {len:Nat} {f:Nat→Nat→Option α} {Q:α→Prop}:Ans (fun n N=>f0_ lo hi len (f n N)) Q↔(0≤lo∧lo≤hi∧hi≤(len:Int))∧Ans f Q:=by
 unfold Ans;simp only [dr_]
 exact ⟨fun ⟨v,⟨h1,h2⟩,h3⟩=>⟨h1,v,h2,h3⟩,fun ⟨h1,v,h2,h3⟩=>⟨v,⟨h1,h2⟩,h3⟩⟩
theorem cY_ {f:Nat→Nat→Option α} {Q:α→Prop} (h:Ans (fun n N=>f (n+1) N) Q):Ans f Q :=
 let ⟨v,h1,h2⟩:=h;⟨v,aV_ h1,h2⟩
theorem ans_round {f:Nat→Nat→Option α} {Q:α→Prop} (h:Ans (fun n N=>f n (N+1)) Q):Ans f Q :=
 let ⟨v,h1,h2⟩:=h;⟨v,bo_ h1,h2⟩
theorem ans_diag {f:Nat→Nat→Option α} {Q:α→Prop} (h:Ans f Q):Ans (fun n _=>f n n) Q :=
 let ⟨v,h1,h2⟩:=h;⟨v,cF_ h1,h2⟩
theorem eA_ (L:Nat→Nat→σ→Option α) (m:σ→Nat) (I:σ→Prop) (Q:α→Prop)
  (h:∀ s,I s→(∀ s',I s'→m s'<m s→Ans (fun n N=>L n N s') Q)→Ans (fun n N=>L n (N+1) s) Q):∀ s,I s→Ans (fun n _=>L n n s) Q:=by
 have key:∀ k s,m s<k→I s→Ans (fun n N=>L n N s) Q:=by
  intro k
  induction k with
  |zero=>intro s hk;omega
  |succ k ih=>exact fun s hk hI=>ans_round (h s hI fun s' hI' hm=>ih s' (by omega) hI')
 exact fun s hI=>ans_diag (f:=fun n N=>L n N s) (key _ s (Nat.lt_succ_self _) hI)
end
end Go.Pi
end
section
namespace Go.Pi
theorem by_ (j:aa_):aa_.re j=j:=by cases j;rfl
def gy_ (s:Bs):Bool:=l7_ (fun i=>inn ((s.getD i 0).toNat:Int) 32 126) s.length&&decide ((s.length:Int)≤60)
theorem m9_ (b:UInt8):W ((b.toNat:Int))=(b.toNat:Int):=W_id (by omega) (by have:=b.toNat_lt;omega)
theorem eC_ {s:Bs} (hs:s.length≤cz_):Ev (fun n _=>bd_ n s) (gy_ s):=by
 refine aV_ ?_
 simp only [bd_]
 refine gh_ (fun n N i=>bd_.loop3 n (fun xy1=>(some (decide ((xy1.length:Int)≤60)))) N s (i:Int)) _ (fun i w hi ih => ?_) ?_
 · simp only [bd_.turn3,bd_.step3,Int.toNat_natCast,aH_,bQ_,al_,W_up hi hs,dN_ ih,cS_ hi,cG_ hi]
   clear ih
   simp only [inn]
   by_cases h1:(((s.getD i 0).toNat:Nat):Int)<32<;>by_cases h2:(((s.getD i 0).toNat:Nat):Int) > 126<;>simp [h1,h2]<;>(intros;omega)
 · simp only [bd_.turn3,bd_.step3,cQ_,cond_false,al_]
theorem eI_ {s:Bs} (hs:s.length≤cz_):Ev (fun n _=>au_ n s) (gy_ s):=by
 refine aV_ ?_
 simp only [au_]
 refine gh_ (fun n N i=>au_.loop3 n (fun xy1=>(some (decide ((xy1.length:Int)≤60)))) N s (s.length:Int) (i:Int)) _ (fun i w hi ih => ?_) ?_
 · simp only [au_.turn3,au_.step3,Int.toNat_natCast,aH_,bQ_,ev_,m9_,al_,W_up hi hs,dN_ ih,cS_ hi,cG_ hi]
   clear ih
   grind
 · simp only [au_.turn3,au_.step3,cQ_,cond_false,al_]
def lenNs (c:Nat) (l:List Bs):Prop:=l.length≤c∧∀ x ∈ l,x.length≤c
theorem gY_ {c:Nat} {l:List Bs} (h:lenNs c l) (i:Nat):(l.getD i []).length≤c:=by
 by_cases hi:i<l.length
 · exact h.2 _ (cC_ [] hi)
 · rw [List.getD_eq_getElem?_getD,List.getElem?_eq_none (by omega)];exact Nat.zero_le _
def hN_ (l:List Bs):Bool:=l7_ (fun i=>gy_ (l.getD i [])&&(decide (i=0)||Op.bytesLess (l.getD (i - 1) []) (l.getD i []))) l.length
theorem iy_ {l:List Bs} (h:lenNs cz_ l):Ev (fun n _=>ao_ n l) (hN_ l):=by
 refine aV_ ?_
 simp only [ao_]
 refine h0_ (gh_ (fun n N i=>ao_.loop3 n (some true) N l l (l.length:Int) (i:Int)) (fun i=>gy_ (l.getD i [])&&(decide (i=0)||Op.bytesLess (l.getD (i - 1) []) (l.getD i []))) (len:=l.length) (v:=true) (fun i w hi ih => ?_) ?_) (by rw [Bool.and_true];rfl)
 · simp only [ao_.turn3,ao_.step3,Int.toNat_natCast,W_up hi h.1,W_dn (i:=i) (by have:=h.1;omega),mi_,aH_,bQ_,ae_ (eI_ (gY_ h i)),al_,dN_ ih,cS_ hi,cG_ hi]
   clear ih
   repeat' (first|apply And.intro|intro _)
   all_goals (try rw [Bool.eq_iff_iff])
   all_goals (try simp only [Bool.not_eq_true',Bool.not_eq_false',decide_eq_true_eq,decide_eq_false_iff_not,Bool.and_eq_true,Bool.or_eq_true,Bool.and_eq_false_iff,Bool.or_eq_false_iff] at *)
   all_goals grind
 · simp only [ao_.turn3,ao_.step3,cQ_,cond_false,al_]
def ma_ (j:aa_):Bool:=cond (j.kind != 5) ((j.names.length:Int) == 0) (hN_ j.names&&((j.names.length:Int) == (j.list.length:Int)))
theorem h9_ {j:aa_} (h:lenNs cz_ j.names):Ev (fun n _=>ad_ n j) (ma_ j):=by
 refine aV_ ?_
 have hl:Ev (fun n _=>ad_.loop6 n (fun xy2 xy3 xy4 xy5 xy6=>(some ((xy6.length:Int) == (xy5.length:Int)))) n 0 j.kind j.n_ j.s j.list j.names) (hN_ j.names&&((j.names.length:Int) == (j.list.length:Int))):=by
  refine gh_ (fun n N i=>ad_.loop6 n (fun xy2 xy3 xy4 xy5 xy6=>(some ((xy6.length:Int) == (xy5.length:Int)))) N (i:Int) j.kind j.n_ j.s j.list j.names) _ (fun i w hi ih => ?_) ?_
  · simp only [ad_.turn6,ad_.step6,Int.toNat_natCast,W_up hi h.1,W_dn (i:=i) (by have:=h.1;omega),mi_,aH_,bQ_,ae_ (eC_ (gY_ h i)),al_,dN_ ih,cS_ hi,cG_ hi]
    clear ih
    repeat' (first|apply And.intro|intro _)
    all_goals (try rw [Bool.eq_iff_iff])
    all_goals (try simp only [Bool.not_eq_true',Bool.not_eq_false',decide_eq_true_eq,decide_eq_false_iff_not,Bool.and_eq_true,Bool.or_eq_true,Bool.and_eq_false_iff,Bool.or_eq_false_iff] at *)
    all_goals grind
  · simp only [ad_.turn6,ad_.step6,cQ_,cond_false,al_]
 simp only [ad_,aH_,al_,dN_ hl,ma_]
 cases (j.kind != 5)<;>simp
end Go.Pi
end
section
namespace Go.Pi
def bi (l:Bs):List Int:=l.map fun c=>((c.toNat:Nat):Int)
theorem hc_ (l:Bs):eT_ (bi l)=l:=by
 unfold eT_ bi
 rw [List.map_map]
 refine (List.map_congr_left fun c _ => ?_).trans (List.map_id l)
 simp
theorem hL_ (l:Bs):(bi l).length=l.length:=List.length_map _
theorem bi_app (a b:Bs):bi (a++b)=bi a++bi b:=List.map_append
theorem hK_ (c:UInt8) (k:Nat) (d:UInt8) (hd:d.toNat=k):(((c.toNat:Nat):Int) == (k:Int))=decide (c=d):=by
 by_cases h:c=d
 · subst h;rw [hd];simp
 · rw [decide_eq_false h,beq_eq_false_iff_ne]
   intro e
   exact h (UInt8.toNat_inj.1 (by omega))
theorem byte34 (c:UInt8):(((c.toNat:Nat):Int) == 34)=decide (c=34):=hK_ c 34 34 rfl
theorem byte92 (c:UInt8):(((c.toNat:Nat):Int) == 92)=decide (c=92):=hK_ c 92 92 rfl
theorem byte126 (c:UInt8):(((c.toNat:Nat):Int) == 126)=decide (c=126):=hK_ c 126 126 rfl
theorem byte47 (c:UInt8):(((c.toNat:Nat):Int) == 47)=decide (c=47):=hK_ c 47 47 rfl
theorem ef_ (f:UInt8→Bs) (h:∀ c,(f c).length≤2):∀ s:Bs,(s.flatMap f).length≤2*s.length
 |[]=>Nat.le_refl _
 |c::s=>by
  have:=ef_ f h s
  have:=h c
  simp only [List.flatMap_cons,List.length_append,List.length_cons];omega
theorem la_ (f:UInt8→Bs) {s:Bs} {i:Nat} (h:i<s.length):(s.take (i+1)).flatMap f=(s.take i).flatMap f++f (s.getD i 0):=by
 rw [cJ_ 0 h,List.flatMap_append];simp
def d0_ (c:UInt8):Bs:=if c=34∨c=92 then [92,c] else [c]
theorem gM_ (c:UInt8):(d0_ c).length≤2:=by unfold d0_;split<;>simp
def cN_ (s:Bs):Bs:=34::s.flatMap d0_++[34]
theorem eh_ (s:Bs):(cN_ s).length≤2*s.length+2:=by
 have:=ef_ d0_ gM_ s
 simp only [cN_,List.cons_append,List.length_cons,List.length_append,List.length_nil];omega
theorem q2 (o:Bs) (c:UInt8):bi (34::(o++[92,c]))=(bi (34::o)++[92])++[((c.toNat:Nat):Int)]:=by simp [bi]
theorem q1 (o:Bs) (c:UInt8):bi (34::(o++[c]))=bi (34::o)++[((c.toNat:Nat):Int)]:=by simp [bi]
theorem qEnd (o:Bs):eT_ (bi (34::o)++[34])=34::o++[34]:=by
 have:bi (34::o)++[34]=bi (34::o++[34]):=by simp [bi]
 rw [this,hc_]
theorem fp_ {s:Bs} (hs:s.length≤1000000):Ev (fun n _=>aZ_ n s) (cN_ s):=by
 refine aV_ ?_
 have ht:s.length≤cz_:=by simp only [cz_];omega
 simp only [aZ_]
 have:=ex_ (fun i=>bi (34::(s.take i).flatMap d0_)) s.length (fun n N i (o:List Int)=>aZ_.loop4 n (fun xy1=>(co_ (xy1.length+([34]:List Int).length) 1 (some (eT_ (xy1++([34]:List Int)))))) N s (i:Int) o) (cN_ s) (fun i hi F hF => ?_) ?_
 · exact this
 · have hl:=ef_ d0_ gM_ (s.take i)
   rw [List.length_take] at hl
   rw [la_ d0_ hi] at hF
   generalize (s.take i).flatMap d0_=o at hF hl ⊢
   have hb:=hL_ (34::o)
   simp only [List.length_cons] at hb
   simp only [aZ_.turn4,aZ_.step4,Int.toNat_natCast,W_up hi ht,aH_,bQ_,ce_,cS_ hi,cG_ hi,byte34,byte92]
   generalize s.getD i 0=c at hF ⊢
   unfold d0_ at hF
   by_cases h1:c=34
   · rw [if_pos (.inl h1),q2] at hF
     simp only [h1,decide_true] at hF ⊢
     repeat' (first|apply And.intro|intro _)
     all_goals (first|contradiction|exact hF|trivial|(simp [hb];omega))
   · by_cases h2:c=92
     · rw [if_pos (.inr h2),q2] at hF
       simp only [h2,decide_true] at hF ⊢
       repeat' (first|apply And.intro|intro _)
       all_goals (first|contradiction|exact hF|trivial|(simp [hb];omega))
     · rw [if_neg (fun h=>h.elim h1 h2),q1] at hF
       simp only [h1,h2,decide_false] at hF ⊢
       repeat' (first|apply And.intro|intro _)
       all_goals (first|contradiction|exact hF|trivial|(simp [hb];omega))
 · have hl:=ef_ d0_ gM_ s
   have hb:=hL_ (34::s.flatMap d0_)
   simp only [List.length_cons] at hb
   simp only [aZ_.turn4,aZ_.step4,cQ_,cond_false,ce_,List.take_length,al_,qEnd]
   exact ⟨by simp only [hb,List.length_cons,List.length_nil];omega,rfl⟩
theorem gf_ {s:Bs} (hs:s.length≤1000000):Ev (fun n _=>be_ n s) (cN_ s):=by
 refine aV_ ?_
 have ht:s.length≤cz_:=by simp only [cz_];omega
 simp only [be_]
 have:=ex_ (fun i=>bi (34::(s.take i).flatMap d0_)) s.length (fun n N i (o:List Int)=>be_.loop4 n (fun xy1=>(co_ (xy1.length+([34]:List Int).length) 1 (some (eT_ (xy1++([34]:List Int)))))) N s (s.length:Int) (i:Int) o) (cN_ s) (fun i hi F hF => ?_) ?_
 · exact this
 · have hl:=ef_ d0_ gM_ (s.take i)
   rw [List.length_take] at hl
   rw [la_ d0_ hi] at hF
   generalize (s.take i).flatMap d0_=o at hF hl ⊢
   have hb:=hL_ (34::o)
   simp only [List.length_cons] at hb
   simp only [be_.turn4,be_.step4,Int.toNat_natCast,W_up hi ht,aH_,bQ_,ce_,cS_ hi,cG_ hi,byte34,byte92]
   generalize s.getD i 0=c at hF ⊢
   unfold d0_ at hF
   by_cases h1:c=34
   · rw [if_pos (.inl h1),q2] at hF
     simp only [h1,decide_true] at hF ⊢
     repeat' (first|apply And.intro|intro _)
     all_goals (first|contradiction|exact hF|trivial|(simp [hb];omega))
   · by_cases h2:c=92
     · rw [if_pos (.inr h2),q2] at hF
       simp only [h2,decide_true] at hF ⊢
       repeat' (first|apply And.intro|intro _)
       all_goals (first|contradiction|exact hF|trivial|(simp [hb];omega))
     · rw [if_neg (fun h=>h.elim h1 h2),q1] at hF
       simp only [h1,h2,decide_false] at hF ⊢
       repeat' (first|apply And.intro|intro _)
       all_goals (first|contradiction|exact hF|trivial|(simp [hb];omega))
 · have hl:=ef_ d0_ gM_ s
   have hb:=hL_ (34::s.flatMap d0_)
   simp only [List.length_cons] at hb
   simp only [be_.turn4,be_.step4,cQ_,cond_false,ce_,List.take_length,al_,qEnd]
   exact ⟨by simp only [hb,List.length_cons,List.length_nil];omega,rfl⟩
end Go.Pi
end
section
namespace Go.Pi
theorem eg_ (a b:UInt8) (l:Bs):Lib.index (b::l) [a]=if a=b then 0 else if Lib.index l [a] = -1 then -1 else Lib.index l [a]+1:=by
 rw [Lib.index]
 have:List.isPrefixOf [a] (b::l)=decide (a=b):=by
  simp only [List.isPrefixOf,Bool.and_true]
  exact Bool.eq_iff_iff.2 (by simp)
 rw [this]
 by_cases h:a=b
 · rw [decide_eq_true h,if_pos rfl,if_pos h]
 · rw [decide_eq_false h,if_neg (by simp),if_neg h]
   by_cases h2:Lib.index l [a] = -1
   · rw [h2,if_pos rfl,if_pos (by decide)]
   · rw [if_neg h2,if_neg (by simpa using h2)]
theorem lE_ {a b:UInt8} (h:a≠b) (new l:Bs):∀ k,Lib.replaceK [a] new k (b::l)=b::Lib.replaceK [a] new k l
 |0=>rfl
 |k+1=>by
  rw [Lib.replaceK,Lib.replaceK,eg_,if_neg h]
  by_cases h2:Lib.index l [a] = -1
  · rw [if_pos h2,if_pos (by decide),h2,if_pos (by decide)]
  · have:=Lib.index_ge l [a]
    obtain ⟨i,hi⟩:∃ i:Nat,Lib.index l [a]=i:=⟨(Lib.index l [a]).toNat,by omega⟩
    rw [if_neg h2,if_neg (by rw [hi];simp<;>omega),if_neg (by rw [hi];simp<;>omega),hi,show ((i:Int)+1).toNat=i+1 by omega,show ((i:Int)).toNat=i by omega]
    rfl
theorem lF_ (a:UInt8) (new l:Bs) (k:Nat):Lib.replaceK [a] new (k+1) (a::l)=new++Lib.replaceK [a] new k l:=by
 rw [Lib.replaceK,eg_,if_pos rfl,if_neg (by decide)]
 rfl
theorem fw_ (a:UInt8) (new:Bs):∀ (s:Bs) (k:Nat),s.count a≤k→Lib.replaceK [a] new k s=s.flatMap fun c=>if c=a then new else [c]
 |[],0,_=>rfl
 |[],k+1,_=>by
  rw [Lib.replaceK]
  have:Lib.index [] [a] = -1:=rfl
  rw [this,if_pos (by decide)];rfl
 |b::l,k,h=>by
  by_cases e:b=a
  · subst e
    rw [List.count_cons_self] at h
    obtain ⟨k,rfl⟩:∃ m,k=m+1:=⟨k - 1,by omega⟩
    rw [lF_,fw_ b new l k (by omega),List.flatMap_cons,if_pos rfl]
  · rw [List.count_cons_of_ne e] at h
    rw [lE_ (fun h=>e h.symm),fw_ a new l k h,List.flatMap_cons,if_neg e];rfl
theorem e6_ (a:UInt8):∀ (s:Bs) (f:Nat),s.length<f→Lib.countFrom [a] f s=s.count a
 |[],f+1,_=>by
  rw [Lib.countFrom]
  have:Lib.index [] [a] = -1:=rfl
  rw [this,if_pos (by decide)];rfl
 |b::l,f+1,h=>by
  have hl:l.length<f:=by simpa using h
  by_cases e:a=b
  · subst e
    rw [List.count_cons_self,Lib.countFrom,eg_,if_pos rfl,if_neg (by decide)]
    show 1+Lib.countFrom [a] f l=_
    rw [e6_ a l f hl];omega
  · rw [List.count_cons_of_ne (fun h=>e h.symm),←e6_ a l (f+1) (by omega),Lib.countFrom,Lib.countFrom,eg_,if_neg e]
    by_cases h2:Lib.index l [a] = -1
    · rw [if_pos h2,if_pos (by decide),h2,if_pos (by decide)]
    · have:=Lib.index_ge l [a]
      obtain ⟨i,hi⟩:∃ i:Nat,Lib.index l [a]=i:=⟨(Lib.index l [a]).toNat,by omega⟩
      rw [if_neg h2,if_neg (by rw [hi];simp<;>omega),if_neg (by rw [hi];simp<;>omega),hi,show ((i:Int)+1).toNat=i+1 by omega,show ((i:Int)).toNat=i by omega]
      rfl
theorem iH_ (a:UInt8) (s:Bs):Lib.count s [a]=s.count a:=e6_ a s _ (Nat.lt_succ_self _)
theorem iZ_ (a:UInt8) (new s:Bs) (hne:([a] == new)=false):Lib.replaceAll s [a] new=s.flatMap fun c=>if c=a then new else [c]:=by
 unfold Lib.replaceAll Lib.replace Lib.replaceNum
 rw [hne,if_neg (by simp),if_pos (.inl (by decide)),iH_]
 exact fw_ a new s _ (Nat.le_refl _)
theorem g7_ {a b c:UInt8} {s:Bs} (hs:s.length≤1000000) (hne:([a] == [b,c])=false):Ev (fun n _=>strings_ReplaceAll n s [a] [b,c]) (s.flatMap fun x=>if x=a then [b,c] else [x]):=by
 refine aV_ ?_
 have:=List.count_le_length (a:=a) (l:=s)
 simp only [strings_ReplaceAll,ej_,iH_,iZ_ a [b,c] s hne,aH_,al_,cT_]
 refine ⟨fun _=>trivial,fun h => ?_⟩
 have e1:decide (s.length<4294967281)=true:=decide_eq_true (by omega)
 have e2:decide (1≤[a].length)=true:=rfl
 have e3:decide (s.length+List.count a s*[b,c].length≤140737488355328)=true:=decide_eq_true (by simp only [List.length_cons,List.length_nil];omega)
 rw [e1,e2,e3] at h;cases h
def et_ (c:UInt8):Bs:=if c=126 then [126,48] else if c=47 then [126,49] else [c]
theorem mc_ (c:UInt8):(et_ c).length≤2:=by
 unfold et_
 split
 · simp
 · split<;>simp
theorem wesc_two (s:Bs):((s.flatMap fun x=>if x=126 then [126,48] else [x]).flatMap fun x=>if x=47 then [126,49] else [x])=s.flatMap et_:=by
 induction s with
 |nil=>rfl
 |cons c s ih=>
  rw [List.flatMap_cons,List.flatMap_append,ih,List.flatMap_cons]
  congr 1
  unfold et_
  by_cases h1:c=126
  · subst h1;rfl
  · by_cases h2:c=47
    · subst h2;rfl
    · rw [if_neg h1,if_neg h1,if_neg h2];simp [h2]
def FWay (w:List Bs):Bs:=w.flatMap fun s=>47::s.flatMap et_
theorem md_ {w:List Bs} {i:Nat} (h:i<w.length):FWay (w.take (i+1))=FWay (w.take i)++(47::(w.getD i []).flatMap et_):=by
 unfold FWay
 rw [cJ_ [] h,List.flatMap_append];simp
theorem kq_ {w:List Bs} {c:Nat} (h:∀ s ∈ w,s.length≤c):(FWay w).length≤w.length*(2*c+1):=by
 induction w with
 |nil=>exact Nat.zero_le _
 |cons s w ih=>
  have h1:=ef_ et_ mc_ s
  have h2:=h s (List.mem_cons_self ..)
  have h3:=ih fun x hx=>h x (List.mem_cons_of_mem _ hx)
  have e:FWay (s::w)=(47::s.flatMap et_)++FWay w:=rfl
  rw [e,List.length_append,List.length_cons,List.length_cons,Nat.add_mul];omega
theorem mj_ {w:List Bs} {c:Nat} (h:∀ s ∈ w,s.length≤c) (i:Nat):∀ s ∈ w.take i,s.length≤c:=fun s hs=>h s (List.mem_of_mem_take hs)
theorem fA_ {w:List Bs} (hw:w.length≤6) (hs:∀ s ∈ w,s.length≤60):Ev (fun n _=>a0_ n w) (FWay w):=by
 refine aV_ ?_
 have ht:w.length≤cz_:=by simp only [cz_];omega
 simp only [a0_]
 have:=ex_ (fun i=>FWay (w.take i)) w.length (fun n N i (o:Bs)=>a0_.loop4 n (fun xy3=>(some xy3)) N o w (w.length:Int) (i:Int)) (FWay w) (fun i hi F hF => ?_) ?_
 · exact this
 · have h1:=hs _ (cC_ [] hi)
   have h2:=ef_ et_ mc_ (w.getD i [])
   have h3:=kq_ (mj_ hs i)
   rw [List.length_take] at h3
   rw [md_ hi] at hF
   have r1:=g7_ (a:=126) (b:=126) (c:=48) (s:=w.getD i []) (by omega) (by decide)
   have h4:=ef_ (fun x=>if x=126 then [126,48] else [x]) (fun c=>by split<;>simp) (w.getD i [])
   have r2:=g7_ (a:=47) (b:=126) (c:=49) (s:=(w.getD i []).flatMap fun x=>if x=126 then [126,48] else [x]) (by omega) (by decide)
   rw [wesc_two] at r2
   generalize FWay (w.take i)=o at hF h3 ⊢
   simp only [a0_.turn4,a0_.step4,Int.toNat_natCast,W_up hi ht,aH_,bQ_,cT_,cS_ hi,cG_ hi,ae_ r1,ae_ r2]
   generalize (w.getD i []).flatMap et_=e at hF h2 ⊢
   have e2:([47]:Bs)++e=47::e:=rfl
   rw [e2]
   refine ⟨fun _=>⟨trivial,fun _=>⟨fun _=>hF,fun h => ?_⟩,fun h => ?_⟩,fun h=>(by cases h)⟩
   · have h:=of_decide_eq_false h
     simp only [List.length_cons] at h;omega
   · have h:=of_decide_eq_false h
     simp only [List.length_cons,List.length_nil] at h;omega
 · simp only [a0_.turn4,a0_.step4,cQ_,cond_false,List.take_length,al_]
theorem gS_ {α:Type} {i len:Nat} {x:Option α} (h:i<len):inB (i:Int) len x=x:=by
 unfold inB
 rw [decide_eq_true (by omega),decide_eq_true (by omega)];rfl
theorem gK_ {α:Type} {n b:Nat} {x:Option α} (h:n*b≤140737488355328):co_ n b x=x:=by
 unfold co_
 rw [decide_eq_true h];rfl
theorem kh_ {α:Type} {f g:Nat→Nat→Option α} {v:α} (M:Nat) (h:∀ n N,M≤n→f n N=g n N) (hg:Ev g v):Ev f v:=by
 obtain ⟨M',hM⟩:=hg
 exact ⟨max M M',fun n N h1 h2=>by rw [h n N (by omega)];exact hM n N (by omega) (by omega)⟩
theorem kv_ (n:Nat) (k2:List Bs→Int→List Int→Option Bs) {w:List Bs} {i:Nat} (hi:i<w.length) (hl:(w.getD i []).length≤1000000):∀ (d j m:Nat) (o:List Int),j+d=(w.getD i []).length→d<m→o.length+2*d≤100000000 →
  as_.loop10 n k2 m w (i:Int) (j:Int) o=k2 w (i:Int) (o++bi (((w.getD i []).drop j).flatMap et_))
 |0,j,m+1,o,hj,_,_=>by
  have e:(j:Int)=((w.getD i []).length:Int):=by omega
  have e2:(w.getD i []).drop j=[]:=List.drop_eq_nil_of_le (by omega)
  rw [as_.turn10,as_.step10,Int.toNat_natCast,gS_ hi,e,cQ_,e2]
  simp [bi]
 |d+1,j,m+1,o,hj,hm,ho=>by
  have hjl:j<(w.getD i []).length:=by omega
  have ih:=fun o=>kv_ n k2 hi hl d (j+1) m o (by omega) (by omega)
  have e1:(w.getD i []).drop j=(w.getD i []).getD j 0::(w.getD i []).drop (j+1):=dA_ 0 hjl
  rw [as_.turn10,as_.step10,Int.toNat_natCast,Int.toNat_natCast,gS_ hi,gS_ hi,gS_ hi,gS_ hjl,gS_ hjl,cS_ hjl,W_up hjl (show (w.getD i []).length≤cz_ by simp only [cz_];omega),byte126,byte47,e1,List.flatMap_cons,bi_app,←List.append_assoc]
  generalize (w.getD i []).getD j 0=c
  rw [gK_ (by simp;omega),gK_ (by simp;omega),gK_ (by simp;omega)]
  unfold et_
  by_cases h1:c=126
  · rw [decide_eq_true h1,if_pos h1]
    exact ih _ (by simp;omega)
  · by_cases h2:c=47
    · rw [decide_eq_false h1,decide_eq_true h2,if_neg h1,if_pos h2]
      exact ih _ (by simp;omega)
    · rw [decide_eq_false h1,decide_eq_false h2,if_neg h1,if_neg h2]
      exact ih _ (by simp;omega)
theorem ia_ {w:List Bs} (hw:w.length≤6) (hs:∀ s ∈ w,s.length≤60):Ev (fun n _=>as_ n w) (FWay w):=by
 refine aV_ ?_
 have ht:w.length≤cz_:=by simp only [cz_];omega
 simp only [as_]
 have:=ex_ (fun i=>bi (FWay (w.take i))) w.length (fun n N i (o:List Int)=>as_.loop4 n (fun xy4=>(some (eT_ xy4))) N w (i:Int) o) (FWay w) (fun i hi F hF => ?_) ?_
 · exact this
 · have h1:=hs _ (cC_ [] hi)
   have h3:=kq_ (mj_ hs i)
   rw [List.length_take] at h3
   rw [md_ hi] at hF
   generalize FWay (w.take i)=o at hF h3 ⊢
   have hb:=hL_ o
   simp only [as_.turn4,as_.step4,cS_ hi,cond_true,ce_]
   refine ⟨by simp [hb];omega,kh_ 61 (fun n N hn=>kv_ n _ hi (by omega) (w.getD i []).length 0 n _ (by omega) (by omega) (by simp only [hb,List.length_append,List.length_cons,List.length_nil];omega)) ?_⟩
   simp only [W_up hi ht,List.drop_zero]
   have e:bi (o++47::(w.getD i []).flatMap et_)=bi o++([47]:List Int)++bi ((w.getD i []).flatMap et_):=by simp [bi]
   rw [e] at hF
   exact hF
 · simp only [as_.turn4,as_.step4,cQ_,cond_false,List.take_length,al_,hc_]
end Go.Pi
end
section
namespace Go.Pi
theorem iw_ (k:Int):k=0∨k=1∨k=2∨k=3∨k=4∨k=5∨(k≠0∧k≠1∧k≠2∧k≠3∧k≠4∧k≠5):=by omega
theorem j6_ {α:Type} (l:List α):decide (l.length=0) = !decide ((l.length:Int) > 0):=by
 by_cases hz:l.length=0
 · rw [hz];rfl
 · rw [decide_eq_false hz,decide_eq_true (show (l.length:Int) > 0 by omega)];rfl
def FOwnK (j:aa_):Bool :=
 cond (j.kind == 1) (inn j.n_ 0 1) (cond (j.kind == 2) (inn j.n_ (-1000000000) 1000000000) (cond (j.kind == 3) (gy_ j.s) (cond (j.kind == 5) (((j.names.length:Int) == (j.list.length:Int))&&hN_ j.names) ((j.kind == 0)||(j.kind == 4)))))
def FOwn (j:aa_):Bool :=
 (decide (j.list.length=0)||((j.kind == 4)||(j.kind == 5)))&&((decide (j.names.length=0)||(j.kind == 5))&&(((j.n_ == 0)||((j.kind == 1)||(j.kind == 2)))&&(((j.s == [])||(j.kind == 3))&&FOwnK j)))
def lenJ1 (j:aa_):Prop:=j.s.length≤cz_∧lenNs cz_ j.names
theorem kc_ {j:aa_} (h:lenJ1 j):Ev (fun n _=>ct_ n j) (FOwn j):=by
 refine aV_ ?_
 simp only [ct_,aH_,ev_,isNum_b,ae_ (eI_ h.1),ae_ (iy_ h.2),al_]
 unfold FOwn FOwnK
 have e1:=j6_ j.list
 have e2:=j6_ j.names
 rw [e1,e2]
 generalize decide ((j.list.length:Int) > 0)=a
 generalize decide ((j.names.length:Int) > 0)=b
 generalize (j.s == [])=c
 have e3:(j.n_ != 0) = !(j.n_ == 0):=rfl
 rw [e3]
 generalize hd:(j.n_ == 0)=d
 generalize gy_ j.s=ft
 generalize hN_ j.names=fn
 generalize ((j.names.length:Int) == (j.list.length:Int))=eq
 rcases iw_ j.kind with hk|hk|hk|hk|hk|hk|⟨k0,k1,k2,k3,k4,k5⟩
 all_goals (first|simp only [hk]|simp only [beq_eq_false_iff_ne.2 k0,beq_eq_false_iff_ne.2 k1,beq_eq_false_iff_ne.2 k2,beq_eq_false_iff_ne.2 k3,beq_eq_false_iff_ne.2 k4,beq_eq_false_iff_ne.2 k5,bne])
 all_goals (cases a<;>cases b<;>cases c<;>cases d<;>simp)
 all_goals (cases eq<;>simp)
def bD_:Nat→aa_→Nat
 |0,_=>401
 |d+1,j=>cond (FOwn j) (min 401 (1+dD_ (bD_ d) j.list)) 401
theorem FSize_le:∀ (d:Nat) (j:aa_),bD_ d j≤401
 |0,_=>Nat.le_refl _
 |d+1,j=>by
  simp only [bD_]
  cases FOwn j<;>simp only [cond_true,cond_false]<;>omega
def fg_:Nat→aa_→Prop
 |0,_=>True
 |d+1,j=>lenJ1 j∧j.list.length≤cz_∧∀ x ∈ j.list,fg_ d x
theorem getD_json {d:Nat} {l:List aa_} (h:∀ x ∈ l,fg_ d x) {i:Nat} (hi:i<l.length):fg_ d (l.getD i aa_.dflt):=h _ (cC_ _ hi)
theorem ge_:∀ (d:Nat) (j:aa_),d≤1000→fg_ d j→Ev (fun n _=>a1_ n j (d:Int)) (bD_ d j:Int)
 |0,j,_,_=>by
  refine aV_ ?_
  simp only [a1_,aH_,al_]
  exact ⟨fun _=>rfl,fun h=>by simp at h⟩
 |d+1,j,hd,h=>by
  refine aV_ ?_
  have hW:W (((d+1:Nat):Int) - 1)=(d:Int):=by rw [W_id (by omega) (by omega)];omega
  simp only [a1_,by_,aH_,ae_ (kc_ h.1),al_,bD_]
  refine ⟨fun hc=>by have:=of_decide_eq_true hc;omega,fun _ => ?_⟩
  cases ho:FOwn j with
  |false=>exact ⟨fun _=>rfl,fun h=>by cases h⟩
  |true=>
   refine ⟨fun h=>(by cases h),fun _ => ?_⟩
   have ht:=h.2.1
   have key:∀ (k i:Nat) (s:Nat),k+i=j.list.length→s≤400→Ev (fun n N=>a1_.loop7 n (a1_ n) (fun xy3=>some xy3) N ((d+1:Nat):Int) (s:Int) j.list (j.list.length:Int) (i:Int)) ((min 401 (s+dD_ (bD_ d) (j.list.drop i)):Nat):Int):=by
    intro k
    induction k with
    |zero=>
     intro i s hi hs
     have:i=j.list.length:=by omega
     subst this
     refine bo_ ?_
     simp only [a1_.turn7,a1_.step7,cQ_,cond_false,al_,List.drop_length,dD_]
     omega
    |succ k ih=>
     intro i s hi hs
     have hlt:i<j.list.length:=by omega
     refine bo_ ?_
     have hc:=ge_ d (j.list.getD i aa_.dflt) (by omega) (getD_json h.2.2 hlt)
     have hle:=FSize_le d (j.list.getD i aa_.dflt)
     have hw:W ((s:Int)+(bD_ d (j.list.getD i aa_.dflt):Int))=((s+bD_ d (j.list.getD i aa_.dflt):Nat):Int):=by rw [W_id (by omega) (by omega)];omega
     simp only [a1_.turn7,a1_.step7,by_,Int.toNat_natCast,hW,W_up hlt ht,aH_,bQ_,cS_ hlt,cG_ hlt,ae_ hc,hw,al_]
     rw [gE_ (bD_ d) aa_.dflt hlt]
     refine ⟨fun _=>⟨trivial,fun hg => ?_,fun hg => ?_⟩,fun h=>(by cases h)⟩
     · have:=of_decide_eq_true hg;omega
     · have:=of_decide_eq_false hg
       rw [show s+(bD_ d (j.list.getD i aa_.dflt)+dD_ (bD_ d) (j.list.drop (i+1)))=(s+bD_ d (j.list.getD i aa_.dflt))+dD_ (bD_ d) (j.list.drop (i+1)) by omega]
       exact ih (i+1) _ (by omega) (by omega)
   have:=key j.list.length 0 1 (by omega) (by omega)
   rw [List.drop_zero] at this
   exact cF_ (f:=fun n N=>a1_.loop7 n (a1_ n) (fun xy3=>some xy3) N ((d+1:Nat):Int) 1 j.list (j.list.length:Int) 0) this
def cO_ (j:aa_):Bool:=decide (bD_ 6 j≤400)
theorem dh_ {j:aa_} (h:fg_ 6 j):Ev (fun n _=>bW_ n j) (cO_ j):=by
 refine aV_ ?_
 have e:Ev (fun n _=>a1_ n j 6) (bD_ 6 j:Int):=ge_ 6 j (by omega) h
 simp only [bW_,by_,ae_ e,al_,cO_]
 by_cases hq:bD_ 6 j≤400
 · rw [decide_eq_true hq,decide_eq_true (by omega)]
 · rw [decide_eq_false hq,decide_eq_false (by omega)]
end Go.Pi
end
section
namespace Go.Pi
def Great (d:Nat) (j:aa_):Prop:=∃ v:Nat,v≤401+401*d∧min 401 v=bD_ d j∧Ev (fun n _=>aG_ n j (d:Int)) (v:Int)
theorem nA_ {d:Nat} {l:List aa_} (hd:d≤1000) (ht:l.length≤cz_) (ih:∀ x ∈ l,Great d x) (kd nn:Int) (s:Bs) (ns:List Bs) :
  ∃ w:Nat,w≤401+401*(d+1)∧min 401 w=min 401 (1+dD_ (bD_ d) l)∧∀ (K:Nat→aG_.K23_1) (F:Int),Ev (fun n N=>K n 401 (w:Int) kd nn s l ns) F→Ev (fun n _=>aG_.loop23 n (aG_ n) (K n) n ((d+1:Nat):Int) 401 1 0 kd nn s l ns) F:=by
 have hW:W (((d+1:Nat):Int) - 1)=(d:Int):=by rw [W_id (by omega) (by omega)];omega
 have key:∀ (k i:Nat) (m:Nat),k+i=l.length→m≤401+401*(d+1)→∃ w:Nat,w≤401+401*(d+1)∧min 401 w=min 401 (m+dD_ (bD_ d) (l.drop i))∧∀ (K:Nat→aG_.K23_1) (F:Int),Ev (fun n N=>K n 401 (w:Int) kd nn s l ns) F →
   Ev (fun n N=>aG_.loop23 n (aG_ n) (K n) N ((d+1:Nat):Int) 401 (m:Int) (i:Int) kd nn s l ns) F:=by
  intro k
  induction k with
  |zero=>
   intro i m hi hm
   have:i=l.length:=by omega
   subst this
   refine ⟨m,hm,by simp [dD_],fun K F hF=>bo_ ?_⟩
   simp only [aG_.turn23,aG_.step23,cQ_,cond_false]
   exact hF
  |succ k ihk=>
   intro i m hi hm
   have hlt:i<l.length:=by omega
   by_cases hg:m≤400
   · obtain ⟨v,hv1,hv2,hv3⟩:=ih _ (cC_ aa_.dflt hlt)
     have hw:W ((m:Int)+(v:Int))=((m+v:Nat):Int):=by rw [W_id (by omega) (by omega)];omega
     obtain ⟨w,a1,a2,a3⟩:=ihk (i+1) (m+v) (by omega) (by omega)
     refine ⟨w,a1,?_,fun K F hF=>bo_ ?_⟩
     · rw [a2,gE_ (bD_ d) aa_.dflt hlt,←hv2];omega
     · simp only [aG_.turn23,aG_.step23,by_,Int.toNat_natCast,hW,W_up hlt ht,aH_,bQ_,cS_ hlt,cG_ hlt,ae_ hv3,hw]
       exact ⟨fun _=>⟨fun _=>⟨trivial,a3 K F hF⟩,fun h=>by have:=of_decide_eq_false h;omega⟩,fun h=>(by cases h)⟩
   · refine ⟨m,hm,by omega,fun K F hF=>bo_ ?_⟩
     simp only [aG_.turn23,aG_.step23,Int.toNat_natCast,aH_,cS_ hlt]
     exact ⟨fun _=>⟨fun h=>by have:=of_decide_eq_true h;omega,fun _=>hF⟩,fun h=>(by cases h)⟩
 obtain ⟨w,a1,a2,a3⟩:=key l.length 0 1 (by omega) (by omega)
 rw [List.drop_zero] at a2
 exact ⟨w,a1,a2,fun K F hF=>cF_ (f:=fun n N=>aG_.loop23 n (aG_ n) (K n) N ((d+1:Nat):Int) 401 1 0 kd nn s l ns) (a3 K F hF)⟩
theorem dv_ (j:aa_):aa_.mk j.kind j.n_ j.s j.list j.names=j:=by cases j;rfl
theorem fq_:∀ (d:Nat) (j:aa_),d≤1000→fg_ d j→Great d j
 |0,j,_,_=>by
  refine ⟨401,by omega,rfl,aV_ ?_⟩
  simp only [aG_,aH_,al_]
  exact ⟨fun _=>rfl,fun h=>by simp at h⟩
 |d+1,j,hd,h=>by
  obtain ⟨w,w1,w2,w3⟩:=nA_ (d:=d) (l:=j.list) (by omega) h.2.1 (fun x hx=>fq_ d x (by omega) (h.2.2 x hx)) j.kind j.n_ j.s j.names
  have hz:((((d+1:Nat):Int)) == 0)=false:=by simp;omega
  have hN:=h9_ (j:=j) h.1.2
  obtain ⟨v,hv⟩:∃ v:Nat,v=cond (FOwn j) (cond ((j.kind == 4)||(j.kind == 5)) w 1) 401:=⟨_,rfl⟩
  refine ⟨v,?_,?_,aV_ ?_⟩
  · rw [hv];cases FOwn j<;>cases ((j.kind == 4)||(j.kind == 5))<;>simp only [cond_true,cond_false]<;>omega
  · rw [hv]
    simp only [bD_]
    cases ho:FOwn j with
    |false=>rfl
    |true=>
     cases hk:((j.kind == 4)||(j.kind == 5)) with
     |true=>simp only [cond_true];exact w2
     |false=>
      have:j.list=[]:=by
       unfold FOwn at ho
       rw [hk,Bool.or_false] at ho
       simp only [Bool.and_eq_true,decide_eq_true_eq] at ho
       exact List.eq_nil_of_length_eq_zero ho.1
      rw [this];rfl
  · have hT:=eC_ (s:=j.s) h.1.1
    have e1:=j6_ j.list
    have e2:=j6_ j.names
    have e4:((j.names.length:Int) == 0) = !decide ((j.names.length:Int) > 0):=by
     by_cases hz:j.names.length=0
     · rw [hz];rfl
     · rw [beq_eq_false_iff_ne.2 (show (j.names.length:Int)≠0 by omega),decide_eq_true (show (j.names.length:Int) > 0 by omega)];rfl
    subst hv
    unfold FOwn FOwnK
    unfold ma_ at hN
    rw [e1,e2]
    rw [e4] at hN
    simp only [aG_,by_,hz,cond_false,aH_,l1In_b,ae_ hT,ae_ hN,al_,bne]
    rcases iw_ j.kind with hk|hk|hk|hk|hk|hk|⟨k0,k1,k2,k3,k4,k5⟩
    case inr.inr.inr.inr.inl=>
     have hj:aa_.mk 4 j.n_ j.s j.list j.names=j:=by rw [←hk];exact dv_ j
     rw [hk] at w3
     simp only [hk,Int.reduceBEq,Int.reduceLT,Int.reduceLE,Int.reduceNeg,ge_iff_le,gt_iff_lt,decide_true,decide_false,Bool.not_false,Bool.not_true,Bool.or_true,Bool.true_or,Bool.or_false,Bool.false_or,Bool.and_true,Bool.true_and,Bool.not_not,forall_const,reduceCtorEq,false_implies,true_and,and_true,implies_true,cond_true,cond_false] at hN ⊢
     refine w3 _ _ ?_
     simp only [hj,aH_,ae_ hN,al_,Int.reduceBEq,Int.reduceLT,Int.reduceLE,Int.reduceNeg,ge_iff_le,gt_iff_lt,decide_true,decide_false,Bool.not_false,Bool.not_true,Bool.or_true,Bool.true_or,Bool.or_false,Bool.false_or,Bool.and_true,Bool.true_and,Bool.not_not,forall_const,reduceCtorEq,false_implies,true_and,and_true,implies_true,cond_true,cond_false]
     clear hN w3 hT e1 e2 e4 hj
     generalize decide (0<(j.names.length:Int))=b
     generalize (j.s == [])=c
     generalize hd:(j.n_ == 0)=dd
     cases b<;>cases c<;>cases dd<;>simp
    case inr.inr.inr.inr.inr.inl=>
     have hj:aa_.mk 5 j.n_ j.s j.list j.names=j:=by rw [←hk];exact dv_ j
     rw [hk] at w3
     simp only [hk,Int.reduceBEq,Int.reduceLT,Int.reduceLE,Int.reduceNeg,ge_iff_le,gt_iff_lt,decide_true,decide_false,Bool.not_false,Bool.not_true,Bool.or_true,Bool.true_or,Bool.or_false,Bool.false_or,Bool.and_true,Bool.true_and,Bool.not_not,forall_const,reduceCtorEq,false_implies,true_and,and_true,implies_true,cond_true,cond_false] at hN ⊢
     refine w3 _ _ ?_
     simp only [hj,aH_,ae_ hN,al_,Int.reduceBEq,Int.reduceLT,Int.reduceLE,Int.reduceNeg,ge_iff_le,gt_iff_lt,decide_true,decide_false,Bool.not_false,Bool.not_true,Bool.or_true,Bool.true_or,Bool.or_false,Bool.false_or,Bool.and_true,Bool.true_and,Bool.not_not,forall_const,reduceCtorEq,false_implies,true_and,and_true,implies_true,cond_true,cond_false]
     clear hN w3 hT e1 e2 e4 hj
     generalize hN_ j.names=fn
     generalize ((j.names.length:Int) == (j.list.length:Int))=eq
     generalize (j.s == [])=c
     generalize hd:(j.n_ == 0)=dd
     cases fn<;>cases eq<;>cases c<;>cases dd<;>simp
    case inr.inr.inr.inr.inr.inr=>
     simp only [beq_eq_false_iff_ne.2 k0,beq_eq_false_iff_ne.2 k1,beq_eq_false_iff_ne.2 k2,beq_eq_false_iff_ne.2 k3,beq_eq_false_iff_ne.2 k4,beq_eq_false_iff_ne.2 k5,Int.reduceBEq,Int.reduceLT,Int.reduceLE,Int.reduceNeg,ge_iff_le,gt_iff_lt,decide_true,decide_false,Bool.not_false,Bool.not_true,Bool.or_true,Bool.true_or,Bool.or_false,Bool.false_or,Bool.and_true,Bool.true_and,Bool.not_not,forall_const,reduceCtorEq,false_implies,true_and,and_true,implies_true,cond_true,cond_false,Bool.and_false,Bool.false_and]
     rfl
    all_goals (
     simp only [hk,Int.reduceBEq,Int.reduceLT,Int.reduceLE,Int.reduceNeg,ge_iff_le,gt_iff_lt,decide_true,decide_false,Bool.not_false,Bool.not_true,Bool.or_true,Bool.true_or,Bool.or_false,Bool.false_or,Bool.and_true,Bool.true_and,Bool.not_not,forall_const,reduceCtorEq,false_implies,true_and,and_true,implies_true,cond_true,cond_false]
     clear hN w3 hT e1 e2 e4
     generalize decide (0<(j.names.length:Int))=b
     generalize decide (0<(j.list.length:Int))=a
     generalize (j.s == [])=c
     generalize hd:(j.n_ == 0)=dd
     generalize inn j.n_ 0 1=i1
     generalize inn j.n_ (-1000000000) 1000000000=i2
     generalize gy_ j.s=ft
     cases a<;>cases b<;>cases c<;>cases dd<;>cases i1<;>cases i2<;>cases ft<;>simp)
theorem de_ {j:aa_} (h:fg_ 6 j):Ev (fun n _=>bV_ n j) (cO_ j):=by
 refine aV_ ?_
 obtain ⟨v,v1,v2,v3⟩:=fq_ 6 j (by omega) h
 have e:Ev (fun n _=>aG_ n j 6) (v:Int):=v3
 simp only [bV_,by_,ae_ e,al_,cO_]
 by_cases hq:bD_ 6 j≤400
 · rw [decide_eq_true hq,decide_eq_true (by omega)]
 · rw [decide_eq_false hq,decide_eq_false (by omega)]
end Go.Pi
end
section
namespace Go.Pi
def digs (u:Nat):Bs:=if u=0 then [] else Lib.decDigits u
theorem digs_step {u:Nat} (h:u≠0):digs u=digs (u / 10)++[UInt8.ofNat (48+u % 10)]:=by
 unfold digs
 rw [if_neg h,Lib.decDigits]
 by_cases h1:u<10
 · rw [dif_pos h1,if_pos (by omega),Nat.mod_eq_of_lt h1];rfl
 · rw [dif_neg h1,if_neg (by omega)]
theorem m2_ {d:Nat} (h:d<10):eT_ ([(IntKind.u8.wrap (W (48+(d:Int))))]:List Int)=[UInt8.ofNat (48+d)]:=by
 have e1:W (48+(d:Int))=((48+d:Nat):Int):=by rw [W_id (by omega) (by omega)];omega
 rw [e1]
 have e2:IntKind.u8.wrap (((48+d:Nat):Int))=((48+d:Nat):Int):=by
  have:d=0∨d=1∨d=2∨d=3∨d=4∨d=5∨d=6∨d=7∨d=8∨d=9:=by omega
  rcases this with rfl|rfl|rfl|rfl|rfl|rfl|rfl|rfl|rfl|rfl<;>rfl
 rw [e2]
 rfl
theorem c1_ {x:Int} (h0 : -9223372036854775808≤x) (h1:x≤9223372036854775807):Ev (fun n _=>aL_ n x) (Lib.itoa x):=by
 refine aV_ ?_
 simp only [aL_,aH_,al_]
 refine ⟨fun h => ?_,fun h => ?_⟩
 · have:x=0:=by simpa using h
   subst this
   unfold Lib.itoa
   rw [if_neg (by decide)]
   show _=Lib.decDigits 0
   rw [Lib.decDigits_one (by decide)];rfl
 have hx0:x≠0:=by simpa using h
 have key:∀ (k:Nat) (y:Int) (out:Bs),y.natAbs<10 ^ k → -9223372036854775808≤y→y≤9223372036854775807→out.length+k≤100 →
   Ev (fun n N=>aL_.loop7 n (fun xy3 xy4=>(cond xy3 (cond (decide ([45].length+xy4.length≤9223372036854775807)) (some (([45]:Bs)++xy4)) none) (some xy4))) N y (decide (x<0)) out) (cond (decide (x<0)) ([45]++(digs y.natAbs++out)) (digs y.natAbs++out)):=by
  intro k
  induction k with
  |zero=>
   intro y out hy _ _ ho
   have:y=0:=by simp at hy;omega
   subst this
   refine bo_ ?_
   simp only [aL_.turn7,aL_.step7,bne_self_eq_false,cond_false,aH_,al_,cT_]
   refine ⟨fun hb=>⟨fun _=>by rw [hb];rfl,fun hc=>by have:=of_decide_eq_false hc;simp at this;omega⟩,fun hb=>by rw [hb];rfl⟩
  |succ k ih=>
   intro y out hy hy0 hy1 ho
   by_cases hz:y=0
   · subst hz
     refine bo_ ?_
     simp only [aL_.turn7,aL_.step7,bne_self_eq_false,cond_false,aH_,al_,cT_]
     refine ⟨fun hb=>⟨fun _=>by rw [hb];rfl,fun hc=>by have:=of_decide_eq_false hc;simp at this;omega⟩,fun hb=>by rw [hb];rfl⟩
   · have hm:(Int.tmod y 10).natAbs=y.natAbs % 10:=by rw [Int.natAbs_tmod];rfl
     have hd:(Int.tdiv y 10).natAbs=y.natAbs / 10:=by rw [Int.natAbs_tdiv];rfl
     have hW:W (Int.tdiv y 10)=Int.tdiv y 10:=W_id (by omega) (by omega)
     have hlt:y.natAbs % 10<10:=Nat.mod_lt _ (by decide)
     have hdl:(Int.tdiv y 10).natAbs<10 ^ k:=by rw [hd];rw [Nat.pow_succ] at hy;omega
     have hrec:=ih (Int.tdiv y 10) ([UInt8.ofNat (48+y.natAbs % 10)]++out) hdl (by omega) (by omega) (by simp;omega)
     have hdig:digs (Int.tdiv y 10).natAbs++([UInt8.ofNat (48+y.natAbs % 10)]++out)=digs y.natAbs++out:=by rw [hd,digs_step (show y.natAbs≠0 by omega),List.append_assoc]
     rw [hdig] at hrec
     have hne:(y != 0)=true:=by simpa using hz
     refine bo_ ?_
     simp only [aL_.turn7,aL_.step7,hne,cond_true,aH_,cT_,hW]
     refine ⟨fun hneg => ?_,fun hneg => ?_⟩
     · have hneg:=of_decide_eq_true hneg
       have e:W (0 - Int.tmod y 10)=((y.natAbs % 10:Nat):Int):=by rw [W_id (by omega) (by omega)];omega
       rw [e,m2_ hlt]
       exact ⟨fun _=>hrec,fun hc=>by have:=of_decide_eq_false hc;simp at this;omega⟩
     · have hneg:=of_decide_eq_false hneg
       have e:Int.tmod y 10=((y.natAbs % 10:Nat):Int):=by omega
       rw [e,m2_ hlt]
       exact ⟨fun _=>hrec,fun hc=>by have:=of_decide_eq_false hc;simp at this;omega⟩
 have hfin:=key 19 x [] (by omega) h0 h1 (by simp)
 have hv:Lib.itoa x=cond (decide (x<0)) ([45]++(digs x.natAbs++[])) (digs x.natAbs++[]):=by
  unfold Lib.itoa digs
  rw [if_neg (show x.natAbs≠0 by omega)]
  by_cases hn:x<0
  · rw [if_pos hn,decide_eq_true hn];simp
  · rw [if_neg hn,decide_eq_false hn,cond_false,List.append_nil,show x.toNat=x.natAbs by omega]
 rw [hv]
 exact cF_ hfin
theorem Itoa_ev {x:Int} (h0 : -9223372036854775808≤x) (h1:x≤9223372036854775807):Ev (fun n _=>strconv_Itoa n x) (Lib.itoa x) :=
 aV_ (by simp only [strconv_Itoa,nItoa,aH_,al_,cT_];exact ⟨fun _=>trivial,fun h=>by simp at h;omega⟩)
end Go.Pi
end
