/- FeedAll of the program returns what FeedAll of the reference returns, for all arguments. Text 5 of 7. -/
import Derived.Test.YtccdklkcfjmchaaGreatDoorFaD
import Derived.Shelf.RegionOpenPlain
import Derived.WalkKit
import Derived.Deep.RegionLaw
import Derived.Lib.Walk
import Derived.Lib.SliceRun
import Derived.Laws.CopyRow
import Derived.RowKit
import Derived.Lib.Overlaps
import Derived.Lib.AppendZerosOnto
import Derived.Laws.NewBlocks
import Derived.Laws.Externs
import Derived.Shelf.Strings.Search3
import Derived.Shelf.Strconv.AtoiAll
import Derived.Shelf.Strings.Search2
import Derived.Shelf.Strings.OnBuilder
import Derived.Shelf.Strings.Split
import Derived.Shelf.Strings.Replace
import Derived.ChangeArms
import Derived.DataReads
import Derived.ChangeOld
import Derived.Test.YtccdklkcfjmchaaGreatDoorRows
import Derived.ProofKit
import Derived.OpenShut
import Derived.JoinedOf
import Derived.JoinedAt
import Derived.ChangeVars
import Derived.ChangeMaps5
import Derived.Test.YtccdklkcfjmchaaGreatDoorTie
import Derived.Test.YtccdklkcfjmchaaGreatDoorCards
import Derived.IntWalk
set_option linter.unusedVariables false
set_option maxRecDepth 100000
set_option linter.unusedSimpArgs false
section
namespace Go.Pi
open Go.Proofs
noncomputable def b5_.fs (n:Nat):b5_.d.Fs:=()
theorem b5_.ok (n:Nat):CxOk E (cx n b5_.d.nt)→KPar (cx n b5_.d.nt)→b5_.d.Ok E (b5_.F (n+1)) :=
 FD.ok (fs:=b5_.fs n) bc_ Tryz.func29 (by kernel_rfl) (by kernel_rfl) (by kernel_rfl) (by kernel_rfl) (fun _=>by kernel_rfl) (by kernel_rfl) (fun x=>by kernel_rfl) (.nil)
noncomputable def aK_.fs (n:Nat):aK_.d.Fs:=(fun _ κe=>aK_.loop7 n (aK_.o0.k (κe 0)) n,())
theorem aK_.r7 (n:Nat):aK_.d.Round (aK_.fs n) (cx n aK_.d.nt) (ci_ Tryz.f35) 7 aK_.p7 (fun κe=>aK_.step7 n (aK_.o0.k (κe 0))):=fun κ κe x y=>by kernel_rfl
theorem aK_.ok (n:Nat):CxOk E (cx n aK_.d.nt)→KPar (cx n aK_.d.nt)→aK_.d.Ok E (aK_.F (n+1)) :=
 FD.ok (fs:=aK_.fs n) bc_ Tryz.func35 (by kernel_rfl) (by kernel_rfl) (by kernel_rfl) (by kernel_rfl) (fun _=>by kernel_rfl) (by kernel_rfl) (fun x=>by kernel_rfl) (.cons (FD.lp n (aK_.r7 n) (by kernel_rfl) fun _ _=>by kernel_rfl) (.nil))
noncomputable def bP_.fs (n:Nat):bP_.d.Fs:=()
theorem bP_.ok (n:Nat):CxOk E (cx n bP_.d.nt)→KPar (cx n bP_.d.nt)→bP_.d.Ok E (bP_.F (n+1)) :=
 FD.ok (fs:=bP_.fs n) bc_ Tryz.func31 (by kernel_rfl) (by kernel_rfl) (by kernel_rfl) (by kernel_rfl) (fun _=>by kernel_rfl) (by kernel_rfl) (fun x=>by kernel_rfl) (.nil)
noncomputable def aH_.fs (n:Nat):aH_.d.Fs:=(fun _ κe=>aH_.loop4 n (aH_.o0.k (κe 0)) n,())
theorem aH_.r4 (n:Nat):aH_.d.Round (aH_.fs n) (cx n aH_.d.nt) (ci_ Tryz.f37) 4 aH_.p4 (fun κe=>aH_.step4 n (aH_.o0.k (κe 0))):=fun κ κe x y=>by kernel_rfl
theorem aH_.ok (n:Nat):CxOk E (cx n aH_.d.nt)→KPar (cx n aH_.d.nt)→aH_.d.Ok E (aH_.F (n+1)) :=
 FD.ok (fs:=aH_.fs n) bc_ Tryz.func37 (by kernel_rfl) (by kernel_rfl) (by kernel_rfl) (by kernel_rfl) (fun _=>by kernel_rfl) (by kernel_rfl) (fun x=>by kernel_rfl) (.cons (FD.lp n (aH_.r4 n) (by kernel_rfl) fun _ _=>by kernel_rfl) (.nil))
noncomputable def bf_.fs (n:Nat):bf_.d.Fs:=(fun _ κe=>bf_.loop3 n (bf_.o0.k (κe 0)) n,())
theorem bf_.r3 (n:Nat):bf_.d.Round (bf_.fs n) (cx n bf_.d.nt) (ci_ Tryz.f71) 3 bf_.p3 (fun κe=>bf_.step3 n (bf_.o0.k (κe 0))):=fun κ κe x y=>by kernel_rfl
theorem bf_.ok (n:Nat):CxOk E (cx n bf_.d.nt)→KPar (cx n bf_.d.nt)→bf_.d.Ok E (bf_.F (n+1)) :=
 FD.ok (fs:=bf_.fs n) bc_ Tryz.func71 (by kernel_rfl) (by kernel_rfl) (by kernel_rfl) (by kernel_rfl) (fun _=>by kernel_rfl) (by kernel_rfl) (fun x=>by kernel_rfl) (.cons (FD.lp n (bf_.r3 n) (by kernel_rfl) fun _ _=>by kernel_rfl) (.nil))
noncomputable def aX_.fs (n:Nat):aX_.d.Fs:=(fun _ κe=>aX_.loop5 n (aX_.o0.k (κe 0)) n,())
theorem aX_.r5 (n:Nat):aX_.d.Round (aX_.fs n) (cx n aX_.d.nt) (ci_ Tryz.f43) 5 aX_.p5 (fun κe=>aX_.step5 n (aX_.o0.k (κe 0))):=fun κ κe x y=>by kernel_rfl
theorem aX_.ok (n:Nat):CxOk E (cx n aX_.d.nt)→KPar (cx n aX_.d.nt)→aX_.d.Ok E (aX_.F (n+1)) :=
 FD.ok (fs:=aX_.fs n) bc_ Tryz.func43 (by kernel_rfl) (by kernel_rfl) (by kernel_rfl) (by kernel_rfl) (fun _=>by kernel_rfl) (by kernel_rfl) (fun x=>by kernel_rfl) (.cons (FD.lp n (aX_.r5 n) (by kernel_rfl) fun _ _=>by kernel_rfl) (.nil))
noncomputable def bz_.fs (n:Nat):bz_.d.Fs:=()
theorem bz_.ok (n:Nat):CxOk E (cx n bz_.d.nt)→KPar (cx n bz_.d.nt)→bz_.d.Ok E (bz_.F (n+1)) :=
 FD.ok (fs:=bz_.fs n) bc_ Tryz.func44 (by kernel_rfl) (by kernel_rfl) (by kernel_rfl) (by kernel_rfl) (fun _=>by kernel_rfl) (by kernel_rfl) (fun x=>by kernel_rfl) (.nil)
noncomputable def bS_.fs (n:Nat):bS_.d.Fs:=()
theorem bS_.ok (n:Nat):CxOk E (cx n bS_.d.nt)→KPar (cx n bS_.d.nt)→bS_.d.Ok E (bS_.F (n+1)) :=
 FD.ok (fs:=bS_.fs n) bc_ Tryz.func112 (by kernel_rfl) (by kernel_rfl) (by kernel_rfl) (by kernel_rfl) (fun _=>by kernel_rfl) (by kernel_rfl) (fun x=>by kernel_rfl) (.nil)
noncomputable def az_.fs (n:Nat):az_.d.Fs:=(fun _ κe=>az_.loop7 n (az_.o0.k (κe 0)) n,())
theorem az_.r7 (n:Nat):az_.d.Round (az_.fs n) (cx n az_.d.nt) (ci_ Tryz.f75) 7 az_.p7 (fun κe=>az_.step7 n (az_.o0.k (κe 0))):=fun κ κe x y=>by kernel_rfl
theorem az_.ok (n:Nat):CxOk E (cx n az_.d.nt)→KPar (cx n az_.d.nt)→az_.d.Ok E (az_.F (n+1)) :=
 FD.ok (fs:=az_.fs n) bc_ Tryz.func75 (by kernel_rfl) (by kernel_rfl) (by kernel_rfl) (by kernel_rfl) (fun _=>by kernel_rfl) (by kernel_rfl) (fun x=>by kernel_rfl) (.cons (FD.lp n (az_.r7 n) (by kernel_rfl) fun _ _=>by kernel_rfl) (.nil))
noncomputable def aO_.fs (n:Nat):aO_.d.Fs:=(fun _ κe=>aO_.loop7 n (aO_.o0.k (κe 0)) n,())
theorem aO_.r7 (n:Nat):aO_.d.Round (aO_.fs n) (cx n aO_.d.nt) (ci_ Tryz.f76) 7 aO_.p7 (fun κe=>aO_.step7 n (aO_.o0.k (κe 0))):=fun κ κe x y=>by kernel_rfl
theorem aO_.ok (n:Nat):CxOk E (cx n aO_.d.nt)→KPar (cx n aO_.d.nt)→aO_.d.Ok E (aO_.F (n+1)) :=
 FD.ok (fs:=aO_.fs n) bc_ Tryz.func76 (by kernel_rfl) (by kernel_rfl) (by kernel_rfl) (by kernel_rfl) (fun _=>by kernel_rfl) (by kernel_rfl) (fun x=>by kernel_rfl) (.cons (FD.lp n (aO_.r7 n) (by kernel_rfl) fun _ _=>by kernel_rfl) (.nil))
noncomputable def b7_.fs (n:Nat):b7_.d.Fs:=()
theorem b7_.ok (n:Nat):CxOk E (cx n b7_.d.nt)→KPar (cx n b7_.d.nt)→b7_.d.Ok E (b7_.F (n+1)) :=
 FD.ok (fs:=b7_.fs n) bc_ Tryz.func45 (by kernel_rfl) (by kernel_rfl) (by kernel_rfl) (by kernel_rfl) (fun _=>by kernel_rfl) (by kernel_rfl) (fun x=>by kernel_rfl) (.nil)
noncomputable def bv_.fs (n:Nat):bv_.d.Fs:=()
theorem bv_.ok (n:Nat):CxOk E (cx n bv_.d.nt)→KPar (cx n bv_.d.nt)→bv_.d.Ok E (bv_.F (n+1)) :=
 FD.ok (fs:=bv_.fs n) bc_ Tryz.func113 (by kernel_rfl) (by kernel_rfl) (by kernel_rfl) (by kernel_rfl) (fun _=>by kernel_rfl) (by kernel_rfl) (fun x=>by kernel_rfl) (.nil)
noncomputable def aA_.fs (n:Nat):aA_.d.Fs:=(fun _ κe=>aA_.loop4 n (aA_.o0.k (κe 0)) n,())
theorem aA_.r4 (n:Nat):aA_.d.Round (aA_.fs n) (cx n aA_.d.nt) (ci_ Tryz.f114) 4 aA_.p4 (fun κe=>aA_.step4 n (aA_.o0.k (κe 0))):=fun κ κe x y=>by kernel_rfl
theorem aA_.ok (n:Nat):CxOk E (cx n aA_.d.nt)→KPar (cx n aA_.d.nt)→aA_.d.Ok E (aA_.F (n+1)) :=
 FD.ok (fs:=aA_.fs n) bc_ Tryz.func114 (by kernel_rfl) (by kernel_rfl) (by kernel_rfl) (by kernel_rfl) (fun _=>by kernel_rfl) (by kernel_rfl) (fun x=>by kernel_rfl) (.cons (FD.lp n (aA_.r4 n) (by kernel_rfl) fun _ _=>by kernel_rfl) (.nil))
noncomputable def aR_.fs (n:Nat):aR_.d.Fs:=(fun _ κe=>aR_.loop8 n (bk_ n) (aR_.o0.k (κe 0)) n,())
theorem aR_.r8 (n:Nat):aR_.d.Round (aR_.fs n) (cx n aR_.d.nt) (ci_ Tryz.f115) 8 aR_.p8 (fun κe=>aR_.step8 n (bk_ n) (aR_.o0.k (κe 0))):=fun κ κe x y=>by kernel_rfl
theorem aR_.ok (n:Nat):CxOk E (cx n aR_.d.nt)→KPar (cx n aR_.d.nt)→aR_.d.Ok E (aR_.F (n+1)) :=
 FD.ok (fs:=aR_.fs n) bc_ Tryz.func115 (by kernel_rfl) (by kernel_rfl) (by kernel_rfl) (by kernel_rfl) (fun _=>by kernel_rfl) (by kernel_rfl) (fun x=>by kernel_rfl) (.cons (FD.lp n (aR_.r8 n) (by kernel_rfl) fun _ _=>by kernel_rfl) (.nil))
noncomputable def bk_.fs (n:Nat):bk_.d.Fs:=()
theorem bk_.ok (n:Nat):CxOk E (cx n bk_.d.nt)→KPar (cx n bk_.d.nt)→bk_.d.Ok E (bk_.F (n+1)) :=
 FD.ok (fs:=bk_.fs n) bc_ Tryz.func77 (by kernel_rfl) (by kernel_rfl) (by kernel_rfl) (by kernel_rfl) (fun _=>by kernel_rfl) (by kernel_rfl) (fun x=>by kernel_rfl) (.nil)
noncomputable def bh_.fs (n:Nat):bh_.d.Fs:=(fun _ κe=>bh_.loop3 n (bh_.o0.k (κe 0)) n,())
theorem bh_.r3 (n:Nat):bh_.d.Round (bh_.fs n) (cx n bh_.d.nt) (ci_ Tryz.f141) 3 bh_.p3 (fun κe=>bh_.step3 n (bh_.o0.k (κe 0))):=fun κ κe x y=>by kernel_rfl
theorem bh_.ok (n:Nat):CxOk E (cx n bh_.d.nt)→KPar (cx n bh_.d.nt)→bh_.d.Ok E (bh_.F (n+1)) :=
 FD.ok (fs:=bh_.fs n) bc_ Tryz.func141 (by kernel_rfl) (by kernel_rfl) (by kernel_rfl) (by kernel_rfl) (fun _=>by kernel_rfl) (by kernel_rfl) (fun x=>by kernel_rfl) (.cons (FD.lp n (bh_.r3 n) (by kernel_rfl) fun _ _=>by kernel_rfl) (.nil))
noncomputable def ae_.fs (n:Nat):ae_.d.Fs:=(fun _ κe=>ae_.loop6 n (ae_.o0.k (κe 0)) n,())
theorem ae_.r6 (n:Nat):ae_.d.Round (ae_.fs n) (cx n ae_.d.nt) (ci_ Tryz.f164) 6 ae_.p6 (fun κe=>ae_.step6 n (ae_.o0.k (κe 0))):=fun κ κe x y=>by kernel_rfl
theorem ae_.ok (n:Nat):CxOk E (cx n ae_.d.nt)→KPar (cx n ae_.d.nt)→ae_.d.Ok E (ae_.F (n+1)) :=
 FD.ok (fs:=ae_.fs n) bc_ Tryz.func164 (by kernel_rfl) (by kernel_rfl) (by kernel_rfl) (by kernel_rfl) (fun _=>by kernel_rfl) (by kernel_rfl) (fun x=>by kernel_rfl) (.cons (FD.lp n (ae_.r6 n) (by kernel_rfl) fun _ _=>by kernel_rfl) (.nil))
noncomputable def cw_.fs (n:Nat):cw_.d.Fs:=()
theorem cw_.ok (n:Nat):CxOk E (cx n cw_.d.nt)→KPar (cx n cw_.d.nt)→cw_.d.Ok E (cw_.F (n+1)) :=
 FD.ok (fs:=cw_.fs n) bc_ Tryz.func98 (by kernel_rfl) (by kernel_rfl) (by kernel_rfl) (by kernel_rfl) (fun _=>by kernel_rfl) (by kernel_rfl) (fun x=>by kernel_rfl) (.nil)
noncomputable def aJ_.fs (n:Nat):aJ_.d.Fs:=(fun _ κe=>aJ_.loop23 n (aJ_ n) (aJ_.o1.k (κe 1)) n,())
theorem aJ_.r23 (n:Nat):aJ_.d.Round (aJ_.fs n) (cx n aJ_.d.nt) (ci_ Tryz.f131) 23 aJ_.p23 (fun κe=>aJ_.step23 n (aJ_ n) (aJ_.o1.k (κe 1))):=fun κ κe x y=>by kernel_rfl
theorem aJ_.ok (n:Nat):CxOk E (cx n aJ_.d.nt)→KPar (cx n aJ_.d.nt)→aJ_.d.Ok E (aJ_.F (n+1)) :=
 FD.ok (fs:=aJ_.fs n) bc_ Tryz.func131 (by kernel_rfl) (by kernel_rfl) (by kernel_rfl) (by kernel_rfl) (fun _=>by kernel_rfl) (by kernel_rfl) (fun x=>by kernel_rfl) (.cons (FD.lp n (aJ_.r23 n) (by kernel_rfl) fun _ _=>by kernel_rfl) (.nil))
noncomputable def bZ_.fs (n:Nat):bZ_.d.Fs:=()
theorem bZ_.ok (n:Nat):CxOk E (cx n bZ_.d.nt)→KPar (cx n bZ_.d.nt)→bZ_.d.Ok E (bZ_.F (n+1)) :=
 FD.ok (fs:=bZ_.fs n) bc_ Tryz.func100 (by kernel_rfl) (by kernel_rfl) (by kernel_rfl) (by kernel_rfl) (fun _=>by kernel_rfl) (by kernel_rfl) (fun x=>by kernel_rfl) (.nil)
noncomputable def a1_.fs (n:Nat):a1_.d.Fs:=(fun _ κe=>a1_.loop4 n (a1_.o0.k (κe 0)) n,())
theorem a1_.r4 (n:Nat):a1_.d.Round (a1_.fs n) (cx n a1_.d.nt) (ci_ Tryz.f140) 4 a1_.p4 (fun κe=>a1_.step4 n (a1_.o0.k (κe 0))):=fun κ κe x y=>by kernel_rfl
theorem a1_.ok (n:Nat):CxOk E (cx n a1_.d.nt)→KPar (cx n a1_.d.nt)→a1_.d.Ok E (a1_.F (n+1)) :=
 FD.ok (fs:=a1_.fs n) bc_ Tryz.func140 (by kernel_rfl) (by kernel_rfl) (by kernel_rfl) (by kernel_rfl) (fun _=>by kernel_rfl) (by kernel_rfl) (fun x=>by kernel_rfl) (.cons (FD.lp n (a1_.r4 n) (by kernel_rfl) fun _ _=>by kernel_rfl) (.nil))
noncomputable def aD_.fs (n:Nat):aD_.d.Fs:=(fun _ κe=>aD_.loop17 n (aD_ n) (aD_.o1.k (κe 1)) n,())
theorem aD_.r17 (n:Nat):aD_.d.Round (aD_.fs n) (cx n aD_.d.nt) (ci_ Tryz.f116) 17 aD_.p17 (fun κe=>aD_.step17 n (aD_ n) (aD_.o1.k (κe 1))):=fun κ κe x y=>by kernel_rfl
theorem aD_.ok (n:Nat):CxOk E (cx n aD_.d.nt)→KPar (cx n aD_.d.nt)→aD_.d.Ok E (aD_.F (n+1)) :=
 FD.ok (fs:=aD_.fs n) bc_ Tryz.func116 (by kernel_rfl) (by kernel_rfl) (by kernel_rfl) (by kernel_rfl) (fun _=>by kernel_rfl) (by kernel_rfl) (fun x=>by kernel_rfl) (.cons (FD.lp n (aD_.r17 n) (by kernel_rfl) fun _ _=>by kernel_rfl) (.nil))
noncomputable def b4_.fs (n:Nat):b4_.d.Fs:=()
theorem b4_.ok (n:Nat):CxOk E (cx n b4_.d.nt)→KPar (cx n b4_.d.nt)→b4_.d.Ok E (b4_.F (n+1)) :=
 FD.ok (fs:=b4_.fs n) bc_ Tryz.func78 (by kernel_rfl) (by kernel_rfl) (by kernel_rfl) (by kernel_rfl) (fun _=>by kernel_rfl) (by kernel_rfl) (fun x=>by kernel_rfl) (.nil)
noncomputable def ce_.fs (n:Nat):ce_.d.Fs:=()
theorem ce_.ok (n:Nat):CxOk E (cx n ce_.d.nt)→KPar (cx n ce_.d.nt)→ce_.d.Ok E (ce_.F (n+1)) :=
 FD.ok (fs:=ce_.fs n) bc_ Tryz.func46 (by kernel_rfl) (by kernel_rfl) (by kernel_rfl) (by kernel_rfl) (fun _=>by kernel_rfl) (by kernel_rfl) (fun x=>by kernel_rfl) (.nil)
noncomputable def bA_.fs (n:Nat):bA_.d.Fs:=(fun _ κe=>bA_.loop3 n (bA_.o0.k (κe 0)) n,())
theorem bA_.r3 (n:Nat):bA_.d.Round (bA_.fs n) (cx n bA_.d.nt) (ci_ Tryz.f117) 3 bA_.p3 (fun κe=>bA_.step3 n (bA_.o0.k (κe 0))):=fun κ κe x y=>by kernel_rfl
theorem bA_.ok (n:Nat):CxOk E (cx n bA_.d.nt)→KPar (cx n bA_.d.nt)→bA_.d.Ok E (bA_.F (n+1)) :=
 FD.ok (fs:=bA_.fs n) bc_ Tryz.func117 (by kernel_rfl) (by kernel_rfl) (by kernel_rfl) (by kernel_rfl) (fun _=>by kernel_rfl) (by kernel_rfl) (fun x=>by kernel_rfl) (.cons (FD.lp n (bA_.r3 n) (by kernel_rfl) fun _ _=>by kernel_rfl) (.nil))
noncomputable def be_.fs (n:Nat):be_.d.Fs:=(fun _ κe=>be_.loop4 n (be_ n) (be_.o0.k (κe 0)) n,())
theorem be_.r4 (n:Nat):be_.d.Round (be_.fs n) (cx n be_.d.nt) (ci_ Tryz.f61) 4 be_.p4 (fun κe=>be_.step4 n (be_ n) (be_.o0.k (κe 0))):=fun κ κe x y=>by kernel_rfl
theorem be_.ok (n:Nat):CxOk E (cx n be_.d.nt)→KPar (cx n be_.d.nt)→be_.d.Ok E (be_.F (n+1)) :=
 FD.ok (fs:=be_.fs n) bc_ Tryz.func61 (by kernel_rfl) (by kernel_rfl) (by kernel_rfl) (by kernel_rfl) (fun _=>by kernel_rfl) (by kernel_rfl) (fun x=>by kernel_rfl) (.cons (FD.lp n (be_.r4 n) (by kernel_rfl) fun _ _=>by kernel_rfl) (.nil))
noncomputable def co_.fs (n:Nat):co_.d.Fs:=()
theorem co_.ok (n:Nat):CxOk E (cx n co_.d.nt)→KPar (cx n co_.d.nt)→co_.d.Ok E (co_.F (n+1)) :=
 FD.ok (fs:=co_.fs n) bc_ Tryz.func79 (by kernel_rfl) (by kernel_rfl) (by kernel_rfl) (by kernel_rfl) (fun _=>by kernel_rfl) (by kernel_rfl) (fun x=>by kernel_rfl) (.nil)
noncomputable def bW_.fs (n:Nat):bW_.d.Fs:=()
theorem bW_.ok (n:Nat):CxOk E (cx n bW_.d.nt)→KPar (cx n bW_.d.nt)→bW_.d.Ok E (bW_.F (n+1)) :=
 FD.ok (fs:=bW_.fs n) bc_ Tryz.func80 (by kernel_rfl) (by kernel_rfl) (by kernel_rfl) (by kernel_rfl) (fun _=>by kernel_rfl) (by kernel_rfl) (fun x=>by kernel_rfl) (.nil)
noncomputable def aQ_.fs (n:Nat):aQ_.d.Fs:=(fun _ κe=>aQ_.loop6 n (aQ_.o0.k (κe 0)) n,())
theorem aQ_.r6 (n:Nat):aQ_.d.Round (aQ_.fs n) (cx n aQ_.d.nt) (ci_ Tryz.f81) 6 aQ_.p6 (fun κe=>aQ_.step6 n (aQ_.o0.k (κe 0))):=fun κ κe x y=>by kernel_rfl
theorem aQ_.ok (n:Nat):CxOk E (cx n aQ_.d.nt)→KPar (cx n aQ_.d.nt)→aQ_.d.Ok E (aQ_.F (n+1)) :=
 FD.ok (fs:=aQ_.fs n) bc_ Tryz.func81 (by kernel_rfl) (by kernel_rfl) (by kernel_rfl) (by kernel_rfl) (fun _=>by kernel_rfl) (by kernel_rfl) (fun x=>by kernel_rfl) (.cons (FD.lp n (aQ_.r6 n) (by kernel_rfl) fun _ _=>by kernel_rfl) (.nil))
noncomputable def ai_.fs (n:Nat):ai_.d.Fs:=(fun _ κe=>ai_.loop6 n (ai_ n) (ai_.o0.k (κe 0)) n,fun _ κe=>ai_.loop14 n (ai_ n) (ai_.o2.k (κe 2)) n,())
theorem ai_.r14 (n:Nat):ai_.d.Round (ai_.fs n) (cx n ai_.d.nt) (ci_ Tryz.f99) 14 ai_.p14 (fun κe=>ai_.step14 n (ai_ n) (ai_.o2.k (κe 2))):=fun κ κe x y=>by kernel_rfl
theorem ai_.r6 (n:Nat):ai_.d.Round (ai_.fs n) (cx n ai_.d.nt) (ci_ Tryz.f99) 6 ai_.p6 (fun κe=>ai_.step6 n (ai_ n) (ai_.o0.k (κe 0))):=fun κ κe x y=>by kernel_rfl
theorem ai_.ok (n:Nat):CxOk E (cx n ai_.d.nt)→KPar (cx n ai_.d.nt)→ai_.d.Ok E (ai_.F (n+1)) :=
 FD.ok (fs:=ai_.fs n) bc_ Tryz.func99 (by kernel_rfl) (by kernel_rfl) (by kernel_rfl) (by kernel_rfl) (fun _=>by kernel_rfl) (by kernel_rfl) (fun x=>by kernel_rfl) (.cons (FD.lp n (ai_.r6 n) (by kernel_rfl) fun _ _=>by kernel_rfl) (.cons (FD.lp n (ai_.r14 n) (by kernel_rfl) fun _ _=>by kernel_rfl) (.nil)))
noncomputable def bx_.fs (n:Nat):bx_.d.Fs:=(fun _ κe=>bx_.loop6 n (bx_.o0.k (κe 0)) n,())
theorem bx_.r6 (n:Nat):bx_.d.Round (bx_.fs n) (cx n bx_.d.nt) (ci_ Tryz.f118) 6 bx_.p6 (fun κe=>bx_.step6 n (bx_.o0.k (κe 0))):=fun κ κe x y=>by kernel_rfl
theorem bx_.ok (n:Nat):CxOk E (cx n bx_.d.nt)→KPar (cx n bx_.d.nt)→bx_.d.Ok E (bx_.F (n+1)) :=
 FD.ok (fs:=bx_.fs n) bc_ Tryz.func118 (by kernel_rfl) (by kernel_rfl) (by kernel_rfl) (by kernel_rfl) (fun _=>by kernel_rfl) (by kernel_rfl) (fun x=>by kernel_rfl) (.cons (FD.lp n (bx_.r6 n) (by kernel_rfl) fun _ _=>by kernel_rfl) (.nil))
noncomputable def au_.fs (n:Nat):au_.d.Fs:=(fun _ κe=>au_.loop10 n (au_.o2.k (κe 2)) n,fun _ κe=>au_.loop4 n (au_.o0.k (κe 0)) n,())
theorem au_.r4 (n:Nat):au_.d.Round (au_.fs n) (cx n au_.d.nt) (ci_ Tryz.f119) 4 au_.p4 (fun κe=>au_.step4 n (au_.o0.k (κe 0))):=fun κ κe x y=>by kernel_rfl
theorem au_.r10 (n:Nat):au_.d.Round (au_.fs n) (cx n au_.d.nt) (ci_ Tryz.f119) 10 au_.p10 (fun κe=>au_.step10 n (au_.o2.k (κe 2))):=fun κ κe x y=>by kernel_rfl
theorem au_.ok (n:Nat):CxOk E (cx n au_.d.nt)→KPar (cx n au_.d.nt)→au_.d.Ok E (au_.F (n+1)) :=
 FD.ok (fs:=au_.fs n) bc_ Tryz.func119 (by kernel_rfl) (by kernel_rfl) (by kernel_rfl) (by kernel_rfl) (fun _=>by kernel_rfl) (by kernel_rfl) (fun x=>by kernel_rfl) (.cons (FD.lp n (au_.r10 n) (by kernel_rfl) fun _ _=>by kernel_rfl) (.cons (FD.lp n (au_.r4 n) (by kernel_rfl) fun _ _=>by kernel_rfl) (.nil)))
noncomputable def bp_.fs (n:Nat):bp_.d.Fs:=(fun _ κe=>bp_.loop5 n (bp_.o0.k (κe 0)) n,())
theorem bp_.r5 (n:Nat):bp_.d.Round (bp_.fs n) (cx n bp_.d.nt) (ci_ Tryz.f120) 5 bp_.p5 (fun κe=>bp_.step5 n (bp_.o0.k (κe 0))):=fun κ κe x y=>by kernel_rfl
theorem bp_.ok (n:Nat):CxOk E (cx n bp_.d.nt)→KPar (cx n bp_.d.nt)→bp_.d.Ok E (bp_.F (n+1)) :=
 FD.ok (fs:=bp_.fs n) bc_ Tryz.func120 (by kernel_rfl) (by kernel_rfl) (by kernel_rfl) (by kernel_rfl) (fun _=>by kernel_rfl) (by kernel_rfl) (fun x=>by kernel_rfl) (.cons (FD.lp n (bp_.r5 n) (by kernel_rfl) fun _ _=>by kernel_rfl) (.nil))
noncomputable def ck_.fs (n:Nat):ck_.d.Fs:=()
theorem ck_.ok (n:Nat):CxOk E (cx n ck_.d.nt)→KPar (cx n ck_.d.nt)→ck_.d.Ok E (ck_.F (n+1)) :=
 FD.ok (fs:=ck_.fs n) bc_ Tryz.func83 (by kernel_rfl) (by kernel_rfl) (by kernel_rfl) (by kernel_rfl) (fun _=>by kernel_rfl) (by kernel_rfl) (fun x=>by kernel_rfl) (.nil)
noncomputable def b1_.fs (n:Nat):b1_.d.Fs:=()
theorem b1_.ok (n:Nat):CxOk E (cx n b1_.d.nt)→KPar (cx n b1_.d.nt)→b1_.d.Ok E (b1_.F (n+1)) :=
 FD.ok (fs:=b1_.fs n) bc_ Tryz.func82 (by kernel_rfl) (by kernel_rfl) (by kernel_rfl) (by kernel_rfl) (fun _=>by kernel_rfl) (by kernel_rfl) (fun x=>by kernel_rfl) (.nil)
noncomputable def aN_.fs (n:Nat):aN_.d.Fs:=(fun _ κe=>aN_.loop7 n (aN_.o0.k (κe 0)) n,fun _ _=>aN_.tail15 n,())
theorem aN_.r15 (n:Nat):aN_.d.Tail (aN_.fs n) (cx n aN_.d.nt) (ci_ Tryz.f47) 15 aN_.p15 (fun κd κe=>aN_.tail15 n):=fun κd κe x y=>by kernel_rfl
theorem aN_.r7 (n:Nat):aN_.d.Round (aN_.fs n) (cx n aN_.d.nt) (ci_ Tryz.f47) 7 aN_.p7 (fun κe=>aN_.step7 n (aN_.o0.k (κe 0))):=fun κ κe x y=>by kernel_rfl
theorem aN_.ok (n:Nat):CxOk E (cx n aN_.d.nt)→KPar (cx n aN_.d.nt)→aN_.d.Ok E (aN_.F (n+1)) :=
 FD.ok (fs:=aN_.fs n) bc_ Tryz.func47 (by kernel_rfl) (by kernel_rfl) (by kernel_rfl) (by kernel_rfl) (fun _=>by kernel_rfl) (by kernel_rfl) (fun x=>by kernel_rfl) (.cons (FD.lp n (aN_.r7 n) (by kernel_rfl) fun _ _=>by kernel_rfl) (.cons (FD.tl (aN_.r15 n) (by kernel_rfl)) (.nil)))
noncomputable def bg_.fs (n:Nat):bg_.d.Fs:=(fun _ κe=>bg_.loop4 n (bg_.o0.k (κe 0)) n,())
theorem bg_.r4 (n:Nat):bg_.d.Round (bg_.fs n) (cx n bg_.d.nt) (ci_ Tryz.f84) 4 bg_.p4 (fun κe=>bg_.step4 n (bg_.o0.k (κe 0))):=fun κ κe x y=>by kernel_rfl
theorem bg_.ok (n:Nat):CxOk E (cx n bg_.d.nt)→KPar (cx n bg_.d.nt)→bg_.d.Ok E (bg_.F (n+1)) :=
 FD.ok (fs:=bg_.fs n) bc_ Tryz.func84 (by kernel_rfl) (by kernel_rfl) (by kernel_rfl) (by kernel_rfl) (fun _=>by kernel_rfl) (by kernel_rfl) (fun x=>by kernel_rfl) (.cons (FD.lp n (bg_.r4 n) (by kernel_rfl) fun _ _=>by kernel_rfl) (.nil))
noncomputable def b9_.fs (n:Nat):b9_.d.Fs:=()
theorem b9_.ok (n:Nat):CxOk E (cx n b9_.d.nt)→KPar (cx n b9_.d.nt)→b9_.d.Ok E (b9_.F (n+1)) :=
 FD.ok (fs:=b9_.fs n) bc_ Tryz.func60 (by kernel_rfl) (by kernel_rfl) (by kernel_rfl) (by kernel_rfl) (fun _=>by kernel_rfl) (by kernel_rfl) (fun x=>by kernel_rfl) (.nil)
noncomputable def bL_.fs (n:Nat):bL_.d.Fs:=()
theorem bL_.ok (n:Nat):CxOk E (cx n bL_.d.nt)→KPar (cx n bL_.d.nt)→bL_.d.Ok E (bL_.F (n+1)) :=
 FD.ok (fs:=bL_.fs n) bc_ Tryz.func48 (by kernel_rfl) (by kernel_rfl) (by kernel_rfl) (by kernel_rfl) (fun _=>by kernel_rfl) (by kernel_rfl) (fun x=>by kernel_rfl) (.nil)
noncomputable def ac_.fs (n:Nat):ac_.d.Fs:=(fun _ κe=>ac_.loop20 n (ac_.o3.k (κe 3)) n,fun _ κe=>ac_.loop5 n (ac_.o0.k (κe 0)) n,())
theorem ac_.r5 (n:Nat):ac_.d.Round (ac_.fs n) (cx n ac_.d.nt) (ci_ Tryz.f9) 5 ac_.p5 (fun κe=>ac_.step5 n (ac_.o0.k (κe 0))):=fun κ κe x y=>by kernel_rfl
theorem ac_.r20 (n:Nat):ac_.d.Round (ac_.fs n) (cx n ac_.d.nt) (ci_ Tryz.f9) 20 ac_.p20 (fun κe=>ac_.step20 n (ac_.o3.k (κe 3))):=fun κ κe x y=>by kernel_rfl
theorem ac_.ok (n:Nat):CxOk E (cx n ac_.d.nt)→KPar (cx n ac_.d.nt)→ac_.d.Ok E (ac_.F (n+1)) :=
 FD.ok (fs:=ac_.fs n) bc_ Tryz.func9 (by kernel_rfl) (by kernel_rfl) (by kernel_rfl) (by kernel_rfl) (fun _=>by kernel_rfl) (by kernel_rfl) (fun x=>by kernel_rfl) (.cons (FD.lp n (ac_.r20 n) (by kernel_rfl) fun _ _=>by kernel_rfl) (.cons (FD.lp n (ac_.r5 n) (by kernel_rfl) fun _ _=>by kernel_rfl) (.nil)))
noncomputable def bu_.fs (n:Nat):bu_.d.Fs:=(fun _ κe=>bu_.loop8 n (bu_.o0.k (κe 0)) n,())
theorem bu_.r8 (n:Nat):bu_.d.Round (bu_.fs n) (cx n bu_.d.nt) (ci_ Tryz.f30) 8 bu_.p8 (fun κe=>bu_.step8 n (bu_.o0.k (κe 0))):=fun κ κe x y=>by kernel_rfl
theorem bu_.ok (n:Nat):CxOk E (cx n bu_.d.nt)→KPar (cx n bu_.d.nt)→bu_.d.Ok E (bu_.F (n+1)) :=
 FD.ok (fs:=bu_.fs n) bc_ Tryz.func30 (by kernel_rfl) (by kernel_rfl) (by kernel_rfl) (by kernel_rfl) (fun _=>by kernel_rfl) (by kernel_rfl) (fun x=>by kernel_rfl) (.cons (FD.lp n (bu_.r8 n) (by kernel_rfl) fun _ _=>by kernel_rfl) (.nil))
noncomputable def bb_.fs (n:Nat):bb_.d.Fs:=(fun _ κe=>bb_.loop4 n (bb_.o0.k (κe 0)) n,())
theorem bb_.r4 (n:Nat):bb_.d.Round (bb_.fs n) (cx n bb_.d.nt) (ci_ Tryz.f36) 4 bb_.p4 (fun κe=>bb_.step4 n (bb_.o0.k (κe 0))):=fun κ κe x y=>by kernel_rfl
theorem bb_.ok (n:Nat):CxOk E (cx n bb_.d.nt)→KPar (cx n bb_.d.nt)→bb_.d.Ok E (bb_.F (n+1)) :=
 FD.ok (fs:=bb_.fs n) bc_ Tryz.func36 (by kernel_rfl) (by kernel_rfl) (by kernel_rfl) (by kernel_rfl) (fun _=>by kernel_rfl) (by kernel_rfl) (fun x=>by kernel_rfl) (.cons (FD.lp n (bb_.r4 n) (by kernel_rfl) fun _ _=>by kernel_rfl) (.nil))
noncomputable def ay_.fs (n:Nat):ay_.d.Fs:=()
theorem ay_.ok (n:Nat):CxOk E (cx n ay_.d.nt)→KPar (cx n ay_.d.nt)→ay_.d.Ok E (ay_.F (n+1)) :=
 FD.ok (fs:=ay_.fs n) bc_ Tryz.func142 (by kernel_rfl) (by kernel_rfl) (by kernel_rfl) (by kernel_rfl) (fun _=>by kernel_rfl) (by kernel_rfl) (fun x=>by kernel_rfl) (.nil)
noncomputable def aF_.fs (n:Nat):aF_.d.Fs:=()
theorem aF_.ok (n:Nat):CxOk E (cx n aF_.d.nt)→KPar (cx n aF_.d.nt)→aF_.d.Ok E (aF_.F (n+1)) :=
 FD.ok (fs:=aF_.fs n) bc_ Tryz.func121 (by kernel_rfl) (by kernel_rfl) (by kernel_rfl) (by kernel_rfl) (fun _=>by kernel_rfl) (by kernel_rfl) (fun x=>by kernel_rfl) (.nil)
noncomputable def bt_.fs (n:Nat):bt_.d.Fs:=()
theorem bt_.ok (n:Nat):CxOk E (cx n bt_.d.nt)→KPar (cx n bt_.d.nt)→bt_.d.Ok E (bt_.F (n+1)) :=
 FD.ok (fs:=bt_.fs n) bc_ Tryz.func85 (by kernel_rfl) (by kernel_rfl) (by kernel_rfl) (by kernel_rfl) (fun _=>by kernel_rfl) (by kernel_rfl) (fun x=>by kernel_rfl) (.nil)
noncomputable def a0_.fs (n:Nat):a0_.d.Fs:=()
theorem a0_.ok (n:Nat):CxOk E (cx n a0_.d.nt)→KPar (cx n a0_.d.nt)→a0_.d.Ok E (a0_.F (n+1)) :=
 FD.ok (fs:=a0_.fs n) bc_ Tryz.func143 (by kernel_rfl) (by kernel_rfl) (by kernel_rfl) (by kernel_rfl) (fun _=>by kernel_rfl) (by kernel_rfl) (fun x=>by kernel_rfl) (.nil)
noncomputable def cr_.fs (n:Nat):cr_.d.Fs:=()
theorem cr_.ok (n:Nat):CxOk E (cx n cr_.d.nt)→KPar (cx n cr_.d.nt)→cr_.d.Ok E (cr_.F (n+1)) :=
 FD.ok (fs:=cr_.fs n) bc_ Tryz.func122 (by kernel_rfl) (by kernel_rfl) (by kernel_rfl) (by kernel_rfl) (fun _=>by kernel_rfl) (by kernel_rfl) (fun x=>by kernel_rfl) (.nil)
noncomputable def aB_.fs (n:Nat):aB_.d.Fs:=()
theorem aB_.ok (n:Nat):CxOk E (cx n aB_.d.nt)→KPar (cx n aB_.d.nt)→aB_.d.Ok E (aB_.F (n+1)) :=
 FD.ok (fs:=aB_.fs n) bc_ Tryz.func126 (by kernel_rfl) (by kernel_rfl) (by kernel_rfl) (by kernel_rfl) (fun _=>by kernel_rfl) (by kernel_rfl) (fun x=>by kernel_rfl) (.nil)
noncomputable def bq_.fs (n:Nat):bq_.d.Fs:=()
theorem bq_.ok (n:Nat):CxOk E (cx n bq_.d.nt)→KPar (cx n bq_.d.nt)→bq_.d.Ok E (bq_.F (n+1)) :=
 FD.ok (fs:=bq_.fs n) bc_ Tryz.func89 (by kernel_rfl) (by kernel_rfl) (by kernel_rfl) (by kernel_rfl) (fun _=>by kernel_rfl) (by kernel_rfl) (fun x=>by kernel_rfl) (.nil)
noncomputable def cd_.fs (n:Nat):cd_.d.Fs:=()
theorem cd_.ok (n:Nat):CxOk E (cx n cd_.d.nt)→KPar (cx n cd_.d.nt)→cd_.d.Ok E (cd_.F (n+1)) :=
 FD.ok (fs:=cd_.fs n) bc_ Tryz.func86 (by kernel_rfl) (by kernel_rfl) (by kernel_rfl) (by kernel_rfl) (fun _=>by kernel_rfl) (by kernel_rfl) (fun x=>by kernel_rfl) (.nil)
noncomputable def a7_.fs (n:Nat):a7_.d.Fs:=()
theorem a7_.ok (n:Nat):CxOk E (cx n a7_.d.nt)→KPar (cx n a7_.d.nt)→a7_.d.Ok E (a7_.F (n+1)) :=
 FD.ok (fs:=a7_.fs n) bc_ Tryz.func149 (by kernel_rfl) (by kernel_rfl) (by kernel_rfl) (by kernel_rfl) (fun _=>by kernel_rfl) (by kernel_rfl) (fun x=>by kernel_rfl) (.nil)
noncomputable def bw_.fs (n:Nat):bw_.d.Fs:=()
theorem bw_.ok (n:Nat):CxOk E (cx n bw_.d.nt)→KPar (cx n bw_.d.nt)→bw_.d.Ok E (bw_.F (n+1)) :=
 FD.ok (fs:=bw_.fs n) bc_ Tryz.func150 (by kernel_rfl) (by kernel_rfl) (by kernel_rfl) (by kernel_rfl) (fun _=>by kernel_rfl) (by kernel_rfl) (fun x=>by kernel_rfl) (.nil)
noncomputable def bm_.fs (n:Nat):bm_.d.Fs:=()
theorem bm_.ok (n:Nat):CxOk E (cx n bm_.d.nt)→KPar (cx n bm_.d.nt)→bm_.d.Ok E (bm_.F (n+1)) :=
 FD.ok (fs:=bm_.fs n) bc_ Tryz.func179 (by kernel_rfl) (by kernel_rfl) (by kernel_rfl) (by kernel_rfl) (fun _=>by kernel_rfl) (by kernel_rfl) (fun x=>by kernel_rfl) (.nil)
noncomputable def aj_.fs (n:Nat):aj_.d.Fs:=(fun _ κe=>aj_.loop4 n (aj_.o0.k (κe 0)) n,())
theorem aj_.r4 (n:Nat):aj_.d.Round (aj_.fs n) (cx n aj_.d.nt) (ci_ Tryz.f151) 4 aj_.p4 (fun κe=>aj_.step4 n (aj_.o0.k (κe 0))):=fun κ κe x y=>by kernel_rfl
theorem aj_.ok (n:Nat):CxOk E (cx n aj_.d.nt)→KPar (cx n aj_.d.nt)→aj_.d.Ok E (aj_.F (n+1)) :=
 FD.ok (fs:=aj_.fs n) bc_ Tryz.func151 (by kernel_rfl) (by kernel_rfl) (by kernel_rfl) (by kernel_rfl) (fun _=>by kernel_rfl) (by kernel_rfl) (fun x=>by kernel_rfl) (.cons (FD.lp n (aj_.r4 n) (by kernel_rfl) fun _ _=>by kernel_rfl) (.nil))
noncomputable def af_.fs (n:Nat):af_.d.Fs:=(fun _ κe=>af_.loop7 n (aM_ n) (af_.o0.k (κe 0)) n,())
theorem af_.r7 (n:Nat):af_.d.Round (af_.fs n) (cx n af_.d.nt) (ci_ Tryz.f152) 7 af_.p7 (fun κe=>af_.step7 n (aM_ n) (af_.o0.k (κe 0))):=fun κ κe x y=>by kernel_rfl
theorem af_.ok (n:Nat):CxOk E (cx n af_.d.nt)→KPar (cx n af_.d.nt)→af_.d.Ok E (af_.F (n+1)) :=
 FD.ok (fs:=af_.fs n) bc_ Tryz.func152 (by kernel_rfl) (by kernel_rfl) (by kernel_rfl) (by kernel_rfl) (fun _=>by kernel_rfl) (by kernel_rfl) (fun x=>by kernel_rfl) (.cons (FD.lp n (af_.r7 n) (by kernel_rfl) fun _ _=>by kernel_rfl) (.nil))
noncomputable def aW_.fs (n:Nat):aW_.d.Fs:=()
theorem aW_.ok (n:Nat):CxOk E (cx n aW_.d.nt)→KPar (cx n aW_.d.nt)→aW_.d.Ok E (aW_.F (n+1)) :=
 FD.ok (fs:=aW_.fs n) bc_ Tryz.func105 (by kernel_rfl) (by kernel_rfl) (by kernel_rfl) (by kernel_rfl) (fun _=>by kernel_rfl) (by kernel_rfl) (fun x=>by kernel_rfl) (.nil)
noncomputable def ag_.fs (n:Nat):ag_.d.Fs:=(fun _ κe=>ag_.loop3 n (ag_.o0.k (κe 0)) n,())
theorem ag_.r3 (n:Nat):ag_.d.Round (ag_.fs n) (cx n ag_.d.nt) (ci_ Tryz.f153) 3 ag_.p3 (fun κe=>ag_.step3 n (ag_.o0.k (κe 0))):=fun κ κe x y=>by kernel_rfl
theorem ag_.ok (n:Nat):CxOk E (cx n ag_.d.nt)→KPar (cx n ag_.d.nt)→ag_.d.Ok E (ag_.F (n+1)) :=
 FD.ok (fs:=ag_.fs n) bc_ Tryz.func153 (by kernel_rfl) (by kernel_rfl) (by kernel_rfl) (by kernel_rfl) (fun _=>by kernel_rfl) (by kernel_rfl) (fun x=>by kernel_rfl) (.cons (FD.lp n (ag_.r3 n) (by kernel_rfl) fun _ _=>by kernel_rfl) (.nil))
noncomputable def aM_.fs (n:Nat):aM_.d.Fs:=()
theorem aM_.ok (n:Nat):CxOk E (cx n aM_.d.nt)→KPar (cx n aM_.d.nt)→aM_.d.Ok E (aM_.F (n+1)) :=
 FD.ok (fs:=aM_.fs n) bc_ Tryz.func125 (by kernel_rfl) (by kernel_rfl) (by kernel_rfl) (by kernel_rfl) (fun _=>by kernel_rfl) (by kernel_rfl) (fun x=>by kernel_rfl) (.nil)
noncomputable def bj_.fs (n:Nat):bj_.d.Fs:=()
theorem bj_.ok (n:Nat):CxOk E (cx n bj_.d.nt)→KPar (cx n bj_.d.nt)→bj_.d.Ok E (bj_.F (n+1)) :=
 FD.ok (fs:=bj_.fs n) bc_ Tryz.func189 (by kernel_rfl) (by kernel_rfl) (by kernel_rfl) (by kernel_rfl) (fun _=>by kernel_rfl) (by kernel_rfl) (fun x=>by kernel_rfl) (.nil)
noncomputable def av_.fs (n:Nat):av_.d.Fs:=(fun _ κe=>av_.loop3 n (av_.o0.k (κe 0)) n,())
theorem av_.r3 (n:Nat):av_.d.Round (av_.fs n) (cx n av_.d.nt) (ci_ Tryz.f169) 3 av_.p3 (fun κe=>av_.step3 n (av_.o0.k (κe 0))):=fun κ κe x y=>by kernel_rfl
theorem av_.ok (n:Nat):CxOk E (cx n av_.d.nt)→KPar (cx n av_.d.nt)→av_.d.Ok E (av_.F (n+1)) :=
 FD.ok (fs:=av_.fs n) bc_ Tryz.func169 (by kernel_rfl) (by kernel_rfl) (by kernel_rfl) (by kernel_rfl) (fun _=>by kernel_rfl) (by kernel_rfl) (fun x=>by kernel_rfl) (.cons (FD.lp n (av_.r3 n) (by kernel_rfl) fun _ _=>by kernel_rfl) (.nil))
noncomputable def ao_.fs (n:Nat):ao_.d.Fs:=(fun _ κe=>ao_.loop3 n (ao_.o0.k (κe 0)) n,())
theorem ao_.r3 (n:Nat):ao_.d.Round (ao_.fs n) (cx n ao_.d.nt) (ci_ Tryz.f190) 3 ao_.p3 (fun κe=>ao_.step3 n (ao_.o0.k (κe 0))):=fun κ κe x y=>by kernel_rfl
theorem ao_.ok (n:Nat):CxOk E (cx n ao_.d.nt)→KPar (cx n ao_.d.nt)→ao_.d.Ok E (ao_.F (n+1)) :=
 FD.ok (fs:=ao_.fs n) bc_ Tryz.func190 (by kernel_rfl) (by kernel_rfl) (by kernel_rfl) (by kernel_rfl) (fun _=>by kernel_rfl) (by kernel_rfl) (fun x=>by kernel_rfl) (.cons (FD.lp n (ao_.r3 n) (by kernel_rfl) fun _ _=>by kernel_rfl) (.nil))
noncomputable def cy_.fs (n:Nat):cy_.d.Fs:=()
theorem cy_.ok (n:Nat):CxOk E (cx n cy_.d.nt)→KPar (cx n cy_.d.nt)→cy_.d.Ok E (cy_.F (n+1)) :=
 FD.ok (fs:=cy_.fs n) bc_ Tryz.func168 (by kernel_rfl) (by kernel_rfl) (by kernel_rfl) (by kernel_rfl) (fun _=>by kernel_rfl) (by kernel_rfl) (fun x=>by kernel_rfl) (.nil)
noncomputable def a3_.fs (n:Nat):a3_.d.Fs:=(fun _ κe=>a3_.loop7 n (a3_ n) (a3_.o0.k (κe 0)) n,())
theorem a3_.r7 (n:Nat):a3_.d.Round (a3_.fs n) (cx n a3_.d.nt) (ci_ Tryz.f133) 7 a3_.p7 (fun κe=>a3_.step7 n (a3_ n) (a3_.o0.k (κe 0))):=fun κ κe x y=>by kernel_rfl
theorem a3_.ok (n:Nat):CxOk E (cx n a3_.d.nt)→KPar (cx n a3_.d.nt)→a3_.d.Ok E (a3_.F (n+1)) :=
 FD.ok (fs:=a3_.fs n) bc_ Tryz.func133 (by kernel_rfl) (by kernel_rfl) (by kernel_rfl) (by kernel_rfl) (fun _=>by kernel_rfl) (by kernel_rfl) (fun x=>by kernel_rfl) (.cons (FD.lp n (a3_.r7 n) (by kernel_rfl) fun _ _=>by kernel_rfl) (.nil))
noncomputable def b0_.fs (n:Nat):b0_.d.Fs:=()
theorem b0_.ok (n:Nat):CxOk E (cx n b0_.d.nt)→KPar (cx n b0_.d.nt)→b0_.d.Ok E (b0_.F (n+1)) :=
 FD.ok (fs:=b0_.fs n) bc_ Tryz.func109 (by kernel_rfl) (by kernel_rfl) (by kernel_rfl) (by kernel_rfl) (fun _=>by kernel_rfl) (by kernel_rfl) (fun x=>by kernel_rfl) (.nil)
noncomputable def bi_.fs (n:Nat):bi_.d.Fs:=(fun _ κe=>bi_.loop4 n (bi_.o0.k (κe 0)) n,())
theorem bi_.r4 (n:Nat):bi_.d.Round (bi_.fs n) (cx n bi_.d.nt) (ci_ Tryz.f160) 4 bi_.p4 (fun κe=>bi_.step4 n (bi_.o0.k (κe 0))):=fun κ κe x y=>by kernel_rfl
theorem bi_.ok (n:Nat):CxOk E (cx n bi_.d.nt)→KPar (cx n bi_.d.nt)→bi_.d.Ok E (bi_.F (n+1)) :=
 FD.ok (fs:=bi_.fs n) bc_ Tryz.func160 (by kernel_rfl) (by kernel_rfl) (by kernel_rfl) (by kernel_rfl) (fun _=>by kernel_rfl) (by kernel_rfl) (fun x=>by kernel_rfl) (.cons (FD.lp n (bi_.r4 n) (by kernel_rfl) fun _ _=>by kernel_rfl) (.nil))
noncomputable def aU_.fs (n:Nat):aU_.d.Fs:=(fun _ κe=>aU_.loop4 n (aU_ n) (aU_.o0.k (κe 0)) n,())
theorem aU_.r4 (n:Nat):aU_.d.Round (aU_.fs n) (cx n aU_.d.nt) (ci_ Tryz.f129) 4 aU_.p4 (fun κe=>aU_.step4 n (aU_ n) (aU_.o0.k (κe 0))):=fun κ κe x y=>by kernel_rfl
theorem aU_.ok (n:Nat):CxOk E (cx n aU_.d.nt)→KPar (cx n aU_.d.nt)→aU_.d.Ok E (aU_.F (n+1)) :=
 FD.ok (fs:=aU_.fs n) bc_ Tryz.func129 (by kernel_rfl) (by kernel_rfl) (by kernel_rfl) (by kernel_rfl) (fun _=>by kernel_rfl) (by kernel_rfl) (fun x=>by kernel_rfl) (.cons (FD.lp n (aU_.r4 n) (by kernel_rfl) fun _ _=>by kernel_rfl) (.nil))
noncomputable def b6_.fs (n:Nat):b6_.d.Fs:=()
theorem b6_.ok (n:Nat):CxOk E (cx n b6_.d.nt)→KPar (cx n b6_.d.nt)→b6_.d.Ok E (b6_.F (n+1)) :=
 FD.ok (fs:=b6_.fs n) bc_ Tryz.func92 (by kernel_rfl) (by kernel_rfl) (by kernel_rfl) (by kernel_rfl) (fun _=>by kernel_rfl) (by kernel_rfl) (fun x=>by kernel_rfl) (.nil)
noncomputable def b8_.fs (n:Nat):b8_.d.Fs:=()
theorem b8_.ok (n:Nat):CxOk E (cx n b8_.d.nt)→KPar (cx n b8_.d.nt)→b8_.d.Ok E (b8_.F (n+1)) :=
 FD.ok (fs:=b8_.fs n) bc_ Tryz.func88 (by kernel_rfl) (by kernel_rfl) (by kernel_rfl) (by kernel_rfl) (fun _=>by kernel_rfl) (by kernel_rfl) (fun x=>by kernel_rfl) (.nil)
noncomputable def al_.fs (n:Nat):al_.d.Fs:=(fun _ κe=>al_.loop3 n (al_.o0.k (κe 0)) n,())
theorem al_.r3 (n:Nat):al_.d.Round (al_.fs n) (cx n al_.d.nt) (ci_ Tryz.f156) 3 al_.p3 (fun κe=>al_.step3 n (al_.o0.k (κe 0))):=fun κ κe x y=>by kernel_rfl
theorem al_.ok (n:Nat):CxOk E (cx n al_.d.nt)→KPar (cx n al_.d.nt)→al_.d.Ok E (al_.F (n+1)) :=
 FD.ok (fs:=al_.fs n) bc_ Tryz.func156 (by kernel_rfl) (by kernel_rfl) (by kernel_rfl) (by kernel_rfl) (fun _=>by kernel_rfl) (by kernel_rfl) (fun x=>by kernel_rfl) (.cons (FD.lp n (al_.r3 n) (by kernel_rfl) fun _ _=>by kernel_rfl) (.nil))
noncomputable def bM_.fs (n:Nat):bM_.d.Fs:=()
theorem bM_.ok (n:Nat):CxOk E (cx n bM_.d.nt)→KPar (cx n bM_.d.nt)→bM_.d.Ok E (bM_.F (n+1)) :=
 FD.ok (fs:=bM_.fs n) bc_ Tryz.func108 (by kernel_rfl) (by kernel_rfl) (by kernel_rfl) (by kernel_rfl) (fun _=>by kernel_rfl) (by kernel_rfl) (fun x=>by kernel_rfl) (.nil)
noncomputable def aP_.fs (n:Nat):aP_.d.Fs:=(fun _ κe=>aP_.loop4 n (aP_ n) (aP_.o0.k (κe 0)) n,())
theorem aP_.r4 (n:Nat):aP_.d.Round (aP_.fs n) (cx n aP_.d.nt) (ci_ Tryz.f67) 4 aP_.p4 (fun κe=>aP_.step4 n (aP_ n) (aP_.o0.k (κe 0))):=fun κ κe x y=>by kernel_rfl
theorem aP_.ok (n:Nat):CxOk E (cx n aP_.d.nt)→KPar (cx n aP_.d.nt)→aP_.d.Ok E (aP_.F (n+1)) :=
 FD.ok (fs:=aP_.fs n) bc_ Tryz.func67 (by kernel_rfl) (by kernel_rfl) (by kernel_rfl) (by kernel_rfl) (fun _=>by kernel_rfl) (by kernel_rfl) (fun x=>by kernel_rfl) (.cons (FD.lp n (aP_.r4 n) (by kernel_rfl) fun _ _=>by kernel_rfl) (.nil))
noncomputable def cv_.fs (n:Nat):cv_.d.Fs:=()
theorem cv_.ok (n:Nat):CxOk E (cx n cv_.d.nt)→KPar (cx n cv_.d.nt)→cv_.d.Ok E (cv_.F (n+1)) :=
 FD.ok (fs:=cv_.fs n) bc_ Tryz.func154 (by kernel_rfl) (by kernel_rfl) (by kernel_rfl) (by kernel_rfl) (fun _=>by kernel_rfl) (by kernel_rfl) (fun x=>by kernel_rfl) (.nil)
noncomputable def a2_.fs (n:Nat):a2_.d.Fs:=(fun _ κe=>a2_.loop4 n (a2_.o0.k (κe 0)) n,())
theorem a2_.r4 (n:Nat):a2_.d.Round (a2_.fs n) (cx n a2_.d.nt) (ci_ Tryz.f162) 4 a2_.p4 (fun κe=>a2_.step4 n (a2_.o0.k (κe 0))):=fun κ κe x y=>by kernel_rfl
theorem a2_.ok (n:Nat):CxOk E (cx n a2_.d.nt)→KPar (cx n a2_.d.nt)→a2_.d.Ok E (a2_.F (n+1)) :=
 FD.ok (fs:=a2_.fs n) bc_ Tryz.func162 (by kernel_rfl) (by kernel_rfl) (by kernel_rfl) (by kernel_rfl) (fun _=>by kernel_rfl) (by kernel_rfl) (fun x=>by kernel_rfl) (.cons (FD.lp n (a2_.r4 n) (by kernel_rfl) fun _ _=>by kernel_rfl) (.nil))
noncomputable def a8_.fs (n:Nat):a8_.d.Fs:=(fun _ κe=>a8_.loop7 n (a8_.o0.k (κe 0)) n,())
theorem a8_.r7 (n:Nat):a8_.d.Round (a8_.fs n) (cx n a8_.d.nt) (ci_ Tryz.f155) 7 a8_.p7 (fun κe=>a8_.step7 n (a8_.o0.k (κe 0))):=fun κ κe x y=>by kernel_rfl
theorem a8_.ok (n:Nat):CxOk E (cx n a8_.d.nt)→KPar (cx n a8_.d.nt)→a8_.d.Ok E (a8_.F (n+1)) :=
 FD.ok (fs:=a8_.fs n) bc_ Tryz.func155 (by kernel_rfl) (by kernel_rfl) (by kernel_rfl) (by kernel_rfl) (fun _=>by kernel_rfl) (by kernel_rfl) (fun x=>by kernel_rfl) (.cons (FD.lp n (a8_.r7 n) (by kernel_rfl) fun _ _=>by kernel_rfl) (.nil))
noncomputable def bX_.fs (n:Nat):bX_.d.Fs:=()
theorem bX_.ok (n:Nat):CxOk E (cx n bX_.d.nt)→KPar (cx n bX_.d.nt)→bX_.d.Ok E (bX_.F (n+1)) :=
 FD.ok (fs:=bX_.fs n) bc_ Tryz.func157 (by kernel_rfl) (by kernel_rfl) (by kernel_rfl) (by kernel_rfl) (fun _=>by kernel_rfl) (by kernel_rfl) (fun x=>by kernel_rfl) (.nil)
noncomputable def cf_.fs (n:Nat):cf_.d.Fs:=()
theorem cf_.ok (n:Nat):CxOk E (cx n cf_.d.nt)→KPar (cx n cf_.d.nt)→cf_.d.Ok E (cf_.F (n+1)) :=
 FD.ok (fs:=cf_.fs n) bc_ Tryz.func106 (by kernel_rfl) (by kernel_rfl) (by kernel_rfl) (by kernel_rfl) (fun _=>by kernel_rfl) (by kernel_rfl) (fun x=>by kernel_rfl) (.nil)
noncomputable def by_.fs (n:Nat):by_.d.Fs:=(fun _ κe=>by_.loop3 n (by_.o0.k (κe 0)) n,())
theorem by_.r3 (n:Nat):by_.d.Round (by_.fs n) (cx n by_.d.nt) (ci_ Tryz.f134) 3 by_.p3 (fun κe=>by_.step3 n (by_.o0.k (κe 0))):=fun κ κe x y=>by kernel_rfl
theorem by_.ok (n:Nat):CxOk E (cx n by_.d.nt)→KPar (cx n by_.d.nt)→by_.d.Ok E (by_.F (n+1)) :=
 FD.ok (fs:=by_.fs n) bc_ Tryz.func134 (by kernel_rfl) (by kernel_rfl) (by kernel_rfl) (by kernel_rfl) (fun _=>by kernel_rfl) (by kernel_rfl) (fun x=>by kernel_rfl) (.cons (FD.lp n (by_.r3 n) (by kernel_rfl) fun _ _=>by kernel_rfl) (.nil))
noncomputable def cl_.fs (n:Nat):cl_.d.Fs:=()
theorem cl_.ok (n:Nat):CxOk E (cx n cl_.d.nt)→KPar (cx n cl_.d.nt)→cl_.d.Ok E (cl_.F (n+1)) :=
 FD.ok (fs:=cl_.fs n) bc_ Tryz.func163 (by kernel_rfl) (by kernel_rfl) (by kernel_rfl) (by kernel_rfl) (fun _=>by kernel_rfl) (by kernel_rfl) (fun x=>by kernel_rfl) (.nil)
noncomputable def cn_.fs (n:Nat):cn_.d.Fs:=()
theorem cn_.ok (n:Nat):CxOk E (cx n cn_.d.nt)→KPar (cx n cn_.d.nt)→cn_.d.Ok E (cn_.F (n+1)) :=
 FD.ok (fs:=cn_.fs n) bc_ Tryz.func130 (by kernel_rfl) (by kernel_rfl) (by kernel_rfl) (by kernel_rfl) (fun _=>by kernel_rfl) (by kernel_rfl) (fun x=>by kernel_rfl) (.nil)
noncomputable def am_.fs (n:Nat):am_.d.Fs:=(fun _ κe=>am_.loop6 n (am_.o0.k (κe 0)) n,())
theorem am_.r6 (n:Nat):am_.d.Round (am_.fs n) (cx n am_.d.nt) (ci_ Tryz.f201) 6 am_.p6 (fun κe=>am_.step6 n (am_.o0.k (κe 0))):=fun κ κe x y=>by kernel_rfl
theorem am_.ok (n:Nat):CxOk E (cx n am_.d.nt)→KPar (cx n am_.d.nt)→am_.d.Ok E (am_.F (n+1)) :=
 FD.ok (fs:=am_.fs n) bc_ Tryz.func201 (by kernel_rfl) (by kernel_rfl) (by kernel_rfl) (by kernel_rfl) (fun _=>by kernel_rfl) (by kernel_rfl) (fun x=>by kernel_rfl) (.cons (FD.lp n (am_.r6 n) (by kernel_rfl) fun _ _=>by kernel_rfl) (.nil))
noncomputable def ab_.fs (n:Nat):ab_.d.Fs:=(fun _ κe=>ab_.loop6 n (cp_ n) (ab_.o0.k (κe 0)) n,())
theorem ab_.r6 (n:Nat):ab_.d.Round (ab_.fs n) (cx n ab_.d.nt) (ci_ Tryz.f202) 6 ab_.p6 (fun κe=>ab_.step6 n (cp_ n) (ab_.o0.k (κe 0))):=fun κ κe x y=>by kernel_rfl
theorem ab_.ok (n:Nat):CxOk E (cx n ab_.d.nt)→KPar (cx n ab_.d.nt)→ab_.d.Ok E (ab_.F (n+1)) :=
 FD.ok (fs:=ab_.fs n) bc_ Tryz.func202 (by kernel_rfl) (by kernel_rfl) (by kernel_rfl) (by kernel_rfl) (fun _=>by kernel_rfl) (by kernel_rfl) (fun x=>by kernel_rfl) (.cons (FD.lp n (ab_.r6 n) (by kernel_rfl) fun _ _=>by kernel_rfl) (.nil))
noncomputable def cp_.fs (n:Nat):cp_.d.Fs:=()
theorem cp_.ok (n:Nat):CxOk E (cx n cp_.d.nt)→KPar (cx n cp_.d.nt)→cp_.d.Ok E (cp_.F (n+1)) :=
 FD.ok (fs:=cp_.fs n) bc_ Tryz.func182 (by kernel_rfl) (by kernel_rfl) (by kernel_rfl) (by kernel_rfl) (fun _=>by kernel_rfl) (by kernel_rfl) (fun x=>by kernel_rfl) (.nil)
noncomputable def b2_.fs (n:Nat):b2_.d.Fs:=()
theorem b2_.ok (n:Nat):CxOk E (cx n b2_.d.nt)→KPar (cx n b2_.d.nt)→b2_.d.Ok E (b2_.F (n+1)) :=
 FD.ok (fs:=b2_.fs n) bc_ Tryz.func158 (by kernel_rfl) (by kernel_rfl) (by kernel_rfl) (by kernel_rfl) (fun _=>by kernel_rfl) (by kernel_rfl) (fun x=>by kernel_rfl) (.nil)
noncomputable def cg_.fs (n:Nat):cg_.d.Fs:=()
theorem cg_.ok (n:Nat):CxOk E (cx n cg_.d.nt)→KPar (cx n cg_.d.nt)→cg_.d.Ok E (cg_.F (n+1)) :=
 FD.ok (fs:=cg_.fs n) bc_ Tryz.func127 (by kernel_rfl) (by kernel_rfl) (by kernel_rfl) (by kernel_rfl) (fun _=>by kernel_rfl) (by kernel_rfl) (fun x=>by kernel_rfl) (.nil)
noncomputable def bl_.fs (n:Nat):bl_.d.Fs:=(fun _ κe=>bl_.loop4 n (bl_.o0.k (κe 0)) n,())
theorem bl_.r4 (n:Nat):bl_.d.Round (bl_.fs n) (cx n bl_.d.nt) (ci_ Tryz.f90) 4 bl_.p4 (fun κe=>bl_.step4 n (bl_.o0.k (κe 0))):=fun κ κe x y=>by kernel_rfl
theorem bl_.ok (n:Nat):CxOk E (cx n bl_.d.nt)→KPar (cx n bl_.d.nt)→bl_.d.Ok E (bl_.F (n+1)) :=
 FD.ok (fs:=bl_.fs n) bc_ Tryz.func90 (by kernel_rfl) (by kernel_rfl) (by kernel_rfl) (by kernel_rfl) (fun _=>by kernel_rfl) (by kernel_rfl) (fun x=>by kernel_rfl) (.cons (FD.lp n (bl_.r4 n) (by kernel_rfl) fun _ _=>by kernel_rfl) (.nil))
noncomputable def bY_.fs (n:Nat):bY_.d.Fs:=()
theorem bY_.ok (n:Nat):CxOk E (cx n bY_.d.nt)→KPar (cx n bY_.d.nt)→bY_.d.Ok E (bY_.F (n+1)) :=
 FD.ok (fs:=bY_.fs n) bc_ Tryz.func49 (by kernel_rfl) (by kernel_rfl) (by kernel_rfl) (by kernel_rfl) (fun _=>by kernel_rfl) (by kernel_rfl) (fun x=>by kernel_rfl) (.nil)
noncomputable def bJ_.fs (n:Nat):bJ_.d.Fs:=()
theorem bJ_.ok (n:Nat):CxOk E (cx n bJ_.d.nt)→KPar (cx n bJ_.d.nt)→bJ_.d.Ok E (bJ_.F (n+1)) :=
 FD.ok (fs:=bJ_.fs n) bc_ Tryz.func104 (by kernel_rfl) (by kernel_rfl) (by kernel_rfl) (by kernel_rfl) (fun _=>by kernel_rfl) (by kernel_rfl) (fun x=>by kernel_rfl) (.nil)
noncomputable def aZ_.fs (n:Nat):aZ_.d.Fs:=(fun _ κe=>aZ_.loop4 n (aZ_.o0.k (κe 0)) n,())
theorem aZ_.r4 (n:Nat):aZ_.d.Round (aZ_.fs n) (cx n aZ_.d.nt) (ci_ Tryz.f93) 4 aZ_.p4 (fun κe=>aZ_.step4 n (aZ_.o0.k (κe 0))):=fun κ κe x y=>by kernel_rfl
theorem aZ_.ok (n:Nat):CxOk E (cx n aZ_.d.nt)→KPar (cx n aZ_.d.nt)→aZ_.d.Ok E (aZ_.F (n+1)) :=
 FD.ok (fs:=aZ_.fs n) bc_ Tryz.func93 (by kernel_rfl) (by kernel_rfl) (by kernel_rfl) (by kernel_rfl) (fun _=>by kernel_rfl) (by kernel_rfl) (fun x=>by kernel_rfl) (.cons (FD.lp n (aZ_.r4 n) (by kernel_rfl) fun _ _=>by kernel_rfl) (.nil))
noncomputable def bN_.fs (n:Nat):bN_.d.Fs:=()
theorem bN_.ok (n:Nat):CxOk E (cx n bN_.d.nt)→KPar (cx n bN_.d.nt)→bN_.d.Ok E (bN_.F (n+1)) :=
 FD.ok (fs:=bN_.fs n) bc_ Tryz.func107 (by kernel_rfl) (by kernel_rfl) (by kernel_rfl) (by kernel_rfl) (fun _=>by kernel_rfl) (by kernel_rfl) (fun x=>by kernel_rfl) (.nil)
noncomputable def cb_.fs (n:Nat):cb_.d.Fs:=()
theorem cb_.ok (n:Nat):CxOk E (cx n cb_.d.nt)→KPar (cx n cb_.d.nt)→cb_.d.Ok E (cb_.F (n+1)) :=
 FD.ok (fs:=cb_.fs n) bc_ Tryz.func66 (by kernel_rfl) (by kernel_rfl) (by kernel_rfl) (by kernel_rfl) (fun _=>by kernel_rfl) (by kernel_rfl) (fun x=>by kernel_rfl) (.nil)
noncomputable def cm_.fs (n:Nat):cm_.d.Fs:=()
theorem cm_.ok (n:Nat):CxOk E (cx n cm_.d.nt)→KPar (cx n cm_.d.nt)→cm_.d.Ok E (cm_.F (n+1)) :=
 FD.ok (fs:=cm_.fs n) bc_ Tryz.func91 (by kernel_rfl) (by kernel_rfl) (by kernel_rfl) (by kernel_rfl) (fun _=>by kernel_rfl) (by kernel_rfl) (fun x=>by kernel_rfl) (.nil)
noncomputable def bO_.fs (n:Nat):bO_.d.Fs:=()
theorem bO_.ok (n:Nat):CxOk E (cx n bO_.d.nt)→KPar (cx n bO_.d.nt)→bO_.d.Ok E (bO_.F (n+1)) :=
 FD.ok (fs:=bO_.fs n) bc_ Tryz.func50 (by kernel_rfl) (by kernel_rfl) (by kernel_rfl) (by kernel_rfl) (fun _=>by kernel_rfl) (by kernel_rfl) (fun x=>by kernel_rfl) (.nil)
noncomputable def bE_.fs (n:Nat):bE_.d.Fs:=()
theorem bE_.ok (n:Nat):CxOk E (cx n bE_.d.nt)→KPar (cx n bE_.d.nt)→bE_.d.Ok E (bE_.F (n+1)) :=
 FD.ok (fs:=bE_.fs n) bc_ Tryz.func10 (by kernel_rfl) (by kernel_rfl) (by kernel_rfl) (by kernel_rfl) (fun _=>by kernel_rfl) (by kernel_rfl) (fun x=>by kernel_rfl) (.nil)
noncomputable def bs_.fs (n:Nat):bs_.d.Fs:=(fun _ κe=>bs_.loop5 n (bs_.o0.k (κe 0)) n,())
theorem bs_.r5 (n:Nat):bs_.d.Round (bs_.fs n) (cx n bs_.d.nt) (ci_ Tryz.f32) 5 bs_.p5 (fun κe=>bs_.step5 n (bs_.o0.k (κe 0))):=fun κ κe x y=>by kernel_rfl
theorem bs_.ok (n:Nat):CxOk E (cx n bs_.d.nt)→KPar (cx n bs_.d.nt)→bs_.d.Ok E (bs_.F (n+1)) :=
 FD.ok (fs:=bs_.fs n) bc_ Tryz.func32 (by kernel_rfl) (by kernel_rfl) (by kernel_rfl) (by kernel_rfl) (fun _=>by kernel_rfl) (by kernel_rfl) (fun x=>by kernel_rfl) (.cons (FD.lp n (bs_.r5 n) (by kernel_rfl) fun _ _=>by kernel_rfl) (.nil))
noncomputable def a9_.fs (n:Nat):a9_.d.Fs:=(fun _ κe=>a9_.loop4 n (a9_.o0.k (κe 0)) n,())
theorem a9_.r4 (n:Nat):a9_.d.Round (a9_.fs n) (cx n a9_.d.nt) (ci_ Tryz.f38) 4 a9_.p4 (fun κe=>a9_.step4 n (a9_.o0.k (κe 0))):=fun κ κe x y=>by kernel_rfl
theorem a9_.ok (n:Nat):CxOk E (cx n a9_.d.nt)→KPar (cx n a9_.d.nt)→a9_.d.Ok E (a9_.F (n+1)) :=
 FD.ok (fs:=a9_.fs n) bc_ Tryz.func38 (by kernel_rfl) (by kernel_rfl) (by kernel_rfl) (by kernel_rfl) (fun _=>by kernel_rfl) (by kernel_rfl) (fun x=>by kernel_rfl) (.cons (FD.lp n (a9_.r4 n) (by kernel_rfl) fun _ _=>by kernel_rfl) (.nil))
noncomputable def bQ_.fs (n:Nat):bQ_.d.Fs:=()
theorem bQ_.ok (n:Nat):CxOk E (cx n bQ_.d.nt)→KPar (cx n bQ_.d.nt)→bQ_.d.Ok E (bQ_.F (n+1)) :=
 FD.ok (fs:=bQ_.fs n) bc_ Tryz.func33 (by kernel_rfl) (by kernel_rfl) (by kernel_rfl) (by kernel_rfl) (fun _=>by kernel_rfl) (by kernel_rfl) (fun x=>by kernel_rfl) (.nil)
noncomputable def a6_.fs (n:Nat):a6_.d.Fs:=(fun _ κe=>a6_.loop6 n (bK_ n) (a6_.o0.k (κe 0)) n,())
theorem a6_.r6 (n:Nat):a6_.d.Round (a6_.fs n) (cx n a6_.d.nt) (ci_ Tryz.f94) 6 a6_.p6 (fun κe=>a6_.step6 n (bK_ n) (a6_.o0.k (κe 0))):=fun κ κe x y=>by kernel_rfl
theorem a6_.ok (n:Nat):CxOk E (cx n a6_.d.nt)→KPar (cx n a6_.d.nt)→a6_.d.Ok E (a6_.F (n+1)) :=
 FD.ok (fs:=a6_.fs n) bc_ Tryz.func94 (by kernel_rfl) (by kernel_rfl) (by kernel_rfl) (by kernel_rfl) (fun _=>by kernel_rfl) (by kernel_rfl) (fun x=>by kernel_rfl) (.cons (FD.lp n (a6_.r6 n) (by kernel_rfl) fun _ _=>by kernel_rfl) (.nil))
end Go.Pi
end
section
namespace Go.Pi
open Go.Proofs
noncomputable def aL_.fs (n:Nat):aL_.d.Fs:=(fun _ κe=>aL_.loop6 n (aL_.o0.k (κe 0)) n,())
theorem aL_.r6 (n:Nat):aL_.d.Round (aL_.fs n) (cx n aL_.d.nt) (ci_ Tryz.f39) 6 aL_.p6 (fun κe=>aL_.step6 n (aL_.o0.k (κe 0))):=fun κ κe x y=>by kernel_rfl
theorem aL_.ok (n:Nat):CxOk E (cx n aL_.d.nt)→KPar (cx n aL_.d.nt)→aL_.d.Ok E (aL_.F (n+1)) :=
 FD.ok (fs:=aL_.fs n) bc_ Tryz.func39 (by kernel_rfl) (by kernel_rfl) (by kernel_rfl) (by kernel_rfl) (fun _=>by kernel_rfl) (by kernel_rfl) (fun x=>by kernel_rfl) (.cons (FD.lp n (aL_.r6 n) (by kernel_rfl) fun _ _=>by kernel_rfl) (.nil))
noncomputable def bK_.fs (n:Nat):bK_.d.Fs:=()
theorem bK_.ok (n:Nat):CxOk E (cx n bK_.d.nt)→KPar (cx n bK_.d.nt)→bK_.d.Ok E (bK_.F (n+1)) :=
 FD.ok (fs:=bK_.fs n) bc_ Tryz.func51 (by kernel_rfl) (by kernel_rfl) (by kernel_rfl) (by kernel_rfl) (fun _=>by kernel_rfl) (by kernel_rfl) (fun x=>by kernel_rfl) (.nil)
noncomputable def cJ_.fs (n:Nat):cJ_.d.Fs:=()
theorem cJ_.ok (n:Nat):CxOk E (cx n cJ_.d.nt)→KPar (cx n cJ_.d.nt)→cJ_.d.Ok E (cJ_.F (n+1)) :=
 FD.ok (fs:=cJ_.fs n) bc_ Tryz.func95 (by kernel_rfl) (by kernel_rfl) (by kernel_rfl) (by kernel_rfl) (fun _=>by kernel_rfl) (by kernel_rfl) (fun x=>by kernel_rfl) (.nil)
noncomputable def br_.fs (n:Nat):br_.d.Fs:=(fun _ κe=>br_.loop6 n (br_.o0.k (κe 0)) n,())
theorem br_.r6 (n:Nat):br_.d.Round (br_.fs n) (cx n br_.d.nt) (ci_ Tryz.f52) 6 br_.p6 (fun κe=>br_.step6 n (br_.o0.k (κe 0))):=fun κ κe x y=>by kernel_rfl
theorem br_.ok (n:Nat):CxOk E (cx n br_.d.nt)→KPar (cx n br_.d.nt)→br_.d.Ok E (br_.F (n+1)) :=
 FD.ok (fs:=br_.fs n) bc_ Tryz.func52 (by kernel_rfl) (by kernel_rfl) (by kernel_rfl) (by kernel_rfl) (fun _=>by kernel_rfl) (by kernel_rfl) (fun x=>by kernel_rfl) (.cons (FD.lp n (br_.r6 n) (by kernel_rfl) fun _ _=>by kernel_rfl) (.nil))
noncomputable def ca_.fs (n:Nat):ca_.d.Fs:=()
theorem ca_.ok (n:Nat):CxOk E (cx n ca_.d.nt)→KPar (cx n ca_.d.nt)→ca_.d.Ok E (ca_.F (n+1)) :=
 FD.ok (fs:=ca_.fs n) bc_ Tryz.func11 (by kernel_rfl) (by kernel_rfl) (by kernel_rfl) (by kernel_rfl) (fun _=>by kernel_rfl) (by kernel_rfl) (fun x=>by kernel_rfl) (.nil)
noncomputable def aV_.fs (n:Nat):aV_.d.Fs:=(fun _ κe=>aV_.loop6 n (aV_.o0.k (κe 0)) n,())
theorem aV_.r6 (n:Nat):aV_.d.Round (aV_.fs n) (cx n aV_.d.nt) (ci_ Tryz.f27) 6 aV_.p6 (fun κe=>aV_.step6 n (aV_.o0.k (κe 0))):=fun κ κe x y=>by kernel_rfl
theorem aV_.ok (n:Nat):CxOk E (cx n aV_.d.nt)→KPar (cx n aV_.d.nt)→aV_.d.Ok E (aV_.F (n+1)) :=
 FD.ok (fs:=aV_.fs n) bc_ Tryz.func27 (by kernel_rfl) (by kernel_rfl) (by kernel_rfl) (by kernel_rfl) (fun _=>by kernel_rfl) (by kernel_rfl) (fun x=>by kernel_rfl) (.cons (FD.lp n (aV_.r6 n) (by kernel_rfl) fun _ _=>by kernel_rfl) (.nil))
noncomputable def aG_.fs (n:Nat):aG_.d.Fs:=(fun _ κe=>aG_.loop6 n (aG_.o0.k (κe 0)) n,())
theorem aG_.r6 (n:Nat):aG_.d.Round (aG_.fs n) (cx n aG_.d.nt) (ci_ Tryz.f69) 6 aG_.p6 (fun κe=>aG_.step6 n (aG_.o0.k (κe 0))):=fun κ κe x y=>by kernel_rfl
theorem aG_.ok (n:Nat):CxOk E (cx n aG_.d.nt)→KPar (cx n aG_.d.nt)→aG_.d.Ok E (aG_.F (n+1)) :=
 FD.ok (fs:=aG_.fs n) bc_ Tryz.func69 (by kernel_rfl) (by kernel_rfl) (by kernel_rfl) (by kernel_rfl) (fun _=>by kernel_rfl) (by kernel_rfl) (fun x=>by kernel_rfl) (.cons (FD.lp n (aG_.r6 n) (by kernel_rfl) fun _ _=>by kernel_rfl) (.nil))
noncomputable def ar_.fs (n:Nat):ar_.d.Fs:=(fun _ κe=>ar_.loop3 n (ar_.o0.k (κe 0)) n,())
theorem ar_.r3 (n:Nat):ar_.d.Round (ar_.fs n) (cx n ar_.d.nt) (ci_ Tryz.f40) 3 ar_.p3 (fun κe=>ar_.step3 n (ar_.o0.k (κe 0))):=fun κ κe x y=>by kernel_rfl
theorem ar_.ok (n:Nat):CxOk E (cx n ar_.d.nt)→KPar (cx n ar_.d.nt)→ar_.d.Ok E (ar_.F (n+1)) :=
 FD.ok (fs:=ar_.fs n) bc_ Tryz.func40 (by kernel_rfl) (by kernel_rfl) (by kernel_rfl) (by kernel_rfl) (fun _=>by kernel_rfl) (by kernel_rfl) (fun x=>by kernel_rfl) (.cons (FD.lp n (ar_.r3 n) (by kernel_rfl) fun _ _=>by kernel_rfl) (.nil))
noncomputable def aw_.fs (n:Nat):aw_.d.Fs:=(fun _ κe=>aw_.loop3 n (aw_ n) (aw_.o0.k (κe 0)) n,())
theorem aw_.r3 (n:Nat):aw_.d.Round (aw_.fs n) (cx n aw_.d.nt) (ci_ Tryz.f70) 3 aw_.p3 (fun κe=>aw_.step3 n (aw_ n) (aw_.o0.k (κe 0))):=fun κ κe x y=>by kernel_rfl
theorem aw_.ok (n:Nat):CxOk E (cx n aw_.d.nt)→KPar (cx n aw_.d.nt)→aw_.d.Ok E (aw_.F (n+1)) :=
 FD.ok (fs:=aw_.fs n) bc_ Tryz.func70 (by kernel_rfl) (by kernel_rfl) (by kernel_rfl) (by kernel_rfl) (fun _=>by kernel_rfl) (by kernel_rfl) (fun x=>by kernel_rfl) (.cons (FD.lp n (aw_.r3 n) (by kernel_rfl) fun _ _=>by kernel_rfl) (.nil))
noncomputable def a4_.fs (n:Nat):a4_.d.Fs:=(fun _ κe=>a4_.loop3 n (a4_.o0.k (κe 0)) n,())
theorem a4_.r3 (n:Nat):a4_.d.Round (a4_.fs n) (cx n a4_.d.nt) (ci_ Tryz.f54) 3 a4_.p3 (fun κe=>a4_.step3 n (a4_.o0.k (κe 0))):=fun κ κe x y=>by kernel_rfl
theorem a4_.ok (n:Nat):CxOk E (cx n a4_.d.nt)→KPar (cx n a4_.d.nt)→a4_.d.Ok E (a4_.F (n+1)) :=
 FD.ok (fs:=a4_.fs n) bc_ Tryz.func54 (by kernel_rfl) (by kernel_rfl) (by kernel_rfl) (by kernel_rfl) (fun _=>by kernel_rfl) (by kernel_rfl) (fun x=>by kernel_rfl) (.cons (FD.lp n (a4_.r3 n) (by kernel_rfl) fun _ _=>by kernel_rfl) (.nil))
noncomputable def aE_.fs (n:Nat):aE_.d.Fs:=(fun _ κe=>aE_.loop3 n (aE_.o0.k (κe 0)) n,())
theorem aE_.r3 (n:Nat):aE_.d.Round (aE_.fs n) (cx n aE_.d.nt) (ci_ Tryz.f28) 3 aE_.p3 (fun κe=>aE_.step3 n (aE_.o0.k (κe 0))):=fun κ κe x y=>by kernel_rfl
theorem aE_.ok (n:Nat):CxOk E (cx n aE_.d.nt)→KPar (cx n aE_.d.nt)→aE_.d.Ok E (aE_.F (n+1)) :=
 FD.ok (fs:=aE_.fs n) bc_ Tryz.func28 (by kernel_rfl) (by kernel_rfl) (by kernel_rfl) (by kernel_rfl) (fun _=>by kernel_rfl) (by kernel_rfl) (fun x=>by kernel_rfl) (.cons (FD.lp n (aE_.r3 n) (by kernel_rfl) fun _ _=>by kernel_rfl) (.nil))
noncomputable def as_.fs (n:Nat):as_.d.Fs:=(fun _ κe=>as_.loop3 n (as_.o0.k (κe 0)) n,())
theorem as_.r3 (n:Nat):as_.d.Round (as_.fs n) (cx n as_.d.nt) (ci_ Tryz.f74) 3 as_.p3 (fun κe=>as_.step3 n (as_.o0.k (κe 0))):=fun κ κe x y=>by kernel_rfl
theorem as_.ok (n:Nat):CxOk E (cx n as_.d.nt)→KPar (cx n as_.d.nt)→as_.d.Ok E (as_.F (n+1)) :=
 FD.ok (fs:=as_.fs n) bc_ Tryz.func74 (by kernel_rfl) (by kernel_rfl) (by kernel_rfl) (by kernel_rfl) (fun _=>by kernel_rfl) (by kernel_rfl) (fun x=>by kernel_rfl) (.cons (FD.lp n (as_.r3 n) (by kernel_rfl) fun _ _=>by kernel_rfl) (.nil))
noncomputable def ax_.fs (n:Nat):ax_.d.Fs:=(fun _ κe=>ax_.loop3 n (ax_ n) (ax_.o0.k (κe 0)) n,())
theorem ax_.r3 (n:Nat):ax_.d.Round (ax_.fs n) (cx n ax_.d.nt) (ci_ Tryz.f73) 3 ax_.p3 (fun κe=>ax_.step3 n (ax_ n) (ax_.o0.k (κe 0))):=fun κ κe x y=>by kernel_rfl
theorem ax_.ok (n:Nat):CxOk E (cx n ax_.d.nt)→KPar (cx n ax_.d.nt)→ax_.d.Ok E (ax_.F (n+1)) :=
 FD.ok (fs:=ax_.fs n) bc_ Tryz.func73 (by kernel_rfl) (by kernel_rfl) (by kernel_rfl) (by kernel_rfl) (fun _=>by kernel_rfl) (by kernel_rfl) (fun x=>by kernel_rfl) (.cons (FD.lp n (ax_.r3 n) (by kernel_rfl) fun _ _=>by kernel_rfl) (.nil))
noncomputable def a5_.fs (n:Nat):a5_.d.Fs:=(fun _ κe=>a5_.loop3 n (a5_.o0.k (κe 0)) n,())
theorem a5_.r3 (n:Nat):a5_.d.Round (a5_.fs n) (cx n a5_.d.nt) (ci_ Tryz.f56) 3 a5_.p3 (fun κe=>a5_.step3 n (a5_.o0.k (κe 0))):=fun κ κe x y=>by kernel_rfl
theorem a5_.ok (n:Nat):CxOk E (cx n a5_.d.nt)→KPar (cx n a5_.d.nt)→a5_.d.Ok E (a5_.F (n+1)) :=
 FD.ok (fs:=a5_.fs n) bc_ Tryz.func56 (by kernel_rfl) (by kernel_rfl) (by kernel_rfl) (by kernel_rfl) (fun _=>by kernel_rfl) (by kernel_rfl) (fun x=>by kernel_rfl) (.cons (FD.lp n (a5_.r3 n) (by kernel_rfl) fun _ _=>by kernel_rfl) (.nil))
noncomputable def aC_.fs (n:Nat):aC_.d.Fs:=(fun _ κe=>aC_.loop3 n (aC_.o0.k (κe 0)) n,())
theorem aC_.r3 (n:Nat):aC_.d.Round (aC_.fs n) (cx n aC_.d.nt) (ci_ Tryz.f34) 3 aC_.p3 (fun κe=>aC_.step3 n (aC_.o0.k (κe 0))):=fun κ κe x y=>by kernel_rfl
theorem aC_.ok (n:Nat):CxOk E (cx n aC_.d.nt)→KPar (cx n aC_.d.nt)→aC_.d.Ok E (aC_.F (n+1)) :=
 FD.ok (fs:=aC_.fs n) bc_ Tryz.func34 (by kernel_rfl) (by kernel_rfl) (by kernel_rfl) (by kernel_rfl) (fun _=>by kernel_rfl) (by kernel_rfl) (fun x=>by kernel_rfl) (.cons (FD.lp n (aC_.r3 n) (by kernel_rfl) fun _ _=>by kernel_rfl) (.nil))
noncomputable def laws_FnExactFeedAll.fs (n:Nat):laws_FnExactFeedAll.d.Fs:=()
theorem laws_FnExactFeedAll.ok (n:Nat):CxOk E (cx n laws_FnExactFeedAll.d.nt)→KPar (cx n laws_FnExactFeedAll.d.nt)→laws_FnExactFeedAll.d.Ok E (laws_FnExactFeedAll.F (n+1)) :=
 FD.ok (fs:=laws_FnExactFeedAll.fs n) bc_ Tryz.func7 (by kernel_rfl) (by kernel_rfl) (by kernel_rfl) (by kernel_rfl) (fun _=>by kernel_rfl) (by kernel_rfl) (fun x=>by kernel_rfl) (.nil)
end Go.Pi
end
section
namespace Go.Pi
def InsM (P:Program) (f:FuncId) (e:TypeId) (K B:Nat):Prop :=
 ∀ (w:World) (S:Value) (n:Nat) (vals:List Value) (U:Value) (m:Nat) (us:List Value) (i:Nat),w.ownsRow 0 e K S n vals→w.ownsRow 0 e K U m us→(∀ b,cM_ S b≠0→cM_ U b=0)→i≤n →
   (∀ v ∈ vals,v.oneCell'=true)→(∀ v ∈ us,v.oneCell'=true)→(n+m)*B≤140737488355328 →
   Calls P f (List.toArray [S,.int .i64 i,U]) w fun e' w'=>∃ R,e' = .returned R∧w'.ownsRow 0 e K R (n+m) (vals.take (i*K)++us++vals.drop (i*K))∧ku_ w w' (fun b=>cM_ S b≠0) ∧
    ∀ b,cM_ R b≠0→(w.heap.size≤b∨cM_ S b≠0)∧b<w'.heap.size
def DelM (P:Program) (f:FuncId) (e:TypeId) (K:Nat):Prop :=
 ∀ (w:World) (S:Value) (n:Nat) (vals:List Value) (i j:Nat),w.ownsRow 0 e K S n vals→i≤j→j≤n→(∀ v ∈ vals,v.oneCell'=true) →
   Calls P f (List.toArray [S,.int .i64 i,.int .i64 j]) w fun e' w'=>∃ R,e' = .returned R∧w'.ownsRow 0 e K R (n - (j - i)) (vals.take (i*K)++vals.drop (j*K))∧ku_ w w' (fun b=>cM_ S b≠0) ∧
    ∀ b,cM_ R b≠0→(w.heap.size≤b∨cM_ S b≠0)∧b<w'.heap.size
def M.both:M→M→M
 |.d,.d=>.d
 |_,_=>.s
variable [an_]
open an_
variable {E:Env} {w w':World} {F F':Nat→Prop}
theorem RL.own_inv {m t xs v l vs φ} (hm:m ≠ .v) (h:RL E w F (.sl m t xs::l) (v::vs) φ):∃ vals φ₁ φ₂,w.ownsRow 0 (E.eid t) t.width v xs.length vals∧RL E w F (bn_ m.sub t xs) vals φ₁∧(∀ b,cM_ v b≠0→F b)∧RL E w F l vs φ₂∧∀ b,φ b=cM_ v b+φ₁ b+φ₂ b:=by
 cases h with
 |scal _ _ _ _ _ h=>exact h.elim
 |view=>exact absurd rfl hm
 |own m t xs v vals φ₁ l vs φ₂ φ h1 h2 h3 h4 h5 h6=>exact ⟨vals,φ₁,φ₂,h2,h3,h4,h5,h6⟩
theorem RL.len_inv {a l Vs φ} (h:RL E w F (a::l) Vs φ):∃ v vs,Vs=v::vs:=by
 obtain ⟨v,vs,_,_,h,_⟩:=RL.uncons h
 exact ⟨v,vs,h⟩
theorem mD_ [ap_] {φ:Nat→Nat} (h1:∀ b,φ b≤1) (low:∀ b,φ b≠0→F b∧b<w.heap.size) {S:Value} (hSF:∀ b,cM_ S b≠0→F b) {t:TC} {zs:List (El t)} {vals:List Value} {ψ:Nat→Nat}
  (hz:RL E w F (bn_ .d t zs) vals ψ) (eφ:∀ b,cM_ S b+ψ b≤φ b) {R:Value} (hR:w'.ownsRow 0 (E.eid t) t.width R zs.length vals) (hg:ku_ w w' (fun b=>cM_ S b≠0))
  (hRb:∀ b,cM_ R b≠0→(w.heap.size≤b∨cM_ S b≠0)∧b<w'.heap.size) :
  ∃ φ',RL E w' (fun b=>(F b∧φ b=0)∨φ' b≠0) [.sl .d t zs] [R] φ'∧(∀ b,φ' b≤1)∧(∀ b,φ' b≠0→φ b≠0∨w.heap.size≤b) ∧
    w'.os=w.os∧w'.tape=w.tape∧w'.output=w.output∧w.heap.size≤w'.heap.size∧∀ b,b<w.heap.size→φ b=0→w'.heap[b]?=w.heap[b]?:=by
 have key:∀ b,cM_ R b≠0→cM_ S b≠0∨w.heap.size≤b:=fun b hb=>(hRb b hb).1.symm
 have elt:∀ b,ψ b≠0→cM_ R b=0∧cM_ S b=0:=fun b hb=>by
  have q1:=eφ b;have q2:=h1 b
  have s0:cM_ S b=0:=by omega
  refine ⟨Classical.byContradiction fun hr => ?_,s0⟩
  rcases key b hr with hs|hs
  · exact hs s0
  · have:=(low b (by omega)).2;omega
 refine ⟨fun b=>cM_ R b+ψ b,?_,fun b => ?_,fun b hb => ?_,hg.os,hg.tape,hg.output,hg.size,fun b hb h0=>hg.heap b hb fun hc=>hc (by have:=eφ b;omega)⟩
 · refine .own .d t zs R vals ψ [] _ (fun _=>0) _ (by decide) hR ?_ (fun b hb=>.inr (by show cM_ R b+_≠0;omega)) (.nil _ fun _=>rfl) (fun b=>rfl)
   refine hz.frame hg.size (fun b hb=>⟨hg.heap b (hz.low b hb).2 fun hc=>hc (elt b hb).2,.inr (by show cM_ R b+ψ b≠0;omega)⟩) fun b hb hn=>⟨hg.heap b hb fun hc=>hn (hSF b hc),fun hc => ?_⟩
   rcases hc with ⟨hf,-⟩|hc
   · exact hn hf
   · have hc:cM_ R b+ψ b≠0:=hc
     by_cases hr0:cM_ R b=0
     · exact hn (hz.low b (by omega)).1
     · rcases key b hr0 with hs|hs
       · exact hn (hSF b hs)
       · omega
 · show cM_ R b+ψ b≤1
   have q1:=eφ b;have q2:=h1 b;have:=j1_ R b
   by_cases h0:ψ b=0
   · omega
   · have:=elt b h0;omega
 · have hb:cM_ R b+ψ b≠0:=hb
   by_cases h0:ψ b=0
   · rcases key b (by omega) with hs|hs
     · exact .inl (by have:=eφ b;omega)
     · exact .inr hs
   · exact .inl (by have:=eφ b;omega)
theorem jh_ [ap_] {φ:Nat→Nat} (h1:∀ b,φ b≤1) (low:∀ b,φ b≠0→F b∧b<w.heap.size) {S:Value} (hSF:∀ b,cM_ S b≠0→F b) {t:TC} {zs:List (El t)} {L:List AV} {vals:List Value} {ψ:Nat→Nat}
  (hz:RL E w F L vals ψ) (hL:L.map AV.asView=bn_ .v t zs) (eφ:∀ b,cM_ S b+ψ b≤φ b) {R:Value} (hR:w'.ownsRow 0 (E.eid t) t.width R zs.length vals) (hg:ku_ w w' (fun b=>cM_ S b≠0))
  (hRb:∀ b,cM_ R b≠0→(w.heap.size≤b∨cM_ S b≠0)∧b<w'.heap.size) :
  ∃ φ',RL E w' (fun b=>(F b∧φ b=0)∨φ' b≠0) [.sl .s t zs] [R] φ'∧(∀ b,φ' b≤1)∧(∀ b,φ' b≠0→φ b≠0∨w.heap.size≤b) ∧
    w'.os=w.os∧w'.tape=w.tape∧w'.output=w.output∧w.heap.size≤w'.heap.size∧∀ b,b<w.heap.size→φ b=0→w'.heap[b]?=w.heap[b]?:=by
 have key:∀ b,cM_ R b≠0→cM_ S b≠0∨w.heap.size≤b:=fun b hb=>(hRb b hb).1.symm
 have hv:=hz.seen (F':=fun b=>F b∧ψ b=0) (fun b hb hc=>hb hc.2) (fun b _ hn hc=>hn hc.1)
 rw [hL] at hv
 refine ⟨cM_ R,?_,j1_ R,fun b hb => ?_,hg.os,hg.tape,hg.output,hg.size,fun b hb h0=>hg.heap b hb fun hc=>hc (by have:=eφ b;omega)⟩
 · refine .own .s t zs R vals (fun _=>0) [] _ (fun _=>0) _ (by decide) hR ?_ (fun b hb=>.inr hb) (.nil _ fun _=>rfl) (fun b=>rfl)
   refine hv.frame hg.size (fun b hb=>absurd rfl hb) fun b hb hn=>⟨hg.heap b hb fun hc=>hn ⟨hSF b hc,by have:=eφ b;have:=h1 b;omega⟩,fun hc => ?_⟩
   rcases hc with ⟨hf,h0⟩|hc
   · exact hn ⟨hf,by have:=eφ b;omega⟩
   · rcases key b hc with hs|hs
     · exact hn ⟨hSF b hs,by have:=eφ b;have:=h1 b;omega⟩
     · omega
 · rcases key b hb with hs|hs
   · exact .inl (by have:=eφ b;omega)
   · exact .inr hs
theorem RL.int_inv {k n l v vs φ} (h:RL E w F (.i k n::l) (v::vs) φ):v = .int k n∧RL E w F l vs φ:=by
 cases h with
 |scal _ _ _ _ _ h1 h2=>exact ⟨h1,h2⟩
theorem codedD [ap_] {m:M} {t:TC} (zs:List (El t)):∀ a ∈ bn_ m t zs,∃ m,a.coded m:=fun a ha=>⟨m,c6_ a ha⟩
theorem nI_ [ap_] {f:FuncId} {t:TC} {m1 m2:M} (hm1:m1 ≠ .v) (hm2:m2 ≠ .v) (h:InsM E.P f (E.eid t) t.width t.bytes) {xs ys:List (El t)} {i:Nat} (hi:i≤xs.length) (hb:(xs.length+ys.length)*t.bytes≤140737488355328) :
  dq_ E f [.sl m1 t xs,.i .i64 i,.sl m2 t ys] (.sl (M.both m1 m2) t (xs.take i++ys++xs.drop i)) [] [.o,.v,.o]:=by
 intro w F Vs φ hrl h1 hlow _
 have low:∀ b,φ b≠0→F b∧b<w.heap.size:=hrl.low
 obtain ⟨S,_,rfl⟩:=hrl.len_inv
 replace hrl:=hrl.own_inv hm1
 obtain ⟨vals,φx,φ2,hS,hx,hSF,hrl,e1⟩:=hrl
 obtain ⟨I,_,rfl⟩:=hrl.len_inv
 replace hrl:=hrl.int_inv
 obtain ⟨rfl,hrl⟩:=hrl
 obtain ⟨U,_,rfl⟩:=hrl.len_inv
 replace hrl:=hrl.own_inv hm2
 obtain ⟨us,φy,φ4,hU,hy,hUF,hrl,e3⟩:=hrl
 obtain ⟨rfl,e4⟩:=RL.nil_inv hrl
 have eφ:∀ b,φ b=cM_ S b+φx b+(cM_ U b+φy b):=fun b=>by rw [e1,e3,e4];omega
 refine (h w S xs.length vals U ys.length us i hS hU (fun b hb=>by have:=h1 b;have:=eφ b;omega) hi (hx.one (codedD _)) (hy.one (codedD _)) hb).mono ?_
 rintro e' w' ⟨R,rfl,hR,hg,hRb⟩
 have hx':RL E w F (bn_ m1.sub t (xs.take i)++bn_ m1.sub t (xs.drop i)) vals φx:=by rw [←cu_,List.take_append_drop];exact hx
 obtain ⟨va,vb,φa,φb,rfl,ha,hb',e6⟩:=hx'.split
 have hla:va.length=i*t.width:=by rw [←ha.length,cX_,List.length_take,Nat.min_eq_left hi]
 rw [←hla,List.take_left,List.drop_left] at hR
 have hz:RL E w F (bn_ m1.sub t (xs.take i)++bn_ m2.sub t ys++bn_ m1.sub t (xs.drop i)) (va++us++vb) (fun b=>φa b+φy b+φb b) :=
  (ha.append hy (ψ:=fun b=>φa b+φy b) (fun b=>rfl)).append hb' (fun b=>rfl)
 have hl:(xs.take i++ys++xs.drop i).length=xs.length+ys.length:=by simp;omega
 have he:∀ b,cM_ S b+(φa b+φy b+φb b)≤φ b:=fun b=>by have:=eφ b;have:=e6 b;omega
 by_cases hd:m1 = .d∧m2 = .d
 · obtain ⟨rfl,rfl⟩:=hd
   have hz':RL E w F (bn_ .d t (xs.take i++ys++xs.drop i)) (va++us++vb) (fun b=>φa b+φy b+φb b):=by
    rw [cu_,cu_];exact hz
   obtain ⟨φ',k1,k2⟩:=mD_ (S:=S) (R:=R) h1 low hSF hz' he (by rw [hl];exact hR) hg hRb
   exact ⟨R,φ',rfl,k1,k2⟩
 · have hb2:M.both m1 m2 = .s:=by cases m1<;>cases m2<;>first|rfl|exact absurd rfl hm1|exact absurd rfl hm2|exact absurd ⟨rfl,rfl⟩ hd
   rw [hb2]
   obtain ⟨φ',k1,k2⟩:=jh_ (S:=S) (R:=R) (t:=t) (zs:=xs.take i++ys++xs.drop i) h1 low hSF hz (by rw [List.map_append,List.map_append,dY_,dY_,dY_,cu_,cu_]) he (by rw [hl];exact hR) hg hRb
   exact ⟨R,φ',rfl,k1,k2⟩
theorem nV_ [ap_] {f:FuncId} {t:TC} {m:M} (hm0:m ≠ .v) (h:DelM E.P f (E.eid t) t.width) {xs:List (El t)} {i j:Nat} (hij:i≤j) (hj:j≤xs.length) :
  dq_ E f [.sl m t xs,.i .i64 i,.i .i64 j] (.sl (M.both m m) t (xs.take i++xs.drop j)) [] [.o,.v,.v]:=by
 intro w F Vs φ hrl h1 hlow _
 have low:∀ b,φ b≠0→F b∧b<w.heap.size:=hrl.low
 obtain ⟨S,_,rfl⟩:=hrl.len_inv
 replace hrl:=hrl.own_inv hm0
 obtain ⟨vals,φx,φ2,hS,hx,hSF,hrl,e1⟩:=hrl
 obtain ⟨I,_,rfl⟩:=hrl.len_inv
 replace hrl:=hrl.int_inv
 obtain ⟨rfl,hrl⟩:=hrl
 obtain ⟨J,_,rfl⟩:=hrl.len_inv
 replace hrl:=hrl.int_inv
 obtain ⟨rfl,hrl⟩:=hrl
 obtain ⟨rfl,e4⟩:=RL.nil_inv hrl
 have eφ:∀ b,φ b=cM_ S b+φx b:=fun b=>by rw [e1,e4];omega
 refine (h w S xs.length vals i j hS hij hj (hx.one (codedD _))).mono ?_
 rintro e' w' ⟨R,rfl,hR,hg,hRb⟩
 have hx':RL E w F (bn_ m.sub t (xs.take i)++(bn_ m.sub t ((xs.drop i).take (j - i))++bn_ m.sub t (xs.drop j))) vals φx:=by
  rw [←cu_,←cu_]
  have:xs.drop j=(xs.drop i).drop (j - i):=by rw [List.drop_drop];congr 1;omega
  rw [this,List.take_append_drop,List.take_append_drop];exact hx
 obtain ⟨va,vc,φa,φc,rfl,ha,hc,e6⟩:=hx'.split
 obtain ⟨vm,vb,φm,φb,rfl,hm,hb',e7⟩:=hc.split
 have hla:va.length=i*t.width:=by rw [←ha.length,cX_,List.length_take,Nat.min_eq_left (by omega)]
 have hlm:vm.length=(j - i)*t.width:=by rw [←hm.length,cX_,List.length_take,List.length_drop,Nat.min_eq_left (by omega)]
 have hlj:(va++vm).length=j*t.width:=by rw [List.length_append,hla,hlm,←Nat.add_mul];congr 1;omega
 rw [←hla,List.take_left,←hlj,←List.append_assoc,List.drop_left] at hR
 have hz:RL E w F (bn_ m.sub t (xs.take i)++bn_ m.sub t (xs.drop j)) (va++vb) (fun b=>φa b+φb b):=ha.append hb' (fun b=>rfl)
 have hl:(xs.take i++xs.drop j).length=xs.length - (j - i):=by simp;omega
 have he:∀ b,cM_ S b+(φa b+φb b)≤φ b:=fun b=>by have:=eφ b;have:=e6 b;have:=e7 b;omega
 cases m with
 |v=>exact absurd rfl hm0
 |d=>
  have hz':RL E w F (bn_ .d t (xs.take i++xs.drop j)) (va++vb) (fun b=>φa b+φb b):=by
   rw [cu_];exact hz
  obtain ⟨φ',k1,k2⟩:=mD_ (S:=S) (R:=R) h1 low hSF hz' he (by rw [hl];exact hR) hg hRb
  exact ⟨R,φ',rfl,k1,k2⟩
 |s=>
  obtain ⟨φ',k1,k2⟩:=jh_ (S:=S) (R:=R) (t:=t) (zs:=xs.take i++xs.drop j) h1 low hSF hz (by rw [List.map_append,dY_,dY_,cu_]) he (by rw [hl];exact hR) hg hRb
  exact ⟨R,φ',rfl,k1,k2⟩
theorem nDel_ok [ap_] {f:FuncId} {t:TC} {m:M} (hm0:m ≠ .v) (h:DelM E.P f (E.eid t) t.width) {xs r:List (El t)} {i j:Int} (hr:nDelete xs i j=some r) :
  dq_ E f [.sl m t xs,.i .i64 i,.i .i64 j] (.sl (M.both m m) t r) [] [.o,.v,.v]:=by
 unfold nDelete at hr
 by_cases hc:0≤i∧i≤j∧j≤(xs.length:Int)
 · obtain ⟨h1,h2,h3⟩:=hc
   obtain ⟨i,rfl⟩:=Int.eq_ofNat_of_zero_le h1
   obtain ⟨j,rfl⟩:=Int.eq_ofNat_of_zero_le (Int.le_trans h1 h2)
   simp only [h1,h2,h3,decide_true,Bool.and_true,cond_true,Option.some.injEq] at hr
   subst hr
   exact nV_ hm0 h (by omega) (by omega)
 · have:(decide (0≤i)&&(decide (i≤j)&&decide (j≤(xs.length:Int))))=false:=by
    rw [Bool.eq_false_iff];intro h;simp only [Bool.and_eq_true,decide_eq_true_eq] at h;exact hc h
   rw [this] at hr;cases hr
theorem nIns_ok [ap_] {f:FuncId} {t:TC} {m1 m2:M} (hm1:m1 ≠ .v) (hm2:m2 ≠ .v) (h:InsM E.P f (E.eid t) t.width t.bytes) {xs ys r:List (El t)} {i:Int} (hr:nInsert t.bytes xs i ys=some r) :
  dq_ E f [.sl m1 t xs,.i .i64 i,.sl m2 t ys] (.sl (M.both m1 m2) t r) [] [.o,.v,.o]:=by
 unfold nInsert at hr
 by_cases hc:0≤i∧i≤(xs.length:Int)
 · obtain ⟨h1,h2⟩:=hc
   obtain ⟨i,rfl⟩:=Int.eq_ofNat_of_zero_le h1
   by_cases hb:(xs.length+ys.length)*t.bytes≤140737488355328
   · simp only [h1,h2,hb,decide_true,Bool.and_true,cond_true,Option.some.injEq] at hr
     subst hr
     exact nI_ hm1 hm2 h (by omega) hb
   · simp [h1,h2,hb] at hr
 · have:(decide (0≤i)&&decide (i≤(xs.length:Int)))=false:=by
    rw [Bool.eq_false_iff];intro h;simp only [Bool.and_eq_true,decide_eq_true_eq] at h;exact hc h
   rw [this] at hr;cases hr
end Go.Pi
end
section
namespace Go.Proofs
open Go.Shelf Go.RowKit Go.Lib Go.Pi
section
variable {P:Program}
theorem n5_ {ops:Array Oper} {o:Oper} {a:Act} {w:World} {K:Act→World→Prop} {Q:Exit→Act→World→Prop} {E:Prop}
  (hg:o.guard=none) (d x:Operand) (dT sT:TypeId) (hop:o.op=Op.call { callee:=Callee.builtin Builtin.append,args:=#[d,x],argTypes:=#[dT,sT] })
  (v u:Value) (hd:a.eval d=v) (hx:a.eval x=u) {v':Value} {w':World} (hr:(Builtin.append_ #[dT,sT] o.type #[v,u]).run P w = .ok v' w') (hK:K (a.put o.dst v') w') :
  if Region.wanted o (yielded ops a.tmps)=true then Oper.wp P o a w K Q else E:=by
 have hw:Region.wanted o (yielded ops a.tmps)=true:=by simp [Region.wanted,hg]
 rw [if_pos hw]
 unfold Oper.wp
 simp [execOp,hop,resolve,invoke,builtin,hd,hx,hr,Result.andThen]
 exact hK
theorem np_ (w:World) {ops:Array Oper} {fs_:List Oper} {o:Oper} {a:Act} {Q:Exit→Act→World→Prop} (hgd:o.guard=none) (d:Operand) (t:TypeId)
  (ho:o.op = .call { callee:=.builtin .clear,args:=#[d],argTypes:=#[t] }) (v:Value) (hd:a.eval d=v) {v':Value} {w':World}
  (hr:(Builtin.clear_ #[t] o.type #[v]).run P w = .ok v' w') (h:wpList P ops Q fs_ (a.put o.dst v') w'):wpList P ops Q (o::fs_) a w :=
 wpList_plain hgd fun _ hK=>by
  unfold Oper.wp execOp
  simp only [ho,resolve,invoke,builtin,Sem.run_bind,Sem.run_pure,Result.andThen_ok,List.map_toArray,List.map_cons,List.map_nil,hd,hr]
  exact hK _ _ h
theorem run_clear_k (w:World) (t e ty:TypeId) (z:Value) (ht:P.underlying t=some (.slice e)) (hv:∀ w,(zeroValue e).run P w = .ok z w) (g o n c:Nat) (hn:0<n) (cur:Array Value) (T:TypeId) (hg:w.heap[g]?=some (.cells cur T (0,0)))
  (hfit:o+(Builtin.zeroCells z.cells n).toList.length≤cur.size) (h1:∀ v ∈ (Builtin.zeroCells z.cells n).toList,v.oneCell'=true) :
  (Builtin.clear_ #[t] ty #[.slice (some ⟨g,o,none⟩) n c]).run P w = .ok (.tuple #[]) (w.setRow g (cur.toList.take o++(Builtin.zeroCells z.cells n).toList++cur.toList.drop (o+(Builtin.zeroCells z.cells n).toList.length)).toArray):=by
 have hst:=run_storeCells_at P g o T (Builtin.zeroCells z.cells n).toList 0 cur w hg (by simpa using hfit) h1
 obtain ⟨m,rfl⟩:∃ m,n=m+1:=⟨n - 1,by omega⟩
 simp only [Builtin.clear_,run_underlying ht,Sem.run_bind,Result.andThen_ok,hv]
 simp only [List.getElem?_toArray,List.getElem?_cons_zero,Sem.run_bind,run_underlying ht,Result.andThen_ok,hv,hst,Nat.add_zero,Sem.run_pure]
end
theorem n4_ (w:World) {P:Program} {ops:Array Oper} {fs_:List Oper} {o:Oper} {a:Act} {Q:Exit→Act→World→Prop} (hgd:o.guard=none) (d s:Operand) (t t':TypeId)
  (ho:o.op = .call { callee:=.builtin .copy,args:=#[d,s],argTypes:=#[t,t'] }) (v u:Value) (hd:a.eval d=v) (hs:a.eval s=u) {v':Value} {w':World}
  (hr:(Builtin.copy_ #[t,t'] o.type #[v,u]).run P w = .ok v' w') (h:wpList P ops Q fs_ (a.put o.dst v') w'):wpList P ops Q (o::fs_) a w :=
 wpList_plain hgd fun _ hK=>by
  unfold Oper.wp execOp
  simp only [ho,resolve,invoke,builtin,Sem.run_bind,Sem.run_pure,Result.andThen_ok,List.map_toArray,List.map_cons,List.map_nil,hd,hs,hr]
  exact hK _ _ h
theorem step_copy_runI {P:Program} {ops:Array Oper} {o:Oper} {a:Act} {w:World} {K:Act→World→Prop} {Q:Exit→Act→World→Prop} {E:Prop}
  (hg:o.guard=none) (d x:Operand) (dT sT:TypeId) (hop:o.op=Op.call { callee:=Callee.builtin Builtin.copy,args:=#[d,x],argTypes:=#[dT,sT] })
  (v u:Value) (hd:a.eval d=v) (hx:a.eval x=u) {v':Value} {w':World} (hr:(Builtin.copy_ #[dT,sT] o.type #[v,u]).run P w = .ok v' w') (hK:K (a.put o.dst v') w') :
  if Region.wanted o (yielded ops a.tmps)=true then Oper.wp P o a w K Q else E:=by
 have hw:Region.wanted o (yielded ops a.tmps)=true:=by simp [Region.wanted,hg]
 rw [if_pos hw]
 unfold Oper.wp
 simp [execOp,hop,resolve,invoke,builtin,hd,hx,hr,Result.andThen]
 exact hK
theorem run_copy_rowK {P:Program} (w:World) (dT sT ty elem:TypeId) (k:Nat) (g o dLen dCap:Nat) (a:Addr) (sLen sCap:Nat) (cur:Array Value) (t:TypeId) (cs:List Value)
  (hu:P.underlying dT=some (.slice elem)) (hs:(P.info? elem).map (·.size)=some k)
  (hg:w.heap[g]?=some (.cells cur t (0,0))) (hn:cs.length=Nat.min sLen dLen*k)
  (hsrc:∀ j v,cs[j]?=some v→w.cell? (a.add j)=some v) (hfit:o+cs.length≤cur.size) (h1:∀ v ∈ cs,v.oneCell'=true) :
  (Builtin.copy_ #[dT,sT] ty #[.slice (some ⟨g,o,none⟩) dLen dCap,.slice (some a) sLen sCap]).run P w =
   .ok (goInt (Nat.min sLen dLen)) (w.setRow g (cur.toList.take o++cs++cur.toList.drop (o+cs.length)).toArray):=by
 have hl:=run_loadCells_list (P:=P) w a cs hsrc
 have hst:=run_storeCells_at P g o t cs 0 cur w hg (by simpa using hfit) h1
 cases hq:P.info? elem with
 |none=>simp [hq] at hs
 |some i=>
  have hi:i.size=k:=by simpa [hq] using hs
  simp [Builtin.copy_,run_underlying hu,Builtin.lenOf,Builtin.firstCells,sizeOf,typeInfo,hq,hi,←hn,hl,hst]
theorem zc_one (cs:Array Value) (h:cs.toList.all Value.oneCell'=true) (n:Nat):∀ v ∈ (Builtin.zeroCells cs n).toList,v.oneCell'=true:=by
 intro v hv
 simp only [Builtin.zeroCells,Array.toList_map,List.mem_map,Array.toList_range,List.mem_range] at hv
 obtain ⟨x,hx,rfl⟩:=hv
 have h0:0<cs.size:=Nat.pos_of_mul_pos_left (by omega:0<n*cs.size)
 have:x % cs.size<cs.size:=Nat.mod_lt _ h0
 rw [getElem!_pos cs _ this]
 exact List.all_eq_true.1 h _ (by simp)
theorem own_low {w:World} {e:TypeId} {K:Nat} {S:Value} {n:Nat} {vals:List Value} (h:w.ownsRow 0 e K S n vals):∀ b,cM_ S b≠0→b<w.heap.size:=by
 intro b hb
 rcases h.2 with ⟨rfl,_⟩|⟨g,cap,cur,rfl,_,hg,_⟩
 · simp [cM_] at hb
 · have:g=b:=by simp only [cM_] at hb;exact Classical.byContradiction fun h=>hb (if_neg h)
   subst this
   exact (Array.getElem?_eq_some_iff.1 hg).1
theorem drow_size (w:World) (g:Nat) (A:Array Value):w.heap.size≤(w.drew.setRow g A).heap.size:=by
 have:(w.drew.setRow g A).heap.size=w.drew.heap.size:=by simp [World.setRow]
 rw [this];exact Nat.le_refl _
theorem owns1_iff {w:World} {e:TypeId} {v:Value} {n:Nat} {xs:List Value}:w.ownsRow 0 e 1 v n xs ↔
  (xs.length=n∧(v = .slice none 0 0∧n=0∨∃ g cap cur,v = .slice (some ⟨g,0,none⟩) n cap∧0≤g∧w.heap[g]?=some (.cells cur e (0,0))∧n≤cap∧cap≤maxLen∧cur.size=cap∧cur.toList.take n=xs)):=by
 unfold World.ownsRow
 simp only [Nat.mul_one]
end Go.Proofs
end
section
namespace Go.Proofs
open Go.Shelf
def Tryz.lays143_ren:Go.Shelf.Ren:=⟨fun|143=>72|219=>111|217=>136|225=>137|224=>138|267=>139|266=>174|314=>175|n=>n,fun|9=>9|3=>3|4=>4|5=>5|46=>157|146=>175|51=>174|n=>n,fun|1=>0|n=>n⟩
theorem Tryz.lays143:Go.Proofs.Lays.n143 Tryz.prog Tryz.lays143_ren:={
 mixed:=by kernel_rfl
 f143:=Tryz.func72.trans (congrArg some (by kernel_rfl))
 f217:=Tryz.func136.trans (congrArg some (by kernel_rfl))
 f219:=Tryz.func111.trans (congrArg some (by kernel_rfl))
 f224:=Tryz.func138.trans (congrArg some (by kernel_rfl))
 f225:=Tryz.func137.trans (congrArg some (by kernel_rfl))
 f266:=Tryz.func174.trans (congrArg some (by kernel_rfl))
 f267:=Tryz.func139.trans (congrArg some (by kernel_rfl))
 f314:=Tryz.func175.trans (congrArg some (by kernel_rfl))
 t3:=Tryz.underlying3
 a3:=Tryz.isAgg3
 z3:=Tryz.sizeOf3
 v3:=Tryz.zeroValue3
 t4:=Tryz.underlying4
 a4:=Tryz.isAgg4
 z4:=Tryz.sizeOf4
 v4:=Tryz.zeroValue4
 t5:=Tryz.underlying5
 a5:=Tryz.isAgg5
 z5:=Tryz.sizeOf5
 v5:=Tryz.zeroValue5
 t9:=Tryz.underlying9
 a9:=Tryz.isAgg9
 z9:=Tryz.sizeOf9
 v9:=Tryz.zeroValue9
 t46:=Tryz.underlying157
 a46:=Tryz.isAgg157
 z46:=Tryz.sizeOf157
 v46:=Tryz.zeroValue157
 t51:=Tryz.underlying174
 a51:=Tryz.isAgg174
 z51:=Tryz.sizeOf174
 v51:=Tryz.zeroValue174
 t146:=Tryz.underlying175
 a146:=Tryz.isAgg175
 z146:=Tryz.sizeOf175
 v146:=Tryz.zeroValue175
 g1:=by kernel_rfl }
open Go.RowKit Go.Sort Go.Lib in
theorem Tryz.strings_Index (s sub:ByteArray) (m:Int) (w:World) (hs:s.size<4294967281) (hm:w.cell? ⟨0,0,none⟩=some (.int .i64 m)) :
  Calls Tryz.prog 72 #[.string s,.string sub] w fun e w'=>e = .returned (.int .i64 (Lib.index s.data.toList sub.data.toList))∧w'=w:=Any.strings_Index Tryz.lays143 s sub m w hs hm
end Go.Proofs
namespace Go.Pi
open Go.Proofs
theorem strings_Index.ok (n:Nat) (_:CxOk E (cx n strings_Index.d.nt)) (_:KPar (cx n strings_Index.d.nt)):strings_Index.d.Ok E (strings_Index.F (n+1)):=fun _ _ h=>nB_ (g:=0) (fun s sep m w h1 h2=>Tryz.strings_Index s sep m w h1 h2) (.tail _ (.head _)) h
end Go.Pi
end
section
namespace Go.Proofs
open Go.Shelf
def Tryz.laysC172_ren:Go.Shelf.Ren:=⟨fun|172=>87|244=>123|245=>124|247=>144|279=>145|280=>146|281=>147|282=>148|287=>176|316=>177|171=>128|205=>178|321=>197|322=>198|243=>159|246=>183|283=>203|284=>204|285=>205|286=>206|129=>219|317=>218|318=>220|319=>221|320=>222|337=>231|338=>232|n=>n,fun|9=>9|3=>3|75=>121|76=>122|4=>4|5=>5|167=>160|37=>139|0=>0|85=>161|2=>2|168=>163|53=>177|175=>178|46=>157|210=>181|127=>198|145=>201|143=>199|21=>21|171=>205|173=>208|212=>216|51=>174|20=>20|213=>217|232=>229|233=>230|80=>166|n=>n,fun|15=>1|16=>2|17=>3|18=>6|19=>7|n=>n⟩
theorem Tryz.laysC172:Go.Proofs.LaysC.n172 Tryz.prog Tryz.laysC172_ren:={
 mixed:=by kernel_rfl
 f129:=Tryz.func219.trans (congrArg some (by kernel_rfl))
 f171:=Tryz.func128.trans (congrArg some (by kernel_rfl))
 f172:=Tryz.func87.trans (congrArg some (by kernel_rfl))
 f205:=Tryz.func178.trans (congrArg some (by kernel_rfl))
 f243:=Tryz.func159.trans (congrArg some (by kernel_rfl))
 f244:=Tryz.func123.trans (congrArg some (by kernel_rfl))
 f245:=Tryz.func124.trans (congrArg some (by kernel_rfl))
 f246:=Tryz.func183.trans (congrArg some (by kernel_rfl))
 f247:=Tryz.func144.trans (congrArg some (by kernel_rfl))
 f279:=Tryz.func145.trans (congrArg some (by kernel_rfl))
 f280:=Tryz.func146.trans (congrArg some (by kernel_rfl))
 f281:=Tryz.func147.trans (congrArg some (by kernel_rfl))
 f282:=Tryz.func148.trans (congrArg some (by kernel_rfl))
 f283:=Tryz.func203.trans (congrArg some (by kernel_rfl))
 f284:=Tryz.func204.trans (congrArg some (by kernel_rfl))
 f285:=Tryz.func205.trans (congrArg some (by kernel_rfl))
 f286:=Tryz.func206.trans (congrArg some (by kernel_rfl))
 f287:=Tryz.func176.trans (congrArg some (by kernel_rfl))
 f316:=Tryz.func177.trans (congrArg some (by kernel_rfl))
 f317:=Tryz.func218.trans (congrArg some (by kernel_rfl))
 f318:=Tryz.func220.trans (congrArg some (by kernel_rfl))
 f319:=Tryz.func221.trans (congrArg some (by kernel_rfl))
 f320:=Tryz.func222.trans (congrArg some (by kernel_rfl))
 f321:=Tryz.func197.trans (congrArg some (by kernel_rfl))
 f322:=Tryz.func198.trans (congrArg some (by kernel_rfl))
 f337:=Tryz.func231.trans (congrArg some (by kernel_rfl))
 f338:=Tryz.func232.trans (congrArg some (by kernel_rfl))
 t0:=Tryz.underlying0
 a0:=Tryz.isAgg0
 z0:=Tryz.sizeOf0
 v0:=Tryz.zeroValue0
 t2:=Tryz.underlying2
 a2:=Tryz.isAgg2
 z2:=Tryz.sizeOf2
 v2:=Tryz.zeroValue2
 t3:=Tryz.underlying3
 a3:=Tryz.isAgg3
 z3:=Tryz.sizeOf3
 v3:=Tryz.zeroValue3
 t4:=Tryz.underlying4
 a4:=Tryz.isAgg4
 z4:=Tryz.sizeOf4
 v4:=Tryz.zeroValue4
 t5:=Tryz.underlying5
 a5:=Tryz.isAgg5
 z5:=Tryz.sizeOf5
 v5:=Tryz.zeroValue5
 t9:=Tryz.underlying9
 a9:=Tryz.isAgg9
 z9:=Tryz.sizeOf9
 v9:=Tryz.zeroValue9
 t20:=Tryz.underlying20
 a20:=Tryz.isAgg20
 z20:=Tryz.sizeOf20
 v20:=Tryz.zeroValue20
 t21:=Tryz.underlying21
 a21:=Tryz.isAgg21
 z21:=Tryz.sizeOf21
 v21:=Tryz.zeroValue21
 t37:=Tryz.underlying139
 a37:=Tryz.isAgg139
 z37:=Tryz.sizeOf139
 v37:=Tryz.zeroValue139
 t46:=Tryz.underlying157
 a46:=Tryz.isAgg157
 z46:=Tryz.sizeOf157
 v46:=Tryz.zeroValue157
 t51:=Tryz.underlying174
 a51:=Tryz.isAgg174
 z51:=Tryz.sizeOf174
 v51:=Tryz.zeroValue174
 t53:=Tryz.underlying177
 a53:=Tryz.isAgg177
 z53:=Tryz.sizeOf177
 v53:=Tryz.zeroValue177
 t75:=Tryz.underlying121
 a75:=Tryz.isAgg121
 z75:=Tryz.sizeOf121
 v75:=Tryz.zeroValue121
 t76:=Tryz.underlying122
 a76:=Tryz.isAgg122
 z76:=Tryz.sizeOf122
 v76:=Tryz.zeroValue122
 t85:=Tryz.underlying161
 a85:=Tryz.isAgg161
 z85:=Tryz.sizeOf161
 v85:=Tryz.zeroValue161
 t127:=Tryz.underlying198
 a127:=Tryz.isAgg198
 z127:=Tryz.sizeOf198
 v127:=Tryz.zeroValue198
 t143:=Tryz.underlying199
 a143:=Tryz.isAgg199
 z143:=Tryz.sizeOf199
 v143:=Tryz.zeroValue199
 t145:=Tryz.underlying201
 a145:=Tryz.isAgg201
 z145:=Tryz.sizeOf201
 v145:=Tryz.zeroValue201
 t167:=Tryz.underlying160
 a167:=Tryz.isAgg160
 z167:=Tryz.sizeOf160
 v167:=Tryz.zeroValue160
 t168:=Tryz.underlying163
 a168:=Tryz.isAgg163
 z168:=Tryz.sizeOf163
 v168:=Tryz.zeroValue163
 t171:=Tryz.underlying205
 a171:=Tryz.isAgg205
 z171:=Tryz.sizeOf205
 v171:=Tryz.zeroValue205
 t173:=Tryz.underlying208
 a173:=Tryz.isAgg208
 z173:=Tryz.sizeOf208
 v173:=Tryz.zeroValue208
 t175:=Tryz.underlying178
 a175:=Tryz.isAgg178
 z175:=Tryz.sizeOf178
 v175:=Tryz.zeroValue178
 t210:=Tryz.underlying181
 a210:=Tryz.isAgg181
 z210:=Tryz.sizeOf181
 v210:=Tryz.zeroValue181
 t212:=Tryz.underlying216
 a212:=Tryz.isAgg216
 z212:=Tryz.sizeOf216
 v212:=Tryz.zeroValue216
 t213:=Tryz.underlying217
 a213:=Tryz.isAgg217
 z213:=Tryz.sizeOf217
 t232:=Tryz.underlying229
 a232:=Tryz.isAgg229
 z232:=Tryz.sizeOf229
 v232:=Tryz.zeroValue229
 t233:=Tryz.underlying230
 a233:=Tryz.isAgg230
 z233:=Tryz.sizeOf230
 v233:=Tryz.zeroValue230
 g15:=by kernel_rfl
 g16:=by kernel_rfl
 g17:=by kernel_rfl
 g18:=by kernel_rfl
 g19:=by kernel_rfl
 t80:=Tryz.underlying166
 a80:=Tryz.isAgg166
 z80:=Tryz.sizeOf166
 v80:=Tryz.zeroValue166
 i0:=by kernel_rfl
 i2:=by kernel_rfl
 i3:=by kernel_rfl
 i4:=by kernel_rfl
 i5:=by kernel_rfl
 i9:=by kernel_rfl
 i20:=by kernel_rfl
 i21:=by kernel_rfl
 i37:=by kernel_rfl
 i46:=by kernel_rfl
 i51:=by kernel_rfl
 i53:=by kernel_rfl
 i75:=by kernel_rfl
 i76:=by kernel_rfl
 i80:=by kernel_rfl
 i85:=by kernel_rfl
 i127:=by kernel_rfl
 i143:=by kernel_rfl
 i145:=by kernel_rfl
 i167:=by kernel_rfl
 i168:=by kernel_rfl
 i171:=by kernel_rfl
 i173:=by kernel_rfl
 i175:=by kernel_rfl
 i210:=by kernel_rfl
 i212:=by kernel_rfl
 i232:=by kernel_rfl
 i233:=by kernel_rfl
 m15:=by kernel_rfl
 m16:=by kernel_rfl
 m17:=by kernel_rfl
 m18:=by kernel_rfl
 m19:=by kernel_rfl
 c0:=by kernel_rfl
 c2:=by kernel_rfl
 c3:=by kernel_rfl
 c4:=by kernel_rfl
 c5:=by kernel_rfl
 c9:=by kernel_rfl
 c20:=by kernel_rfl
 c21:=by kernel_rfl
 c37:=by kernel_rfl
 c46:=by kernel_rfl
 c51:=by kernel_rfl
 c53:=by kernel_rfl
 c75:=by kernel_rfl
 c76:=by kernel_rfl
 c80:=by kernel_rfl
 c85:=by kernel_rfl
 c127:=by kernel_rfl
 c143:=by kernel_rfl
 c145:=by kernel_rfl
 c167:=by kernel_rfl
 c168:=by kernel_rfl
 c171:=by kernel_rfl
 c173:=by kernel_rfl
 c175:=by kernel_rfl
 c210:=by kernel_rfl
 c212:=by kernel_rfl
 c213:=by kernel_rfl
 c232:=by kernel_rfl
 c233:=by kernel_rfl }
end Go.Proofs
namespace Go.Pi
open Go.Proofs
theorem atoiM:AtoiM E.P 87 1 2 5:=⟨fun s v w h1 h2=>Any.strconv_Atoi_ok Tryz.laysC172 s h1 v h2 w,fun s ev w h1 h2 h3 h4=>by
 cases ha:Lib.atoiAll s.data.toList
 · rename_i v;exact absurd ha (h2.1 v)
 · exact (Any.strconv_Atoi_syntax Tryz.laysC172 s h1 ha ev w h3 h4).mono fun e w' ⟨N,he,_,_,hb⟩=>⟨⟨_,_,he⟩,hb⟩
 · exact absurd ha h2.2,fun s ev w h1 h2 h3 h4=>(Any.strconv_Atoi_range Tryz.laysC172 s h1 h2 ev w h3 h4).mono fun e w' ⟨N,he,_,_,hb⟩=>⟨⟨_,_,he⟩,hb⟩⟩
end Go.Pi
namespace Go.Pi
open Go.Proofs
theorem bU_.ok (n:Nat) (_:CxOk E (cx n bU_.d.nt)) (_:KPar (cx n bU_.d.nt)):bU_.d.Ok E (bU_.F (n+1)):=fun _ _ h=>nAtoi_ok atoiM (.tail _ (.tail _ (.head _))) (.tail _ (.tail _ (.tail _ (.head _)))) h
end Go.Pi
end
section
namespace Go.Proofs
open Go.Shelf
def Tryz.lays219_ren:Go.Shelf.Ren:=⟨fun|219=>111|217=>136|225=>137|224=>138|267=>139|266=>174|314=>175|n=>n,fun|9=>9|3=>3|4=>4|5=>5|46=>157|146=>175|51=>174|n=>n,fun|1=>0|n=>n⟩
theorem Tryz.lays219:Go.Proofs.Lays.n219 Tryz.prog Tryz.lays219_ren:={
 mixed:=by kernel_rfl
 f217:=Tryz.func136.trans (congrArg some (by kernel_rfl))
 f219:=Tryz.func111.trans (congrArg some (by kernel_rfl))
 f224:=Tryz.func138.trans (congrArg some (by kernel_rfl))
 f225:=Tryz.func137.trans (congrArg some (by kernel_rfl))
 f266:=Tryz.func174.trans (congrArg some (by kernel_rfl))
 f267:=Tryz.func139.trans (congrArg some (by kernel_rfl))
 f314:=Tryz.func175.trans (congrArg some (by kernel_rfl))
 t3:=Tryz.underlying3
 a3:=Tryz.isAgg3
 z3:=Tryz.sizeOf3
 v3:=Tryz.zeroValue3
 t4:=Tryz.underlying4
 a4:=Tryz.isAgg4
 z4:=Tryz.sizeOf4
 v4:=Tryz.zeroValue4
 t5:=Tryz.underlying5
 a5:=Tryz.isAgg5
 z5:=Tryz.sizeOf5
 v5:=Tryz.zeroValue5
 t9:=Tryz.underlying9
 a9:=Tryz.isAgg9
 z9:=Tryz.sizeOf9
 v9:=Tryz.zeroValue9
 t46:=Tryz.underlying157
 a46:=Tryz.isAgg157
 z46:=Tryz.sizeOf157
 v46:=Tryz.zeroValue157
 t51:=Tryz.underlying174
 a51:=Tryz.isAgg174
 z51:=Tryz.sizeOf174
 v51:=Tryz.zeroValue174
 t146:=Tryz.underlying175
 a146:=Tryz.isAgg175
 z146:=Tryz.sizeOf175
 v146:=Tryz.zeroValue175
 g1:=by kernel_rfl }
open Go.RowKit Go.Sort Go.Lib in
theorem Tryz.stringslite_Index_one (s:ByteArray) (c:UInt8) (w:World) :
  Calls Tryz.prog 111 #[.string s,.string ⟨#[c]⟩] w fun e w'=>e = .returned (.int .i64 (Lib.indexByte s.data.toList c))∧w'=w:=Any.stringslite_Index_one Tryz.lays219 s c w
end Go.Proofs
namespace Go.Pi
open Go.Proofs
theorem ba_.ok (n:Nat) (_:CxOk E (cx n ba_.d.nt)) (_:KPar (cx n ba_.d.nt)):ba_.d.Ok E (ba_.F (n+1)):=fun _ _ h=>nIndex_ok (fun s c w=>Tryz.stringslite_Index_one s c w) h
end Go.Pi
end
section
namespace Go.Proofs
open Go.Shelf
def Tryz.laysM171_ren:Go.Shelf.Ren:=⟨fun|171=>128|243=>159|246=>183|283=>203|284=>204|285=>205|286=>206|129=>219|317=>218|318=>220|319=>221|320=>222|337=>231|338=>232|n=>n,fun|3=>3|9=>9|2=>2|4=>4|171=>205|0=>0|53=>177|37=>139|5=>5|173=>208|212=>216|51=>174|20=>20|213=>217|46=>157|232=>229|233=>230|n=>n,fun|17=>3|18=>6|19=>7|n=>n⟩
theorem Tryz.laysM171:Go.Proofs.LaysM.n171 Tryz.prog Tryz.laysM171_ren:={
 mixed:=by kernel_rfl
 f129:=Tryz.func219.trans (congrArg some (by kernel_rfl))
 f171:=Tryz.func128.trans (congrArg some (by kernel_rfl))
 f243:=Tryz.func159.trans (congrArg some (by kernel_rfl))
 f246:=Tryz.func183.trans (congrArg some (by kernel_rfl))
 f283:=Tryz.func203.trans (congrArg some (by kernel_rfl))
 f284:=Tryz.func204.trans (congrArg some (by kernel_rfl))
 f285:=Tryz.func205.trans (congrArg some (by kernel_rfl))
 f286:=Tryz.func206.trans (congrArg some (by kernel_rfl))
 f317:=Tryz.func218.trans (congrArg some (by kernel_rfl))
 f318:=Tryz.func220.trans (congrArg some (by kernel_rfl))
 f319:=Tryz.func221.trans (congrArg some (by kernel_rfl))
 f320:=Tryz.func222.trans (congrArg some (by kernel_rfl))
 f337:=Tryz.func231.trans (congrArg some (by kernel_rfl))
 f338:=Tryz.func232.trans (congrArg some (by kernel_rfl))
 t0:=Tryz.underlying0
 a0:=Tryz.isAgg0
 z0:=Tryz.sizeOf0
 v0:=Tryz.zeroValue0
 t2:=Tryz.underlying2
 a2:=Tryz.isAgg2
 z2:=Tryz.sizeOf2
 v2:=Tryz.zeroValue2
 t3:=Tryz.underlying3
 a3:=Tryz.isAgg3
 z3:=Tryz.sizeOf3
 v3:=Tryz.zeroValue3
 t4:=Tryz.underlying4
 a4:=Tryz.isAgg4
 z4:=Tryz.sizeOf4
 v4:=Tryz.zeroValue4
 t5:=Tryz.underlying5
 a5:=Tryz.isAgg5
 z5:=Tryz.sizeOf5
 v5:=Tryz.zeroValue5
 t9:=Tryz.underlying9
 a9:=Tryz.isAgg9
 z9:=Tryz.sizeOf9
 v9:=Tryz.zeroValue9
 t20:=Tryz.underlying20
 a20:=Tryz.isAgg20
 z20:=Tryz.sizeOf20
 v20:=Tryz.zeroValue20
 t37:=Tryz.underlying139
 a37:=Tryz.isAgg139
 z37:=Tryz.sizeOf139
 v37:=Tryz.zeroValue139
 t46:=Tryz.underlying157
 a46:=Tryz.isAgg157
 z46:=Tryz.sizeOf157
 v46:=Tryz.zeroValue157
 t51:=Tryz.underlying174
 a51:=Tryz.isAgg174
 z51:=Tryz.sizeOf174
 v51:=Tryz.zeroValue174
 t53:=Tryz.underlying177
 a53:=Tryz.isAgg177
 z53:=Tryz.sizeOf177
 v53:=Tryz.zeroValue177
 t171:=Tryz.underlying205
 a171:=Tryz.isAgg205
 z171:=Tryz.sizeOf205
 v171:=Tryz.zeroValue205
 t173:=Tryz.underlying208
 a173:=Tryz.isAgg208
 z173:=Tryz.sizeOf208
 v173:=Tryz.zeroValue208
 t212:=Tryz.underlying216
 a212:=Tryz.isAgg216
 z212:=Tryz.sizeOf216
 v212:=Tryz.zeroValue216
 t213:=Tryz.underlying217
 a213:=Tryz.isAgg217
 z213:=Tryz.sizeOf217
 t232:=Tryz.underlying229
 a232:=Tryz.isAgg229
 z232:=Tryz.sizeOf229
 v232:=Tryz.zeroValue229
 t233:=Tryz.underlying230
 a233:=Tryz.isAgg230
 z233:=Tryz.sizeOf230
 v233:=Tryz.zeroValue230
 g17:=by kernel_rfl
 g18:=by kernel_rfl
 g19:=by kernel_rfl
 i0:=by kernel_rfl
 i2:=by kernel_rfl
 i3:=by kernel_rfl
 i4:=by kernel_rfl
 i5:=by kernel_rfl
 i9:=by kernel_rfl
 i20:=by kernel_rfl
 i37:=by kernel_rfl
 i46:=by kernel_rfl
 i51:=by kernel_rfl
 i53:=by kernel_rfl
 i171:=by kernel_rfl
 i173:=by kernel_rfl
 i212:=by kernel_rfl
 i232:=by kernel_rfl
 i233:=by kernel_rfl
 m17:=by kernel_rfl
 m18:=by kernel_rfl
 m19:=by kernel_rfl }
open Go.RowKit Go.Sort Go.Lib in
theorem Tryz.strconv_Itoa (n:Int) (h0 : -9223372036854775808≤n) (h1:n≤9223372036854775807) (w:World) (htab:Lib.TabIs Tryz.prog w "internal/strconv.uint64pow10" .u64 Lib.pow10Tab) :
  Calls Tryz.prog 128 #[.int .i64 n] w fun e w'=>e = .returned (.string ⟨(Lib.itoa n).toArray⟩)∧∃ k os,w'=grow (w.drewN k) os:=Any.strconv_Itoa Tryz.laysM171 n h0 h1 w htab
end Go.Proofs
namespace Go.Pi
open Go.Proofs
theorem iI_:E.P.globalNamed "internal/strconv.uint64pow10" = some 3:=by kernel_rfl
theorem strconv_Itoa.ok (n:Nat) (_:CxOk E (cx n strconv_Itoa.d.nt)) (_:KPar (cx n strconv_Itoa.d.nt)):strconv_Itoa.d.Ok E (strconv_Itoa.F (n+1)):=fun _ _ h=>nItoa_ok (fun n h0 h1 w ht=>Tryz.strconv_Itoa n h0 h1 w ht) (.head _) iI_ h
end Go.Pi
end
section
namespace Go.Proofs
open Go.Shelf
def Tryz.lays156_ren:Go.Shelf.Ren:=⟨fun|156=>161|165=>184|166=>185|169=>186|240=>207|241=>208|276=>223|277=>224|n=>n,fun|31=>23|9=>9|3=>3|4=>4|0=>0|20=>20|72=>189|76=>122|70=>187|37=>139|75=>121|127=>198|164=>219|5=>5|80=>166|n=>n,fun|n=>n⟩
theorem Tryz.lays156:Go.Proofs.Lays.n156 Tryz.prog Tryz.lays156_ren:={
 mixed:=by kernel_rfl
 f156:=Tryz.func161.trans (congrArg some (by kernel_rfl))
 f165:=Tryz.func184.trans (congrArg some (by kernel_rfl))
 f166:=Tryz.func185.trans (congrArg some (by kernel_rfl))
 f169:=Tryz.func186.trans (congrArg some (by kernel_rfl))
 f240:=Tryz.func207.trans (congrArg some (by kernel_rfl))
 f241:=Tryz.func208.trans (congrArg some (by kernel_rfl))
 f276:=Tryz.func223.trans (congrArg some (by kernel_rfl))
 f277:=Tryz.func224.trans (congrArg some (by kernel_rfl))
 t0:=Tryz.underlying0
 a0:=Tryz.isAgg0
 z0:=Tryz.sizeOf0
 v0:=Tryz.zeroValue0
 t3:=Tryz.underlying3
 a3:=Tryz.isAgg3
 z3:=Tryz.sizeOf3
 v3:=Tryz.zeroValue3
 t4:=Tryz.underlying4
 a4:=Tryz.isAgg4
 z4:=Tryz.sizeOf4
 v4:=Tryz.zeroValue4
 t9:=Tryz.underlying9
 a9:=Tryz.isAgg9
 z9:=Tryz.sizeOf9
 v9:=Tryz.zeroValue9
 t20:=Tryz.underlying20
 a20:=Tryz.isAgg20
 z20:=Tryz.sizeOf20
 v20:=Tryz.zeroValue20
 t31:=Tryz.underlying23
 a31:=Tryz.isAgg23
 z31:=Tryz.sizeOf23
 v31:=Tryz.zeroValue23
 t37:=Tryz.underlying139
 a37:=Tryz.isAgg139
 z37:=Tryz.sizeOf139
 v37:=Tryz.zeroValue139
 t70:=Tryz.underlying187
 a70:=Tryz.isAgg187
 z70:=Tryz.sizeOf187
 v70:=Tryz.zeroValue187
 t72:=Tryz.underlying189
 a72:=Tryz.isAgg189
 z72:=Tryz.sizeOf189
 v72:=Tryz.zeroValue189
 t75:=Tryz.underlying121
 a75:=Tryz.isAgg121
 z75:=Tryz.sizeOf121
 v75:=Tryz.zeroValue121
 t76:=Tryz.underlying122
 a76:=Tryz.isAgg122
 z76:=Tryz.sizeOf122
 v76:=Tryz.zeroValue122
 t127:=Tryz.underlying198
 a127:=Tryz.isAgg198
 z127:=Tryz.sizeOf198
 v127:=Tryz.zeroValue198
 t164:=Tryz.underlying219
 a164:=Tryz.isAgg219
 z164:=Tryz.sizeOf219
 v164:=Tryz.zeroValue219 }
theorem Tryz.Builder_Extra_156:Builder.Extra Tryz.prog Tryz.lays156_ren:={
 sizeBuilder:=by kernel_rfl
 liesBuilder:=by kernel_rfl
 t5:=Tryz.underlying5
 a5:=Tryz.isAgg5
 z5:=Tryz.sizeOf5
 v5:=Tryz.zeroValue5
 infoByte:=by kernel_rfl
 cellsByte:=by kernel_rfl
 sizeByte:=by kernel_rfl
 neB5:=by decide }
open Go.RowKit Go.Sort Go.Lib in
theorem Tryz.strings_Join_none (a:Option Addr) (c:Nat) (sep:ByteArray) (w:World) :
  Calls Tryz.prog 161 #[.slice a 0 c,.string sep] w fun e w'=>e = .returned (.string ⟨#[]⟩)∧w'=w:=Any.strings_Join_none Tryz.lays156 Tryz.Builder_Extra_156 a c sep w
open Go.RowKit Go.Sort Go.Lib in
theorem Tryz.strings_Join (bk o c:Nat) (xs:List ByteArray) (sep:ByteArray) (w:World) (hcells:∀ (j:Nat) x,xs[j]?=some x→w.cell? ⟨bk,o+j,none⟩=some (.string x)) (hbk:bk<w.heap.size) (hN:xs.length≤140737488355328) (hcap:xs.length≤c) (hlen:(Lib.join (xs.map (·.data.toList)) sep.data.toList).length≤140737488355328) :
  Calls Tryz.prog 161 #[.slice (some ⟨bk,o,none⟩) xs.length c,.string sep] w fun e w'=>e = .returned (.string ⟨(Lib.join (xs.map (·.data.toList)) sep.data.toList).toArray⟩)∧Below w.heap.size w w':=Any.strings_Join Tryz.lays156 Tryz.Builder_Extra_156 bk o c xs sep w hcells hbk hN hcap hlen
end Go.Proofs
namespace Go.Pi
open Go.Proofs
theorem strings_Join.ok (n:Nat) (_:CxOk E (cx n strings_Join.d.nt)) (_:KPar (cx n strings_Join.d.nt)):strings_Join.d.Ok E (strings_Join.F (n+1)):=fun _ _ h=>nJoin_ok ⟨fun a c sep w=>Tryz.strings_Join_none a c sep w,fun bk o c xs sep w h1 h2 h3 h4 h5=>Tryz.strings_Join bk o c xs sep w h1 h2 h3 h4 h5⟩ (fun _=>rfl) h
end Go.Pi
end
section
namespace Go.Proofs
open Go.Shelf
def Tryz.lays146_ren:Go.Shelf.Ren:=⟨fun|146=>180|221=>199|268=>215|138=>216|143=>72|195=>228|197=>217|218=>229|219=>111|260=>230|217=>136|225=>137|224=>138|267=>139|266=>174|314=>175|n=>n,fun|9=>9|31=>23|3=>3|4=>4|0=>0|105=>213|21=>21|5=>5|46=>157|119=>225|139=>228|138=>227|146=>175|51=>174|n=>n,fun|1=>0|3=>4|4=>5|n=>n⟩
theorem Tryz.lays146:Go.Proofs.Lays.n146 Tryz.prog Tryz.lays146_ren:={
 mixed:=by kernel_rfl
 f138:=Tryz.func216.trans (congrArg some (by kernel_rfl))
 f143:=Tryz.func72.trans (congrArg some (by kernel_rfl))
 f146:=Tryz.func180.trans (congrArg some (by kernel_rfl))
 f195:=Tryz.func228.trans (congrArg some (by kernel_rfl))
 f197:=Tryz.func217.trans (congrArg some (by kernel_rfl))
 f217:=Tryz.func136.trans (congrArg some (by kernel_rfl))
 f218:=Tryz.func229.trans (congrArg some (by kernel_rfl))
 f219:=Tryz.func111.trans (congrArg some (by kernel_rfl))
 f221:=Tryz.func199.trans (congrArg some (by kernel_rfl))
 f224:=Tryz.func138.trans (congrArg some (by kernel_rfl))
 f225:=Tryz.func137.trans (congrArg some (by kernel_rfl))
 f260:=Tryz.func230.trans (congrArg some (by kernel_rfl))
 f266:=Tryz.func174.trans (congrArg some (by kernel_rfl))
 f267:=Tryz.func139.trans (congrArg some (by kernel_rfl))
 f268:=Tryz.func215.trans (congrArg some (by kernel_rfl))
 f314:=Tryz.func175.trans (congrArg some (by kernel_rfl))
 t0:=Tryz.underlying0
 a0:=Tryz.isAgg0
 z0:=Tryz.sizeOf0
 v0:=Tryz.zeroValue0
 t3:=Tryz.underlying3
 a3:=Tryz.isAgg3
 z3:=Tryz.sizeOf3
 v3:=Tryz.zeroValue3
 t4:=Tryz.underlying4
 a4:=Tryz.isAgg4
 z4:=Tryz.sizeOf4
 v4:=Tryz.zeroValue4
 t5:=Tryz.underlying5
 a5:=Tryz.isAgg5
 z5:=Tryz.sizeOf5
 v5:=Tryz.zeroValue5
 t9:=Tryz.underlying9
 a9:=Tryz.isAgg9
 z9:=Tryz.sizeOf9
 v9:=Tryz.zeroValue9
 t21:=Tryz.underlying21
 a21:=Tryz.isAgg21
 z21:=Tryz.sizeOf21
 v21:=Tryz.zeroValue21
 t31:=Tryz.underlying23
 a31:=Tryz.isAgg23
 z31:=Tryz.sizeOf23
 v31:=Tryz.zeroValue23
 t46:=Tryz.underlying157
 a46:=Tryz.isAgg157
 z46:=Tryz.sizeOf157
 v46:=Tryz.zeroValue157
 t51:=Tryz.underlying174
 a51:=Tryz.isAgg174
 z51:=Tryz.sizeOf174
 v51:=Tryz.zeroValue174
 t105:=Tryz.underlying213
 a105:=Tryz.isAgg213
 z105:=Tryz.sizeOf213
 v105:=Tryz.zeroValue213
 t119:=Tryz.underlying225
 a119:=Tryz.isAgg225
 z119:=Tryz.sizeOf225
 t138:=Tryz.underlying227
 a138:=Tryz.isAgg227
 z138:=Tryz.sizeOf227
 v138:=Tryz.zeroValue227
 t139:=Tryz.underlying228
 a139:=Tryz.isAgg228
 z139:=Tryz.sizeOf228
 v139:=Tryz.zeroValue228
 t146:=Tryz.underlying175
 a146:=Tryz.isAgg175
 z146:=Tryz.sizeOf175
 v146:=Tryz.zeroValue175
 g1:=by kernel_rfl
 g3:=by kernel_rfl
 g4:=by kernel_rfl }
open Go.RowKit Go.Sort Go.Lib in
theorem Tryz.strings_Split (s sep:ByteArray) (m:Int) (w:World) (hs:s.size<4294967281) (hm:w.cell? ⟨0,0,none⟩=some (.int .i64 m)) (h1:1≤sep.size) :
  Calls Tryz.prog 180 #[.string s,.string sep] w fun e w'=>
   e = .returned (.slice (some ⟨w.heap.size,0,none⟩) (Lib.countB s sep+1) (Lib.countB s sep+1))∧w'=w.alloc (.cells ((Lib.splitB sep 0 (Lib.countB s sep) s).map Value.string).toArray 9):=Any.strings_Split Tryz.lays146 (by kernel_rfl) s sep m w hs hm h1
end Go.Proofs
namespace Go.Pi
open Go.Proofs
theorem strings_Split.ok (n:Nat) (_:CxOk E (cx n strings_Split.d.nt)) (_:KPar (cx n strings_Split.d.nt)):strings_Split.d.Ok E (strings_Split.F (n+1)):=fun _ _ h=>nSplit_ok (g:=0) (T:=9) (fun s sep m w h1 h2 h3=>Tryz.strings_Split s sep m w h1 h2 h3) (.tail _ (.head _)) rfl (fun _ _=>rfl) rfl h
end Go.Pi
end
section
namespace Go.Proofs
open Go.Shelf
def Tryz.lays155_ren:Go.Shelf.Ren:=⟨fun|155=>181|154=>200|138=>216|165=>184|143=>72|166=>185|197=>217|169=>186|195=>228|218=>229|240=>207|241=>208|219=>111|260=>230|276=>223|277=>224|217=>136|225=>137|224=>138|267=>139|266=>174|314=>175|n=>n,fun|9=>9|3=>3|4=>4|72=>189|0=>0|76=>122|105=>213|21=>21|5=>5|70=>187|20=>20|37=>139|75=>121|127=>198|164=>219|46=>157|119=>225|139=>228|138=>227|146=>175|51=>174|80=>166|n=>n,fun|1=>0|3=>4|4=>5|n=>n⟩
theorem Tryz.lays155:Go.Proofs.Lays.n155 Tryz.prog Tryz.lays155_ren:={
 mixed:=by kernel_rfl
 f138:=Tryz.func216.trans (congrArg some (by kernel_rfl))
 f143:=Tryz.func72.trans (congrArg some (by kernel_rfl))
 f154:=Tryz.func200.trans (congrArg some (by kernel_rfl))
 f155:=Tryz.func181.trans (congrArg some (by kernel_rfl))
 f165:=Tryz.func184.trans (congrArg some (by kernel_rfl))
 f166:=Tryz.func185.trans (congrArg some (by kernel_rfl))
 f169:=Tryz.func186.trans (congrArg some (by kernel_rfl))
 f195:=Tryz.func228.trans (congrArg some (by kernel_rfl))
 f197:=Tryz.func217.trans (congrArg some (by kernel_rfl))
 f217:=Tryz.func136.trans (congrArg some (by kernel_rfl))
 f218:=Tryz.func229.trans (congrArg some (by kernel_rfl))
 f219:=Tryz.func111.trans (congrArg some (by kernel_rfl))
 f224:=Tryz.func138.trans (congrArg some (by kernel_rfl))
 f225:=Tryz.func137.trans (congrArg some (by kernel_rfl))
 f240:=Tryz.func207.trans (congrArg some (by kernel_rfl))
 f241:=Tryz.func208.trans (congrArg some (by kernel_rfl))
 f260:=Tryz.func230.trans (congrArg some (by kernel_rfl))
 f266:=Tryz.func174.trans (congrArg some (by kernel_rfl))
 f267:=Tryz.func139.trans (congrArg some (by kernel_rfl))
 f276:=Tryz.func223.trans (congrArg some (by kernel_rfl))
 f277:=Tryz.func224.trans (congrArg some (by kernel_rfl))
 f314:=Tryz.func175.trans (congrArg some (by kernel_rfl))
 t0:=Tryz.underlying0
 a0:=Tryz.isAgg0
 z0:=Tryz.sizeOf0
 v0:=Tryz.zeroValue0
 t3:=Tryz.underlying3
 a3:=Tryz.isAgg3
 z3:=Tryz.sizeOf3
 v3:=Tryz.zeroValue3
 t4:=Tryz.underlying4
 a4:=Tryz.isAgg4
 z4:=Tryz.sizeOf4
 v4:=Tryz.zeroValue4
 t5:=Tryz.underlying5
 a5:=Tryz.isAgg5
 z5:=Tryz.sizeOf5
 v5:=Tryz.zeroValue5
 t9:=Tryz.underlying9
 a9:=Tryz.isAgg9
 z9:=Tryz.sizeOf9
 v9:=Tryz.zeroValue9
 t20:=Tryz.underlying20
 a20:=Tryz.isAgg20
 z20:=Tryz.sizeOf20
 v20:=Tryz.zeroValue20
 t21:=Tryz.underlying21
 a21:=Tryz.isAgg21
 z21:=Tryz.sizeOf21
 v21:=Tryz.zeroValue21
 t37:=Tryz.underlying139
 a37:=Tryz.isAgg139
 z37:=Tryz.sizeOf139
 v37:=Tryz.zeroValue139
 t46:=Tryz.underlying157
 a46:=Tryz.isAgg157
 z46:=Tryz.sizeOf157
 v46:=Tryz.zeroValue157
 t51:=Tryz.underlying174
 a51:=Tryz.isAgg174
 z51:=Tryz.sizeOf174
 v51:=Tryz.zeroValue174
 t70:=Tryz.underlying187
 a70:=Tryz.isAgg187
 z70:=Tryz.sizeOf187
 v70:=Tryz.zeroValue187
 t72:=Tryz.underlying189
 a72:=Tryz.isAgg189
 z72:=Tryz.sizeOf189
 v72:=Tryz.zeroValue189
 t75:=Tryz.underlying121
 a75:=Tryz.isAgg121
 z75:=Tryz.sizeOf121
 v75:=Tryz.zeroValue121
 t76:=Tryz.underlying122
 a76:=Tryz.isAgg122
 z76:=Tryz.sizeOf122
 v76:=Tryz.zeroValue122
 t105:=Tryz.underlying213
 a105:=Tryz.isAgg213
 z105:=Tryz.sizeOf213
 v105:=Tryz.zeroValue213
 t119:=Tryz.underlying225
 a119:=Tryz.isAgg225
 z119:=Tryz.sizeOf225
 t127:=Tryz.underlying198
 a127:=Tryz.isAgg198
 z127:=Tryz.sizeOf198
 v127:=Tryz.zeroValue198
 t138:=Tryz.underlying227
 a138:=Tryz.isAgg227
 z138:=Tryz.sizeOf227
 v138:=Tryz.zeroValue227
 t139:=Tryz.underlying228
 a139:=Tryz.isAgg228
 z139:=Tryz.sizeOf228
 v139:=Tryz.zeroValue228
 t146:=Tryz.underlying175
 a146:=Tryz.isAgg175
 z146:=Tryz.sizeOf175
 v146:=Tryz.zeroValue175
 t164:=Tryz.underlying219
 a164:=Tryz.isAgg219
 z164:=Tryz.sizeOf219
 v164:=Tryz.zeroValue219
 g1:=by kernel_rfl
 g3:=by kernel_rfl
 g4:=by kernel_rfl }
theorem Tryz.Builder_Extra_155:Builder.Extra Tryz.prog Tryz.lays155_ren:={
 sizeBuilder:=by kernel_rfl
 liesBuilder:=by kernel_rfl
 t5:=Tryz.underlying5
 a5:=Tryz.isAgg5
 z5:=Tryz.sizeOf5
 v5:=Tryz.zeroValue5
 infoByte:=by kernel_rfl
 cellsByte:=by kernel_rfl
 sizeByte:=by kernel_rfl
 neB5:=by decide }
open Go.RowKit Go.Sort Go.Lib in
theorem Tryz.strings_ReplaceAll (s old new:ByteArray) (m:Int) (w:World) (hs:s.size<4294967281) (hm:w.cell? ⟨0,0,none⟩=some (.int .i64 m)) (h1:1≤old.size) (hlen:s.size+Lib.countB s old*new.size≤140737488355328) :
  Calls Tryz.prog 181 #[.string s,.string old,.string new] w fun e w'=>
   e = .returned (.string ⟨(Lib.replaceAll s.data.toList old.data.toList new.data.toList).toArray⟩)∧Below w.heap.size w w':=Any.strings_ReplaceAll Tryz.lays155 Tryz.Builder_Extra_155 s old new m w hs hm h1 hlen
end Go.Proofs
namespace Go.Pi
open Go.Proofs
theorem strings_ReplaceAll.ok (n:Nat) (_:CxOk E (cx n strings_ReplaceAll.d.nt)) (_:KPar (cx n strings_ReplaceAll.d.nt)):strings_ReplaceAll.d.Ok E (strings_ReplaceAll.F (n+1)):=fun _ _ h=>nRepl_ok (g:=0) (fun s old new m w h1 h2 h3 h4=>Tryz.strings_ReplaceAll s old new m w h1 h2 h3 h4) (.tail _ (.head _)) h
end Go.Pi
end
section
namespace Go.Pi
open Go.Proofs
theorem kpar (n nt:Nat):KPar (cx n nt):=KH_par (l:=KL n) ⟨FD.kp,FD.kp,FD.kp,FD.kp,FD.kp,FD.kp,FD.kp,FD.kp,FD.kp,FD.kp,FD.kp,FD.kp,FD.kp,FD.kp,FD.kp,FD.kp,FD.kp,FD.kp,FD.kp,FD.kp,FD.kp,FD.kp,FD.kp,FD.kp,FD.kp,FD.kp,FD.kp,FD.kp,FD.kp,FD.kp,FD.kp,FD.kp,FD.kp,FD.kp,FD.kp,FD.kp,FD.kp,FD.kp,FD.kp,FD.kp,FD.kp,FD.kp,FD.kp,FD.kp,FD.kp,FD.kp,FD.kp,FD.kp,FD.kp,FD.kp,FD.kp,FD.kp,FD.kp,FD.kp,FD.kp,FD.kp,FD.kp,FD.kp,FD.kp,FD.kp,FD.kp,FD.kp,FD.kp,FD.kp,FD.kp,FD.kp,FD.kp,FD.kp,FD.kp,FD.kp,FD.kp,FD.kp,FD.kp,FD.kp,FD.kp,FD.kp,FD.kp,FD.kp,FD.kp,FD.kp,FD.kp,FD.kp,FD.kp,FD.kp,FD.kp,FD.kp,FD.kp,FD.kp,FD.kp,FD.kp,FD.kp,FD.kp,FD.kp,FD.kp,FD.kp,FD.kp,FD.kp,FD.kp,FD.kp,FD.kp,FD.kp,FD.kp,FD.kp,FD.kp,FD.kp,FD.kp,FD.kp,FD.kp,FD.kp,FD.kp,FD.kp,FD.kp,FD.kp,FD.kp,FD.kp,FD.kp,FD.kp,FD.kp,FD.kp,FD.kp,trivial⟩
structure AllOk (n:Nat):Prop where
 h0:b5_.d.Ok E (b5_.F n)
 h1:aK_.d.Ok E (aK_.F n)
 h2:bP_.d.Ok E (bP_.F n)
 h3:aH_.d.Ok E (aH_.F n)
 h4:bf_.d.Ok E (bf_.F n)
 h5:aX_.d.Ok E (aX_.F n)
 h6:bz_.d.Ok E (bz_.F n)
 h7:bS_.d.Ok E (bS_.F n)
 h8:az_.d.Ok E (az_.F n)
 h9:aO_.d.Ok E (aO_.F n)
 h10:b7_.d.Ok E (b7_.F n)
 h11:bv_.d.Ok E (bv_.F n)
 h12:aA_.d.Ok E (aA_.F n)
 h13:aR_.d.Ok E (aR_.F n)
 h14:bk_.d.Ok E (bk_.F n)
 h15:bh_.d.Ok E (bh_.F n)
 h16:ae_.d.Ok E (ae_.F n)
 h17:cw_.d.Ok E (cw_.F n)
 h18:aJ_.d.Ok E (aJ_.F n)
 h19:bZ_.d.Ok E (bZ_.F n)
 h20:a1_.d.Ok E (a1_.F n)
 h21:aD_.d.Ok E (aD_.F n)
 h22:b4_.d.Ok E (b4_.F n)
 h23:ce_.d.Ok E (ce_.F n)
 h24:bA_.d.Ok E (bA_.F n)
 h25:be_.d.Ok E (be_.F n)
 h26:co_.d.Ok E (co_.F n)
 h27:bW_.d.Ok E (bW_.F n)
 h28:aQ_.d.Ok E (aQ_.F n)
 h29:ai_.d.Ok E (ai_.F n)
 h30:bx_.d.Ok E (bx_.F n)
 h31:au_.d.Ok E (au_.F n)
 h32:bp_.d.Ok E (bp_.F n)
 h33:ck_.d.Ok E (ck_.F n)
 h34:b1_.d.Ok E (b1_.F n)
 h35:aN_.d.Ok E (aN_.F n)
 h36:bg_.d.Ok E (bg_.F n)
 h37:b9_.d.Ok E (b9_.F n)
 h38:bL_.d.Ok E (bL_.F n)
 h39:ac_.d.Ok E (ac_.F n)
 h40:bu_.d.Ok E (bu_.F n)
 h41:bb_.d.Ok E (bb_.F n)
 h42:strings_Index.d.Ok E (strings_Index.F n)
 h43:ay_.d.Ok E (ay_.F n)
 h44:aF_.d.Ok E (aF_.F n)
 h45:bt_.d.Ok E (bt_.F n)
 h46:ba_.d.Ok E (ba_.F n)
 h47:a0_.d.Ok E (a0_.F n)
 h48:cr_.d.Ok E (cr_.F n)
 h49:aB_.d.Ok E (aB_.F n)
 h50:bq_.d.Ok E (bq_.F n)
 h51:cd_.d.Ok E (cd_.F n)
 h52:bU_.d.Ok E (bU_.F n)
 h53:a7_.d.Ok E (a7_.F n)
 h54:bw_.d.Ok E (bw_.F n)
 h55:bm_.d.Ok E (bm_.F n)
 h56:aj_.d.Ok E (aj_.F n)
 h57:af_.d.Ok E (af_.F n)
 h58:aW_.d.Ok E (aW_.F n)
 h59:ag_.d.Ok E (ag_.F n)
 h60:aM_.d.Ok E (aM_.F n)
 h61:bj_.d.Ok E (bj_.F n)
 h62:av_.d.Ok E (av_.F n)
 h63:ao_.d.Ok E (ao_.F n)
 h64:cy_.d.Ok E (cy_.F n)
 h65:a3_.d.Ok E (a3_.F n)
 h66:b0_.d.Ok E (b0_.F n)
 h67:bi_.d.Ok E (bi_.F n)
 h68:strconv_Itoa.d.Ok E (strconv_Itoa.F n)
 h69:strings_Join.d.Ok E (strings_Join.F n)
 h70:aU_.d.Ok E (aU_.F n)
 h71:b6_.d.Ok E (b6_.F n)
 h72:b8_.d.Ok E (b8_.F n)
 h73:al_.d.Ok E (al_.F n)
 h74:bM_.d.Ok E (bM_.F n)
 h75:aP_.d.Ok E (aP_.F n)
 h76:cv_.d.Ok E (cv_.F n)
 h77:strings_Split.d.Ok E (strings_Split.F n)
 h78:strings_ReplaceAll.d.Ok E (strings_ReplaceAll.F n)
 h79:a2_.d.Ok E (a2_.F n)
 h80:a8_.d.Ok E (a8_.F n)
 h81:bX_.d.Ok E (bX_.F n)
 h82:cf_.d.Ok E (cf_.F n)
 h83:by_.d.Ok E (by_.F n)
 h84:cl_.d.Ok E (cl_.F n)
 h85:cn_.d.Ok E (cn_.F n)
 h86:am_.d.Ok E (am_.F n)
 h87:ab_.d.Ok E (ab_.F n)
 h88:cp_.d.Ok E (cp_.F n)
 h89:b2_.d.Ok E (b2_.F n)
 h90:cg_.d.Ok E (cg_.F n)
 h91:bl_.d.Ok E (bl_.F n)
 h92:bY_.d.Ok E (bY_.F n)
 h93:bJ_.d.Ok E (bJ_.F n)
 h94:aZ_.d.Ok E (aZ_.F n)
 h95:bN_.d.Ok E (bN_.F n)
 h96:cb_.d.Ok E (cb_.F n)
 h97:cm_.d.Ok E (cm_.F n)
 h98:bO_.d.Ok E (bO_.F n)
 h99:bE_.d.Ok E (bE_.F n)
 h100:bs_.d.Ok E (bs_.F n)
 h101:a9_.d.Ok E (a9_.F n)
 h102:bQ_.d.Ok E (bQ_.F n)
 h103:a6_.d.Ok E (a6_.F n)
 h104:aL_.d.Ok E (aL_.F n)
 h105:bK_.d.Ok E (bK_.F n)
 h106:cJ_.d.Ok E (cJ_.F n)
 h107:br_.d.Ok E (br_.F n)
 h108:ca_.d.Ok E (ca_.F n)
 h109:aV_.d.Ok E (aV_.F n)
 h110:aG_.d.Ok E (aG_.F n)
 h111:ar_.d.Ok E (ar_.F n)
 h112:aw_.d.Ok E (aw_.F n)
 h113:a4_.d.Ok E (a4_.F n)
 h114:aE_.d.Ok E (aE_.F n)
 h115:as_.d.Ok E (as_.F n)
 h116:ax_.d.Ok E (ax_.F n)
 h117:a5_.d.Ok E (a5_.F n)
 h118:aC_.d.Ok E (aC_.F n)
 h119:laws_FnExactFeedAll.d.Ok E (laws_FnExactFeedAll.F n)
theorem kok (n nt:Nat) (a:AllOk n):KOk E (cx n nt):=KH_ok (l:=KL n) ⟨FD.kf (d:=laws_FnExactFeedAll.d) Tryz.func7 (by kernel_rfl) (by kernel_rfl) (by kernel_rfl) a.h119,FD.kf (d:=ac_.d) Tryz.func9 (by kernel_rfl) (by kernel_rfl) (by kernel_rfl) a.h39,FD.kf (d:=bE_.d) Tryz.func10 (by kernel_rfl) (by kernel_rfl) (by kernel_rfl) a.h99,FD.kf (d:=ca_.d) Tryz.func11 (by kernel_rfl) (by kernel_rfl) (by kernel_rfl) a.h108,FD.kf (d:=aV_.d) Tryz.func27 (by kernel_rfl) (by kernel_rfl) (by kernel_rfl) a.h109,FD.kf (d:=aE_.d) Tryz.func28 (by kernel_rfl) (by kernel_rfl) (by kernel_rfl) a.h114,FD.kf (d:=b5_.d) Tryz.func29 (by kernel_rfl) (by kernel_rfl) (by kernel_rfl) a.h0,FD.kf (d:=bu_.d) Tryz.func30 (by kernel_rfl) (by kernel_rfl) (by kernel_rfl) a.h40,FD.kf (d:=bP_.d) Tryz.func31 (by kernel_rfl) (by kernel_rfl) (by kernel_rfl) a.h2,FD.kf (d:=bs_.d) Tryz.func32 (by kernel_rfl) (by kernel_rfl) (by kernel_rfl) a.h100,FD.kf (d:=bQ_.d) Tryz.func33 (by kernel_rfl) (by kernel_rfl) (by kernel_rfl) a.h102,FD.kf (d:=aC_.d) Tryz.func34 (by kernel_rfl) (by kernel_rfl) (by kernel_rfl) a.h118,FD.kf (d:=aK_.d) Tryz.func35 (by kernel_rfl) (by kernel_rfl) (by kernel_rfl) a.h1,FD.kf (d:=bb_.d) Tryz.func36 (by kernel_rfl) (by kernel_rfl) (by kernel_rfl) a.h41,FD.kf (d:=aH_.d) Tryz.func37 (by kernel_rfl) (by kernel_rfl) (by kernel_rfl) a.h3,FD.kf (d:=a9_.d) Tryz.func38 (by kernel_rfl) (by kernel_rfl) (by kernel_rfl) a.h101,FD.kf (d:=aL_.d) Tryz.func39 (by kernel_rfl) (by kernel_rfl) (by kernel_rfl) a.h104,FD.kf (d:=ar_.d) Tryz.func40 (by kernel_rfl) (by kernel_rfl) (by kernel_rfl) a.h111,FD.kf (d:=aX_.d) Tryz.func43 (by kernel_rfl) (by kernel_rfl) (by kernel_rfl) a.h5,FD.kf (d:=bz_.d) Tryz.func44 (by kernel_rfl) (by kernel_rfl) (by kernel_rfl) a.h6,FD.kf (d:=b7_.d) Tryz.func45 (by kernel_rfl) (by kernel_rfl) (by kernel_rfl) a.h10,FD.kf (d:=ce_.d) Tryz.func46 (by kernel_rfl) (by kernel_rfl) (by kernel_rfl) a.h23,FD.kf (d:=aN_.d) Tryz.func47 (by kernel_rfl) (by kernel_rfl) (by kernel_rfl) a.h35,FD.kf (d:=bL_.d) Tryz.func48 (by kernel_rfl) (by kernel_rfl) (by kernel_rfl) a.h38,FD.kf (d:=bY_.d) Tryz.func49 (by kernel_rfl) (by kernel_rfl) (by kernel_rfl) a.h92,FD.kf (d:=bO_.d) Tryz.func50 (by kernel_rfl) (by kernel_rfl) (by kernel_rfl) a.h98,FD.kf (d:=bK_.d) Tryz.func51 (by kernel_rfl) (by kernel_rfl) (by kernel_rfl) a.h105,FD.kf (d:=br_.d) Tryz.func52 (by kernel_rfl) (by kernel_rfl) (by kernel_rfl) a.h107,FD.kf (d:=a4_.d) Tryz.func54 (by kernel_rfl) (by kernel_rfl) (by kernel_rfl) a.h113,FD.kf (d:=a5_.d) Tryz.func56 (by kernel_rfl) (by kernel_rfl) (by kernel_rfl) a.h117,FD.kf (d:=b9_.d) Tryz.func60 (by kernel_rfl) (by kernel_rfl) (by kernel_rfl) a.h37,FD.kf (d:=be_.d) Tryz.func61 (by kernel_rfl) (by kernel_rfl) (by kernel_rfl) a.h25,FD.kf (d:=cb_.d) Tryz.func66 (by kernel_rfl) (by kernel_rfl) (by kernel_rfl) a.h96,FD.kf (d:=aP_.d) Tryz.func67 (by kernel_rfl) (by kernel_rfl) (by kernel_rfl) a.h75,FD.kf (d:=aG_.d) Tryz.func69 (by kernel_rfl) (by kernel_rfl) (by kernel_rfl) a.h110,FD.kf (d:=aw_.d) Tryz.func70 (by kernel_rfl) (by kernel_rfl) (by kernel_rfl) a.h112,FD.kf (d:=bf_.d) Tryz.func71 (by kernel_rfl) (by kernel_rfl) (by kernel_rfl) a.h4,FD.kf (d:=strings_Index.d) Tryz.func72 (by kernel_rfl) (by kernel_rfl) (by kernel_rfl) a.h42,FD.kf (d:=ax_.d) Tryz.func73 (by kernel_rfl) (by kernel_rfl) (by kernel_rfl) a.h116,FD.kf (d:=as_.d) Tryz.func74 (by kernel_rfl) (by kernel_rfl) (by kernel_rfl) a.h115,FD.kf (d:=az_.d) Tryz.func75 (by kernel_rfl) (by kernel_rfl) (by kernel_rfl) a.h8,FD.kf (d:=aO_.d) Tryz.func76 (by kernel_rfl) (by kernel_rfl) (by kernel_rfl) a.h9,FD.kf (d:=bk_.d) Tryz.func77 (by kernel_rfl) (by kernel_rfl) (by kernel_rfl) a.h14,FD.kf (d:=b4_.d) Tryz.func78 (by kernel_rfl) (by kernel_rfl) (by kernel_rfl) a.h22,FD.kf (d:=co_.d) Tryz.func79 (by kernel_rfl) (by kernel_rfl) (by kernel_rfl) a.h26,FD.kf (d:=bW_.d) Tryz.func80 (by kernel_rfl) (by kernel_rfl) (by kernel_rfl) a.h27,FD.kf (d:=aQ_.d) Tryz.func81 (by kernel_rfl) (by kernel_rfl) (by kernel_rfl) a.h28,FD.kf (d:=b1_.d) Tryz.func82 (by kernel_rfl) (by kernel_rfl) (by kernel_rfl) a.h34,FD.kf (d:=ck_.d) Tryz.func83 (by kernel_rfl) (by kernel_rfl) (by kernel_rfl) a.h33,FD.kf (d:=bg_.d) Tryz.func84 (by kernel_rfl) (by kernel_rfl) (by kernel_rfl) a.h36,FD.kf (d:=bt_.d) Tryz.func85 (by kernel_rfl) (by kernel_rfl) (by kernel_rfl) a.h45,FD.kf (d:=cd_.d) Tryz.func86 (by kernel_rfl) (by kernel_rfl) (by kernel_rfl) a.h51,FD.kf (d:=bU_.d) Tryz.func87 (by kernel_rfl) (by kernel_rfl) (by kernel_rfl) a.h52,FD.kf (d:=b8_.d) Tryz.func88 (by kernel_rfl) (by kernel_rfl) (by kernel_rfl) a.h72,FD.kf (d:=bq_.d) Tryz.func89 (by kernel_rfl) (by kernel_rfl) (by kernel_rfl) a.h50,FD.kf (d:=bl_.d) Tryz.func90 (by kernel_rfl) (by kernel_rfl) (by kernel_rfl) a.h91,FD.kf (d:=cm_.d) Tryz.func91 (by kernel_rfl) (by kernel_rfl) (by kernel_rfl) a.h97,FD.kf (d:=b6_.d) Tryz.func92 (by kernel_rfl) (by kernel_rfl) (by kernel_rfl) a.h71,FD.kf (d:=aZ_.d) Tryz.func93 (by kernel_rfl) (by kernel_rfl) (by kernel_rfl) a.h94,FD.kf (d:=a6_.d) Tryz.func94 (by kernel_rfl) (by kernel_rfl) (by kernel_rfl) a.h103,FD.kf (d:=cJ_.d) Tryz.func95 (by kernel_rfl) (by kernel_rfl) (by kernel_rfl) a.h106,FD.kf (d:=cw_.d) Tryz.func98 (by kernel_rfl) (by kernel_rfl) (by kernel_rfl) a.h17,FD.kf (d:=ai_.d) Tryz.func99 (by kernel_rfl) (by kernel_rfl) (by kernel_rfl) a.h29,FD.kf (d:=bZ_.d) Tryz.func100 (by kernel_rfl) (by kernel_rfl) (by kernel_rfl) a.h19,FD.kf (d:=bJ_.d) Tryz.func104 (by kernel_rfl) (by kernel_rfl) (by kernel_rfl) a.h93,FD.kf (d:=aW_.d) Tryz.func105 (by kernel_rfl) (by kernel_rfl) (by kernel_rfl) a.h58,FD.kf (d:=cf_.d) Tryz.func106 (by kernel_rfl) (by kernel_rfl) (by kernel_rfl) a.h82,FD.kf (d:=bN_.d) Tryz.func107 (by kernel_rfl) (by kernel_rfl) (by kernel_rfl) a.h95,FD.kf (d:=bM_.d) Tryz.func108 (by kernel_rfl) (by kernel_rfl) (by kernel_rfl) a.h74,FD.kf (d:=b0_.d) Tryz.func109 (by kernel_rfl) (by kernel_rfl) (by kernel_rfl) a.h66,FD.kf (d:=ba_.d) Tryz.func111 (by kernel_rfl) (by kernel_rfl) (by kernel_rfl) a.h46,FD.kf (d:=bS_.d) Tryz.func112 (by kernel_rfl) (by kernel_rfl) (by kernel_rfl) a.h7,FD.kf (d:=bv_.d) Tryz.func113 (by kernel_rfl) (by kernel_rfl) (by kernel_rfl) a.h11,FD.kf (d:=aA_.d) Tryz.func114 (by kernel_rfl) (by kernel_rfl) (by kernel_rfl) a.h12,FD.kf (d:=aR_.d) Tryz.func115 (by kernel_rfl) (by kernel_rfl) (by kernel_rfl) a.h13,FD.kf (d:=aD_.d) Tryz.func116 (by kernel_rfl) (by kernel_rfl) (by kernel_rfl) a.h21,FD.kf (d:=bA_.d) Tryz.func117 (by kernel_rfl) (by kernel_rfl) (by kernel_rfl) a.h24,FD.kf (d:=bx_.d) Tryz.func118 (by kernel_rfl) (by kernel_rfl) (by kernel_rfl) a.h30,FD.kf (d:=au_.d) Tryz.func119 (by kernel_rfl) (by kernel_rfl) (by kernel_rfl) a.h31,FD.kf (d:=bp_.d) Tryz.func120 (by kernel_rfl) (by kernel_rfl) (by kernel_rfl) a.h32,FD.kf (d:=aF_.d) Tryz.func121 (by kernel_rfl) (by kernel_rfl) (by kernel_rfl) a.h44,FD.kf (d:=cr_.d) Tryz.func122 (by kernel_rfl) (by kernel_rfl) (by kernel_rfl) a.h48,FD.kf (d:=aM_.d) Tryz.func125 (by kernel_rfl) (by kernel_rfl) (by kernel_rfl) a.h60,FD.kf (d:=aB_.d) Tryz.func126 (by kernel_rfl) (by kernel_rfl) (by kernel_rfl) a.h49,FD.kf (d:=cg_.d) Tryz.func127 (by kernel_rfl) (by kernel_rfl) (by kernel_rfl) a.h90,FD.kf (d:=strconv_Itoa.d) Tryz.func128 (by kernel_rfl) (by kernel_rfl) (by kernel_rfl) a.h68,FD.kf (d:=aU_.d) Tryz.func129 (by kernel_rfl) (by kernel_rfl) (by kernel_rfl) a.h70,FD.kf (d:=cn_.d) Tryz.func130 (by kernel_rfl) (by kernel_rfl) (by kernel_rfl) a.h85,FD.kf (d:=aJ_.d) Tryz.func131 (by kernel_rfl) (by kernel_rfl) (by kernel_rfl) a.h18,FD.kf (d:=a3_.d) Tryz.func133 (by kernel_rfl) (by kernel_rfl) (by kernel_rfl) a.h65,FD.kf (d:=by_.d) Tryz.func134 (by kernel_rfl) (by kernel_rfl) (by kernel_rfl) a.h83,FD.kf (d:=a1_.d) Tryz.func140 (by kernel_rfl) (by kernel_rfl) (by kernel_rfl) a.h20,FD.kf (d:=bh_.d) Tryz.func141 (by kernel_rfl) (by kernel_rfl) (by kernel_rfl) a.h15,FD.kf (d:=ay_.d) Tryz.func142 (by kernel_rfl) (by kernel_rfl) (by kernel_rfl) a.h43,FD.kf (d:=a0_.d) Tryz.func143 (by kernel_rfl) (by kernel_rfl) (by kernel_rfl) a.h47,FD.kf (d:=a7_.d) Tryz.func149 (by kernel_rfl) (by kernel_rfl) (by kernel_rfl) a.h53,FD.kf (d:=bw_.d) Tryz.func150 (by kernel_rfl) (by kernel_rfl) (by kernel_rfl) a.h54,FD.kf (d:=aj_.d) Tryz.func151 (by kernel_rfl) (by kernel_rfl) (by kernel_rfl) a.h56,FD.kf (d:=af_.d) Tryz.func152 (by kernel_rfl) (by kernel_rfl) (by kernel_rfl) a.h57,FD.kf (d:=ag_.d) Tryz.func153 (by kernel_rfl) (by kernel_rfl) (by kernel_rfl) a.h59,FD.kf (d:=cv_.d) Tryz.func154 (by kernel_rfl) (by kernel_rfl) (by kernel_rfl) a.h76,FD.kf (d:=a8_.d) Tryz.func155 (by kernel_rfl) (by kernel_rfl) (by kernel_rfl) a.h80,FD.kf (d:=al_.d) Tryz.func156 (by kernel_rfl) (by kernel_rfl) (by kernel_rfl) a.h73,FD.kf (d:=bX_.d) Tryz.func157 (by kernel_rfl) (by kernel_rfl) (by kernel_rfl) a.h81,FD.kf (d:=b2_.d) Tryz.func158 (by kernel_rfl) (by kernel_rfl) (by kernel_rfl) a.h89,FD.kf (d:=bi_.d) Tryz.func160 (by kernel_rfl) (by kernel_rfl) (by kernel_rfl) a.h67,FD.kf (d:=strings_Join.d) Tryz.func161 (by kernel_rfl) (by kernel_rfl) (by kernel_rfl) a.h69,FD.kf (d:=a2_.d) Tryz.func162 (by kernel_rfl) (by kernel_rfl) (by kernel_rfl) a.h79,FD.kf (d:=cl_.d) Tryz.func163 (by kernel_rfl) (by kernel_rfl) (by kernel_rfl) a.h84,FD.kf (d:=ae_.d) Tryz.func164 (by kernel_rfl) (by kernel_rfl) (by kernel_rfl) a.h16,FD.kf (d:=cy_.d) Tryz.func168 (by kernel_rfl) (by kernel_rfl) (by kernel_rfl) a.h64,FD.kf (d:=av_.d) Tryz.func169 (by kernel_rfl) (by kernel_rfl) (by kernel_rfl) a.h62,FD.kf (d:=bm_.d) Tryz.func179 (by kernel_rfl) (by kernel_rfl) (by kernel_rfl) a.h55,FD.kf (d:=strings_Split.d) Tryz.func180 (by kernel_rfl) (by kernel_rfl) (by kernel_rfl) a.h77,FD.kf (d:=strings_ReplaceAll.d) Tryz.func181 (by kernel_rfl) (by kernel_rfl) (by kernel_rfl) a.h78,FD.kf (d:=cp_.d) Tryz.func182 (by kernel_rfl) (by kernel_rfl) (by kernel_rfl) a.h88,FD.kf (d:=bj_.d) Tryz.func189 (by kernel_rfl) (by kernel_rfl) (by kernel_rfl) a.h61,FD.kf (d:=ao_.d) Tryz.func190 (by kernel_rfl) (by kernel_rfl) (by kernel_rfl) a.h63,FD.kf (d:=am_.d) Tryz.func201 (by kernel_rfl) (by kernel_rfl) (by kernel_rfl) a.h86,FD.kf (d:=ab_.d) Tryz.func202 (by kernel_rfl) (by kernel_rfl) (by kernel_rfl) a.h87,trivial⟩
theorem cN_ (n nt:Nat) (a:AllOk n):CxOk E (cx n nt):=⟨ttOk,tcOk,u8Ok,kok n nt a⟩
theorem bT_:∀ n,AllOk n
 |0=>⟨fun _ _ h=>(by cases h),fun _ _ h=>(by cases h),fun _ _ h=>(by cases h),fun _ _ h=>(by cases h),fun _ _ h=>(by cases h),fun _ _ h=>(by cases h),fun _ _ h=>(by cases h),fun _ _ h=>(by cases h),fun _ _ h=>(by cases h),fun _ _ h=>(by cases h),fun _ _ h=>(by cases h),fun _ _ h=>(by cases h),fun _ _ h=>(by cases h),fun _ _ h=>(by cases h),fun _ _ h=>(by cases h),fun _ _ h=>(by cases h),fun _ _ h=>(by cases h),fun _ _ h=>(by cases h),fun _ _ h=>(by cases h),fun _ _ h=>(by cases h),fun _ _ h=>(by cases h),fun _ _ h=>(by cases h),fun _ _ h=>(by cases h),fun _ _ h=>(by cases h),fun _ _ h=>(by cases h),fun _ _ h=>(by cases h),fun _ _ h=>(by cases h),fun _ _ h=>(by cases h),fun _ _ h=>(by cases h),fun _ _ h=>(by cases h),fun _ _ h=>(by cases h),fun _ _ h=>(by cases h),fun _ _ h=>(by cases h),fun _ _ h=>(by cases h),fun _ _ h=>(by cases h),fun _ _ h=>(by cases h),fun _ _ h=>(by cases h),fun _ _ h=>(by cases h),fun _ _ h=>(by cases h),fun _ _ h=>(by cases h),fun _ _ h=>(by cases h),fun _ _ h=>(by cases h),fun _ _ h=>(by cases h),fun _ _ h=>(by cases h),fun _ _ h=>(by cases h),fun _ _ h=>(by cases h),fun _ _ h=>(by cases h),fun _ _ h=>(by cases h),fun _ _ h=>(by cases h),fun _ _ h=>(by cases h),fun _ _ h=>(by cases h),fun _ _ h=>(by cases h),fun _ _ h=>(by cases h),fun _ _ h=>(by cases h),fun _ _ h=>(by cases h),fun _ _ h=>(by cases h),fun _ _ h=>(by cases h),fun _ _ h=>(by cases h),fun _ _ h=>(by cases h),fun _ _ h=>(by cases h),fun _ _ h=>(by cases h),fun _ _ h=>(by cases h),fun _ _ h=>(by cases h),fun _ _ h=>(by cases h),fun _ _ h=>(by cases h),fun _ _ h=>(by cases h),fun _ _ h=>(by cases h),fun _ _ h=>(by cases h),fun _ _ h=>(by cases h),fun _ _ h=>(by cases h),fun _ _ h=>(by cases h),fun _ _ h=>(by cases h),fun _ _ h=>(by cases h),fun _ _ h=>(by cases h),fun _ _ h=>(by cases h),fun _ _ h=>(by cases h),fun _ _ h=>(by cases h),fun _ _ h=>(by cases h),fun _ _ h=>(by cases h),fun _ _ h=>(by cases h),fun _ _ h=>(by cases h),fun _ _ h=>(by cases h),fun _ _ h=>(by cases h),fun _ _ h=>(by cases h),fun _ _ h=>(by cases h),fun _ _ h=>(by cases h),fun _ _ h=>(by cases h),fun _ _ h=>(by cases h),fun _ _ h=>(by cases h),fun _ _ h=>(by cases h),fun _ _ h=>(by cases h),fun _ _ h=>(by cases h),fun _ _ h=>(by cases h),fun _ _ h=>(by cases h),fun _ _ h=>(by cases h),fun _ _ h=>(by cases h),fun _ _ h=>(by cases h),fun _ _ h=>(by cases h),fun _ _ h=>(by cases h),fun _ _ h=>(by cases h),fun _ _ h=>(by cases h),fun _ _ h=>(by cases h),fun _ _ h=>(by cases h),fun _ _ h=>(by cases h),fun _ _ h=>(by cases h),fun _ _ h=>(by cases h),fun _ _ h=>(by cases h),fun _ _ h=>(by cases h),fun _ _ h=>(by cases h),fun _ _ h=>(by cases h),fun _ _ h=>(by cases h),fun _ _ h=>(by cases h),fun _ _ h=>(by cases h),fun _ _ h=>(by cases h),fun _ _ h=>(by cases h),fun _ _ h=>(by cases h),fun _ _ h=>(by cases h),fun _ _ h=>(by cases h),fun _ _ h=>(by cases h),fun _ _ h=>(by cases h)⟩
 |n+1=>⟨b5_.ok n (cN_ n _ (bT_ n)) (kpar n _),aK_.ok n (cN_ n _ (bT_ n)) (kpar n _),bP_.ok n (cN_ n _ (bT_ n)) (kpar n _),aH_.ok n (cN_ n _ (bT_ n)) (kpar n _),bf_.ok n (cN_ n _ (bT_ n)) (kpar n _),aX_.ok n (cN_ n _ (bT_ n)) (kpar n _),bz_.ok n (cN_ n _ (bT_ n)) (kpar n _),bS_.ok n (cN_ n _ (bT_ n)) (kpar n _),az_.ok n (cN_ n _ (bT_ n)) (kpar n _),aO_.ok n (cN_ n _ (bT_ n)) (kpar n _),b7_.ok n (cN_ n _ (bT_ n)) (kpar n _),bv_.ok n (cN_ n _ (bT_ n)) (kpar n _),aA_.ok n (cN_ n _ (bT_ n)) (kpar n _),aR_.ok n (cN_ n _ (bT_ n)) (kpar n _),bk_.ok n (cN_ n _ (bT_ n)) (kpar n _),bh_.ok n (cN_ n _ (bT_ n)) (kpar n _),ae_.ok n (cN_ n _ (bT_ n)) (kpar n _),cw_.ok n (cN_ n _ (bT_ n)) (kpar n _),aJ_.ok n (cN_ n _ (bT_ n)) (kpar n _),bZ_.ok n (cN_ n _ (bT_ n)) (kpar n _),a1_.ok n (cN_ n _ (bT_ n)) (kpar n _),aD_.ok n (cN_ n _ (bT_ n)) (kpar n _),b4_.ok n (cN_ n _ (bT_ n)) (kpar n _),ce_.ok n (cN_ n _ (bT_ n)) (kpar n _),bA_.ok n (cN_ n _ (bT_ n)) (kpar n _),be_.ok n (cN_ n _ (bT_ n)) (kpar n _),co_.ok n (cN_ n _ (bT_ n)) (kpar n _),bW_.ok n (cN_ n _ (bT_ n)) (kpar n _),aQ_.ok n (cN_ n _ (bT_ n)) (kpar n _),ai_.ok n (cN_ n _ (bT_ n)) (kpar n _),bx_.ok n (cN_ n _ (bT_ n)) (kpar n _),au_.ok n (cN_ n _ (bT_ n)) (kpar n _),bp_.ok n (cN_ n _ (bT_ n)) (kpar n _),ck_.ok n (cN_ n _ (bT_ n)) (kpar n _),b1_.ok n (cN_ n _ (bT_ n)) (kpar n _),aN_.ok n (cN_ n _ (bT_ n)) (kpar n _),bg_.ok n (cN_ n _ (bT_ n)) (kpar n _),b9_.ok n (cN_ n _ (bT_ n)) (kpar n _),bL_.ok n (cN_ n _ (bT_ n)) (kpar n _),ac_.ok n (cN_ n _ (bT_ n)) (kpar n _),bu_.ok n (cN_ n _ (bT_ n)) (kpar n _),bb_.ok n (cN_ n _ (bT_ n)) (kpar n _),strings_Index.ok n (cN_ n _ (bT_ n)) (kpar n _),ay_.ok n (cN_ n _ (bT_ n)) (kpar n _),aF_.ok n (cN_ n _ (bT_ n)) (kpar n _),bt_.ok n (cN_ n _ (bT_ n)) (kpar n _),ba_.ok n (cN_ n _ (bT_ n)) (kpar n _),a0_.ok n (cN_ n _ (bT_ n)) (kpar n _),cr_.ok n (cN_ n _ (bT_ n)) (kpar n _),aB_.ok n (cN_ n _ (bT_ n)) (kpar n _),bq_.ok n (cN_ n _ (bT_ n)) (kpar n _),cd_.ok n (cN_ n _ (bT_ n)) (kpar n _),bU_.ok n (cN_ n _ (bT_ n)) (kpar n _),a7_.ok n (cN_ n _ (bT_ n)) (kpar n _),bw_.ok n (cN_ n _ (bT_ n)) (kpar n _),bm_.ok n (cN_ n _ (bT_ n)) (kpar n _),aj_.ok n (cN_ n _ (bT_ n)) (kpar n _),af_.ok n (cN_ n _ (bT_ n)) (kpar n _),aW_.ok n (cN_ n _ (bT_ n)) (kpar n _),ag_.ok n (cN_ n _ (bT_ n)) (kpar n _),aM_.ok n (cN_ n _ (bT_ n)) (kpar n _),bj_.ok n (cN_ n _ (bT_ n)) (kpar n _),av_.ok n (cN_ n _ (bT_ n)) (kpar n _),ao_.ok n (cN_ n _ (bT_ n)) (kpar n _),cy_.ok n (cN_ n _ (bT_ n)) (kpar n _),a3_.ok n (cN_ n _ (bT_ n)) (kpar n _),b0_.ok n (cN_ n _ (bT_ n)) (kpar n _),bi_.ok n (cN_ n _ (bT_ n)) (kpar n _),strconv_Itoa.ok n (cN_ n _ (bT_ n)) (kpar n _),strings_Join.ok n (cN_ n _ (bT_ n)) (kpar n _),aU_.ok n (cN_ n _ (bT_ n)) (kpar n _),b6_.ok n (cN_ n _ (bT_ n)) (kpar n _),b8_.ok n (cN_ n _ (bT_ n)) (kpar n _),al_.ok n (cN_ n _ (bT_ n)) (kpar n _),bM_.ok n (cN_ n _ (bT_ n)) (kpar n _),aP_.ok n (cN_ n _ (bT_ n)) (kpar n _),cv_.ok n (cN_ n _ (bT_ n)) (kpar n _),strings_Split.ok n (cN_ n _ (bT_ n)) (kpar n _),strings_ReplaceAll.ok n (cN_ n _ (bT_ n)) (kpar n _),a2_.ok n (cN_ n _ (bT_ n)) (kpar n _),a8_.ok n (cN_ n _ (bT_ n)) (kpar n _),bX_.ok n (cN_ n _ (bT_ n)) (kpar n _),cf_.ok n (cN_ n _ (bT_ n)) (kpar n _),by_.ok n (cN_ n _ (bT_ n)) (kpar n _),cl_.ok n (cN_ n _ (bT_ n)) (kpar n _),cn_.ok n (cN_ n _ (bT_ n)) (kpar n _),am_.ok n (cN_ n _ (bT_ n)) (kpar n _),ab_.ok n (cN_ n _ (bT_ n)) (kpar n _),cp_.ok n (cN_ n _ (bT_ n)) (kpar n _),b2_.ok n (cN_ n _ (bT_ n)) (kpar n _),cg_.ok n (cN_ n _ (bT_ n)) (kpar n _),bl_.ok n (cN_ n _ (bT_ n)) (kpar n _),bY_.ok n (cN_ n _ (bT_ n)) (kpar n _),bJ_.ok n (cN_ n _ (bT_ n)) (kpar n _),aZ_.ok n (cN_ n _ (bT_ n)) (kpar n _),bN_.ok n (cN_ n _ (bT_ n)) (kpar n _),cb_.ok n (cN_ n _ (bT_ n)) (kpar n _),cm_.ok n (cN_ n _ (bT_ n)) (kpar n _),bO_.ok n (cN_ n _ (bT_ n)) (kpar n _),bE_.ok n (cN_ n _ (bT_ n)) (kpar n _),bs_.ok n (cN_ n _ (bT_ n)) (kpar n _),a9_.ok n (cN_ n _ (bT_ n)) (kpar n _),bQ_.ok n (cN_ n _ (bT_ n)) (kpar n _),a6_.ok n (cN_ n _ (bT_ n)) (kpar n _),aL_.ok n (cN_ n _ (bT_ n)) (kpar n _),bK_.ok n (cN_ n _ (bT_ n)) (kpar n _),cJ_.ok n (cN_ n _ (bT_ n)) (kpar n _),br_.ok n (cN_ n _ (bT_ n)) (kpar n _),ca_.ok n (cN_ n _ (bT_ n)) (kpar n _),aV_.ok n (cN_ n _ (bT_ n)) (kpar n _),aG_.ok n (cN_ n _ (bT_ n)) (kpar n _),ar_.ok n (cN_ n _ (bT_ n)) (kpar n _),aw_.ok n (cN_ n _ (bT_ n)) (kpar n _),a4_.ok n (cN_ n _ (bT_ n)) (kpar n _),aE_.ok n (cN_ n _ (bT_ n)) (kpar n _),as_.ok n (cN_ n _ (bT_ n)) (kpar n _),ax_.ok n (cN_ n _ (bT_ n)) (kpar n _),a5_.ok n (cN_ n _ (bT_ n)) (kpar n _),aC_.ok n (cN_ n _ (bT_ n)) (kpar n _),laws_FnExactFeedAll.ok n (cN_ n _ (bT_ n)) (kpar n _)⟩
end Go.Pi
end
section
namespace Go.Pi
inductive Kd where
 |i (k:IntKind)
 |b
 |s
 |sl (t:TC)
def kdsL (P:Program) (rec_:TypeId→Option (List Kd)):List Field→Nat→Option (List Kd)
 |[],_=>some []
 |f::fs,off=>cond (Nat.beq f.offset off) (match rec_ f.type with
  |some ks=>cond (Nat.beq (P.cellsOf f.type) ks.length) (match kdsL P rec_ fs (off+ks.length) with
   |some r=>some (ks++r)
   |none=>none) none
  |none=>none) none
def kds (P:Program) (hO_:TypeId→Option TC):Nat→TypeId→Option (List Kd)
 |0,_=>none
 |d+1,T=>match P.underlying T with
  |some (.int k)=>some [.i k]
  |some .bool=>some [.b]
  |some .string=>some [.s]
  |some (.slice e)=>match hO_ e with
   |some t=>some [.sl t]
   |none=>none
  |some (.struct fs)=>match kdsL P (kds P hO_ d) fs.toList 0 with
   |some ks=>cond (Nat.beq (P.cellsOf T) ks.length) (some ks) none
   |none=>none
  |_=>none
inductive Good [an_]:AV→Prop
 |i (k n):(Lit.int k n).wf=true→Good (.i k n)
 |b (q):Good (.b q)
 |s (l):l.length≤maxLen→Good (.s l)
 |sl (t xs):xs.length≤maxLen→(∀ x ∈ xs,∀ c ∈ an_.enc .v t x,Good c)→Good (.sl .v t xs)
def KindOk:Kd→AV→Prop
 |.i k,a=>∃ n,a = .i k n
 |.b,a=>∃ q,a = .b q
 |.s,a=>∃ l,a = .s l
 |.sl t,a=>∃ xs,a = .sl .v t xs
def hR_:List Kd→List AV→Prop
 |[],[]=>True
 |k::ks,a::l=>KindOk k a∧hR_ ks l
 |_,_=>False
section
variable {H:Type} {enc:TypeId × Value→H} {P:Program} {w:World} {spare:Nat→Bool}
def lC_ (enc:TypeId × Value→H) (P:Program) (w:World) (spare:Nat→Bool) (eid:TC→TypeId) (F:Nat):Kd→Value→Prop
 |.i k,v=>∃ n,v = .int k n∧(Lit.int k n).wf=true
 |.b,v=>∃ q,v = .bool q
 |.s,v=>∃ s:ByteArray,v = .string s∧s.size≤maxLen
 |.sl t,v=>v = .slice none 0 0∨∃ (a:Addr) (len cap N:Nat),v = .slice (some a) len cap∧len≤cap∧cap≤maxLen∧N<F ∧
   ∀ i,i<len→∃ cs x,w.cells? 0 (a.add (i*P.cellsOf (eid t))) (P.cellsOf (eid t))=some cs∧DataW.trod enc P w 0 spare true N (eid t) cs=some x
def dQ_ (enc:TypeId × Value→H) (P:Program) (w:World) (spare:Nat→Bool) (eid:TC→TypeId) (F:Nat):List Kd→List Value→Prop
 |[],[]=>True
 |k::ks,v::vs=>lC_ enc P w spare eid F k v∧dQ_ enc P w spare eid F ks vs
 |_,_=>False
theorem lC_.mono {eid:TC→TypeId} {F F':Nat} (hF:F≤F') {k:Kd} {v:Value} (h:lC_ enc P w spare eid F k v):lC_ enc P w spare eid F' k v:=by
 cases k with
 |sl t=>
  rcases h with h|⟨a,len,cap,N,h1,h2,h3,h4,h5⟩
  · exact .inl h
  · exact .inr ⟨a,len,cap,N,h1,h2,h3,Nat.lt_of_lt_of_le h4 hF,h5⟩
 |_=>exact h
theorem dQ_.mono {eid:TC→TypeId} {F F':Nat} (hF:F≤F'):∀ {ks:List Kd} {vs:List Value},dQ_ enc P w spare eid F ks vs→dQ_ enc P w spare eid F' ks vs
 |[],[],_=>trivial
 |k::ks,v::vs,h=>⟨h.1.mono hF,dQ_.mono hF h.2⟩
 |[],_::_,h=>h.elim
 |_::_,[],h=>h.elim
theorem dQ_.append {eid:TC→TypeId} {F:Nat}:∀ {ks:List Kd} {vs:List Value} {ks':List Kd} {vs':List Value},dQ_ enc P w spare eid F ks vs→dQ_ enc P w spare eid F ks' vs'→dQ_ enc P w spare eid F (ks++ks') (vs++vs')
 |[],[],_,_,_,h=>h
 |k::ks,v::vs,_,_,h,h'=>⟨h.1,dQ_.append h.2 h'⟩
 |[],_::_,_,_,h,_=>h.elim
 |_::_,[],_,_,h,_=>h.elim
theorem jB_ {hO_:TypeId→Option TC} {eid:TC→TypeId} {n:Nat} {rec_:TypeId→Option (List Kd)} {cs:List Value} (hrec:∀ T ks cs x,rec_ T=some ks→DataW.trod enc P w 0 spare true n T cs=some x→dQ_ enc P w spare eid n ks cs) :
  ∀ (fs:List Field) (off:Nat) (ks:List Kd),kdsL P rec_ fs off=some ks→(∀ f ∈ fs,∃ x,DataW.trod enc P w 0 spare true n f.type ((cs.drop f.offset).take (P.cellsOf f.type))=some x)→off+ks.length=cs.length→dQ_ enc P w spare eid n ks (cs.drop off)
 |[],off,ks,h,_,hl=>by
  simp only [kdsL,Option.some.injEq] at h
  subst h
  rw [List.drop_eq_nil_of_le (by simp at hl;omega)]
  trivial
 |f::fs,off,ks,h,hx,hl=>by
  simp only [kdsL] at h
  obtain ⟨h1,h2⟩:=ch_ h
  have h1:=cI_.1 h1
  cases hr:rec_ f.type with
  |none=>rw [hr] at h2;cases h2
  |some k1=>
   rw [hr] at h2
   obtain ⟨h3,h4⟩:=ch_ h2
   have h3:=cI_.1 h3
   cases hk:kdsL P rec_ fs (off+k1.length) with
   |none=>rw [hk] at h4;cases h4
   |some r=>
    rw [hk] at h4
    simp only [Option.some.injEq] at h4
    subst h4
    obtain ⟨x,hx1⟩:=hx f (List.mem_cons_self ..)
    have h5:=hrec _ _ _ _ hr hx1
    have h6:=jB_ (hO_:=hO_) hrec fs (off+k1.length) r hk (fun g hg=>hx g (List.mem_cons_of_mem _ hg)) (by simp at hl;omega)
    rw [h1,h3] at h5
    have:cs.drop off=(cs.drop off).take k1.length++cs.drop (off+k1.length):=by rw [←List.drop_drop,List.take_append_drop]
    rw [this]
    exact h5.append h6
theorem jQ_ {hO_:TypeId→Option TC} {eid:TC→TypeId} (hcode:∀ e t,hO_ e=some t→eid t=e):∀ (d F:Nat) (T:TypeId) (ks:List Kd) (cs:List Value) (x:DataW H × List MemPlace),kds P hO_ d T=some ks→DataW.trod enc P w 0 spare true F T cs=some x→dQ_ enc P w spare eid F ks cs
 |0,F,T,ks,cs,x,hk,h=>by cases hk
 |d+1,F,T,ks,cs,x,hk,h=>by
  simp only [kds] at hk
  cases hu:P.underlying T with
  |none=>rw [hu] at hk;cases hk
  |some u=>
   rw [hu] at hk
   cases u<;>simp only at hk<;>(try (cases hk;done))
   case bool=>
    cases hk
    obtain ⟨q,rfl,_⟩:=DataW.trod_bool hu h
    exact ⟨⟨q,rfl⟩,trivial⟩
   case int k=>
    cases hk
    obtain ⟨n,rfl,_,hw⟩:=DataW.trod_int hu h
    exact ⟨⟨n,rfl,hw⟩,trivial⟩
   case string=>
    cases hk
    obtain ⟨s,rfl,_,hs⟩:=DataW.trod_string hu h
    exact ⟨⟨s,rfl,hs⟩,trivial⟩
   case slice e=>
    cases hc:hO_ e with
    |none=>rw [hc] at hk;cases hk
    |some t=>
     rw [hc] at hk
     cases hk
     have he:=hcode e t hc
     rcases DataW.trod_slice hu h with ⟨rfl,_⟩|⟨a,len,cap,elems,fs_,n,hF,rfl,_,_,hl,hm,hlen,hel,_,_⟩
     · exact ⟨.inl rfl,trivial⟩
     · refine ⟨.inr ⟨a,len,cap,n,rfl,hl,hm,by omega,fun i hi => ?_⟩,trivial⟩
       have h1:=hel i hi
       rw [List.getElem?_eq_getElem (by omega)] at h1
       rw [Option.bind_eq_some_iff] at h1
       obtain ⟨cs,k1,k2⟩:=h1
       exact ⟨cs,_,by rw [he];exact k1,by rw [he];exact k2⟩
   case struct fs=>
    obtain ⟨xs,n,hF,_,hcl,hxl,hx⟩:=DataW.trod_struct hu h
    cases hks:kdsL P (kds P hO_ d) fs.toList 0 with
    |none=>rw [hks] at hk;cases hk
    |some ks'=>
     rw [hks] at hk
     obtain ⟨h1,h2⟩:=ch_ hk
     have h1:=cI_.1 h1
     cases h2
     subst hF
     have:=jB_ (hO_:=hO_) (eid:=eid) (n:=n) (cs:=cs) (fun T ks cs x k1 k2=>jQ_ hcode d n T ks cs x k1 k2) fs.toList 0 ks hks (fun f hf=>by
      obtain ⟨i,hi⟩:=List.getElem?_of_mem hf
      have hi':fs[i]?=some f:=by simpa using hi
      have h3:=hx i f hi'
      have hlt:i<xs.length:=by rw [hxl];exact (Array.getElem?_eq_some_iff.1 hi').1
      rw [List.getElem?_eq_getElem hlt] at h3
      exact ⟨_,h3⟩) (by omega)
     exact (this.mono (Nat.le_succ n))
end
end Go.Pi
end
section
namespace Go.Pi
variable [an_]
open an_
variable {H:Type} {enc':TypeId × Value→H} {E:Env} {w:World} {spare:Nat→Bool}
abbrev NoF:Nat→Prop:=fun _=>False
omit [an_] in
theorem il_:∀ {ks:List Kd} {l c:List AV},hR_ ks l→sims .v l c→c=l
 |[],[],[],_,_=>rfl
 |k::ks,a::l,b::c,h,hs=>by
  have e:=il_ h.2 hs.2
  subst e
  have h1:=h.1
  have h2:=hs.1
  cases k<;>obtain ⟨x,rfl⟩:=h1<;>simp only [AV.sim] at h2<;>rw [h2]
 |[],[],_::_,_,h=>h.elim
 |[],_::_,_,h,_=>h.elim
 |_::_,[],_,h,_=>h.elim
 |_::_,_::_,[],_,h=>h.elim
structure iW_ (E:Env) (hO_:TypeId→Option TC) (kinds:TC→List Kd) (d:Nat):Prop where
 codeOk:∀ e t,hO_ e=some t→E.eid t=e
 kdsOk:∀ t,kds E.P hO_ d (E.eid t)=some (kinds t)
 dec:∀ t l,hR_ (kinds t) l→∃ y,dec t l=some y
 cells:∀ t,E.P.cellsOf (E.eid t)=t.width
theorem kT_ [ap_] {t:TC} {N:Nat} (hel:∀ cs x,DataW.trod enc' E.P w 0 spare true N (E.eid t) cs=some x→∃ y:El t,RL E w NoF (enc .v t y) cs (fun _=>0)∧∀ c ∈ enc .v t y,Good c) {b o:Nat} (hW:E.P.cellsOf (E.eid t)=t.width) :
  ∀ len,(∀ i,i<len→∃ cs x,w.cells? 0 ((⟨b,o,none⟩:Addr).add (i*E.P.cellsOf (E.eid t))) (E.P.cellsOf (E.eid t))=some cs∧DataW.trod enc' E.P w 0 spare true N (E.eid t) cs=some x) →
  ∃ (xs:List (El t)) (vals:List Value),xs.length=len∧vals.length=len*t.width∧RL E w NoF (bn_ .v t xs) vals (fun _=>0)∧w.rangeAt b o vals∧∀ x ∈ xs,∀ c ∈ enc .v t x,Good c
 |0,_=>⟨[],[],rfl,by simp,RL.nil (fun _=>0) fun _=>rfl,fun j v h=>by simp at h,fun x hx=>by cases hx⟩
 |len+1,h=>by
  obtain ⟨xs,vals,h1,h2,h3,h4,h5⟩:=kT_ hel hW len fun i hi=>h i (by omega)
  obtain ⟨cs,x,k1,k2⟩:=h len (Nat.lt_succ_self _)
  obtain ⟨y,j1,j2⟩:=hel cs x k2
  obtain ⟨_,hl,hc⟩:=World.cells?_some k1
  rw [hW] at hl hc
  refine ⟨xs++[y],vals++cs,by simp [h1],by rw [List.length_append,h2,hl];exact (Nat.succ_mul _ _).symm,?_,fun j v hj => ?_,fun x hx => ?_⟩
  · rw [cu_]
    refine RL.append h3 (φ':=fun _=>0) ?_ (fun b=>rfl)
    simpa [bn_] using j1
  · by_cases hlt:j<vals.length
    · rw [List.getElem?_append_left hlt] at hj
      exact h4 j v hj
    · rw [List.getElem?_append_right (by omega)] at hj
      have hjl:j - vals.length<t.width:=by rw [←hl];exact (List.getElem?_eq_some_iff.1 hj).1
      have:=hc (j - vals.length) hjl
      rw [Addr.add_mid,Addr.add_mid,hj] at this
      rw [←this]
      congr 2
      omega
  · rcases List.mem_append.1 hx with hx|hx
    · exact h5 x hx
    · rw [List.mem_singleton] at hx;subst hx;exact j2
theorem cell_open [ap_] {hO_:TypeId→Option TC} {kinds:TC→List Kd} {d:Nat} (hk:iW_ E hO_ kinds d) {F:Nat} (ih:∀ N,N<F→∀ t cs x,DataW.trod enc' E.P w 0 spare true N (E.eid t) cs=some x→∃ y:El t,RL E w NoF (enc .v t y) cs (fun _=>0)∧∀ c ∈ enc .v t y,Good c) {k:Kd} {v:Value} (h:lC_ enc' E.P w spare E.eid F k v) :
  ∃ a,KindOk k a∧RL E w NoF [a] [v] (fun _=>0)∧Good a:=by
 cases k with
 |i k=>obtain ⟨n,rfl,hw⟩:=h;exact ⟨.i k n,⟨n,rfl⟩,.scal _ _ _ _ _ rfl (.nil _ fun _=>rfl),.i _ _ hw⟩
 |b=>obtain ⟨q,rfl⟩:=h;exact ⟨.b q,⟨q,rfl⟩,.scal _ _ _ _ _ rfl (.nil _ fun _=>rfl),.b _⟩
 |s=>
  obtain ⟨s,rfl,hs⟩:=h
  refine ⟨.s s.data.toList,⟨_,rfl⟩,.scal _ _ _ _ _ ?_ (.nil _ fun _=>rfl),.s _ ?_⟩
  · show Value.string s = .string ⟨s.data.toList.toArray⟩
    simp
  · rw [Array.length_toList];exact hs
 |sl t=>
  rcases h with rfl|⟨a,len,cap,N,rfl,hl,hm,hN,hel⟩
  · exact ⟨.sl .v t [],⟨_,rfl⟩,.view t [] none 0 0 [] (fun _=>0) _ _ _ ⟨rfl,Nat.le_refl _⟩ (.nil _ fun _=>rfl) (fun _=>rfl) (fun hp=>by omega) (.nil _ fun _=>rfl),.sl _ _ (Nat.zero_le _) (fun x hx=>by cases hx)⟩
  · cases len with
    |zero=>exact ⟨.sl .v t [],⟨_,rfl⟩,.view t [] (some a) 0 cap [] (fun _=>0) _ _ _ ⟨rfl,hl⟩ (.nil _ fun _=>rfl) (fun _=>rfl) (fun hp=>by omega) (.nil _ fun _=>rfl),.sl _ _ (Nat.zero_le _) (fun x hx=>by cases hx)⟩
    |succ len=>
     have hW:=hk.cells t
     have hpos:0<t.width:=ap_.pos t
     obtain ⟨cs0,x0,k1,_⟩:=hel 0 (Nat.succ_pos _)
     obtain ⟨_,hl0,hc0⟩:=World.cells?_some k1
     have hcell:=hc0 0 (by rw [hW];exact hpos)
     rw [List.getElem?_eq_getElem (by rw [hl0,hW];exact hpos)] at hcell
     have ha:a.spot=none:=by
      have h0:(a.add (0*E.P.cellsOf (E.eid t))).add 0=a:=by simp [Addr.add]
      rw [h0] at hcell
      unfold World.cell? at hcell
      split at hcell
      · cases hs:a.spot with
        |none=>rfl
        |some q=>simp [hs] at hcell
      · cases hcell
     obtain ⟨b,o,sp⟩:=a
     simp only at ha
     subst ha
     have hb:b<w.heap.size:=World.cells?_block k1 (by rw [hW];exact hpos) |> fun h=>by simpa [Addr.add] using h
     obtain ⟨xs,vals,e1,e2,e3,e4,e5⟩:=kT_ (ih N hN t) hW (len+1) hel
     refine ⟨.sl .v t xs,⟨_,rfl⟩,?_,.sl _ _ (by omega) e5⟩
     exact .view t xs (some ⟨b,o,none⟩) (len+1) cap vals (fun _=>0) _ _ _ ⟨e1.symm,hl⟩ e3 (fun _=>rfl) (fun _=>⟨b,o,rfl,e4,hb,fun h=>h⟩) (.nil _ fun _=>rfl)
theorem hA_ [ap_] {hO_:TypeId→Option TC} {kinds:TC→List Kd} {d:Nat} (hk:iW_ E hO_ kinds d) {F:Nat} (ih:∀ N,N<F→∀ t cs x,DataW.trod enc' E.P w 0 spare true N (E.eid t) cs=some x→∃ y:El t,RL E w NoF (enc .v t y) cs (fun _=>0)∧∀ c ∈ enc .v t y,Good c) :
  ∀ {ks:List Kd} {vs:List Value},dQ_ enc' E.P w spare E.eid F ks vs→∃ l,hR_ ks l∧RL E w NoF l vs (fun _=>0)∧∀ c ∈ l,Good c
 |[],[],_=>⟨[],trivial,.nil _ fun _=>rfl,fun c hc=>by cases hc⟩
 |k::ks,v::vs,h=>by
  obtain ⟨a,h1,h2,h3⟩:=cell_open hk ih h.1
  obtain ⟨l,k1,k2,k3⟩:=hA_ hk ih h.2
  refine ⟨a::l,⟨h1,k1⟩,RL.cons h2 k2 (fun b=>rfl),fun c hc => ?_⟩
  rcases List.mem_cons.1 hc with rfl|hc
  · exact h3
  · exact k3 c hc
 |[],_::_,h=>h.elim
 |_::_,[],h=>h.elim
theorem el_open [ap_] {hO_:TypeId→Option TC} {kinds:TC→List Kd} {d:Nat} (hk:iW_ E hO_ kinds d):∀ (F:Nat) (t:TC) (cs:List Value) (x:DataW H × List MemPlace),DataW.trod enc' E.P w 0 spare true F (E.eid t) cs=some x →
  ∃ y:El t,RL E w NoF (enc .v t y) cs (fun _=>0)∧∀ c ∈ enc .v t y,Good c:=by
 intro F
 induction F using Nat.strongRecOn with
 |_ F ih=>
  intro t cs x h
  have h1:=jQ_ hk.codeOk d F _ _ _ _ (hk.kdsOk t) h
  obtain ⟨l,h2,h3,h4⟩:=hA_ hk ih h1
  obtain ⟨y,hy⟩:=hk.dec t l h2
  have h5:=ap_.dec .v t l y hy
  have h6:=il_ h2 h5
  exact ⟨y,by rw [h6];exact h3,by rw [h6];exact h4⟩
theorem nk_ [ap_] {hO_:TypeId→Option TC} {kinds:TC→List Kd} {d:Nat} (hk:iW_ E hO_ kinds d) {T:TypeId} {ks:List Kd} (hT:kds E.P hO_ d T=some ks) {v:Value} {dd:DataW H} {ps:List MemPlace} (h:DataW.Trod enc' E.P w 0 spare true T v dd ps) :
  ∃ l,hR_ ks l∧RL E w NoF l v.cells.toList (fun _=>0)∧∀ c ∈ l,Good c:=by
 obtain ⟨F,hF⟩:=h
 exact hA_ hk (fun N _=>el_open hk N) (jQ_ hk.codeOk d F T ks _ _ hT hF)
end Go.Pi
end
section
namespace Go.Pi
open Go.RowKit
variable [an_]
open an_
omit [an_] in
theorem c8_ {k:Kd} {ks:List Kd} {l:List AV} (h:hR_ (k::ks) l):∃ a l',l=a::l'∧KindOk k a∧hR_ ks l':=by
 cases l with
 |nil=>exact h.elim
 |cons a l=>exact ⟨a,l,rfl,h.1,h.2⟩
omit [an_] in
theorem dz_ {l:List AV} (h:hR_ [] l):l=[]:=by
 cases l with
 |nil=>rfl
 |cons a l=>exact h.elim
def codeL (eid:TC→TypeId):List TC→TypeId→Option TC
 |[],_=>none
 |t::ts,e=>cond (Nat.beq (eid t) e) (some t) (codeL eid ts e)
omit [an_] in
theorem ng_ {eid:TC→TypeId} {e:TypeId} {t:TC}:∀ ts,codeL eid ts e=some t→eid t=e
 |[],h=>by cases h
 |u::ts,h=>by
  simp only [codeL] at h
  cases hb:Nat.beq (eid u) e with
  |true=>rw [hb] at h;cases h;exact cI_.1 hb
  |false=>rw [hb] at h;exact ng_ ts h
theorem law_true [ap_] {E:Env} {f:FuncId} {avs:List AV} {outs:List AV} {ps:List PS} (h:dq_ E f avs (.b true) outs ps) {w:World} (hgl:Glob E w NoF) {Vs:List Value} (hr:RL E w NoF avs Vs (fun _=>0)) :
  Calls E.P f Vs.toArray w fun e W'=>e = .returned (.bool true)∧Below w.heap.size w W':=by
 refine (h w NoF Vs _ hr (fun _=>Nat.zero_le _) (fun b hb=>hb.elim) hgl).mono fun e W' ⟨V,φ',he,h1,_,_,e1,e2,e3,e4,e5⟩=>⟨?_,e1,e2,e3,e4,fun k hk=>e5 k hk rfl⟩
 cases h1 with
 |scal a v l vs φ hs _=>rw [he,show V = .bool true from hs]
theorem ag_open {E:Env} {w:World} {l:List AV} {cs:Array Value} (h:RL E w NoF l (Value.agg cs).cells.toList (fun _=>0)) {l':List AV} {vs:List Value} (h':RL E w NoF l' vs (fun _=>0)) :
  RL E w NoF (.ag l::l') (.agg cs::vs) (fun _=>0):=by
 have:=RL.ag (E:=E) (w:=w) (F:=NoF) l cs.toList (fun _=>0) l' vs (fun _=>0) (fun _=>0) h h' (fun b=>rfl)
 simpa using this
end Go.Pi
end
section
namespace Go.Pi
open Go.Proofs Go.Proofs.YtccdklkcfjmchaaGreatDoor
open Go.ChangeShapes Go.WideShapes Go.ChangeAt Go.RowKit
def hO_:TypeId→Option TC:=codeL eid [.str,.u8,.iEvent,.iJson,.iOp,.lJson,.lOp]
def kinds:TC→List Kd
 |.str=>[.s]
 |.u8=>[.i .u8]
 |.iEvent=>[.i .i64,.i .i64,.i .i64,.i .i64,.i .i64,.s,.sl .iJson,.sl .str,.sl .iOp]
 |.iJson=>[.i .i64,.i .i64,.s,.sl .iJson,.sl .str]
 |.iOp=>[.i .i64,.sl .str,.i .i64,.i .i64,.s,.sl .iJson,.sl .str]
 |.lJson=>[.i .i64,.i .i64,.s,.sl .lJson,.sl .str]
 |.lOp=>[.i .i64,.sl .str,.i .i64,.i .i64,.s,.sl .lJson,.sl .str]
theorem kindsOk:iW_ E hO_ kinds 12 where
 codeOk:=fun e t h=>ng_ _ h
 kdsOk:=by intro t;cases t<;>kernel_rfl
 cells:=by intro t;cases t<;>kernel_rfl
 dec:=by
  intro t l h
  cases t with
  |str=>
   iterate 1 (replace h:=c8_ h;obtain ⟨_,_,rfl,⟨_,rfl⟩,h⟩:=h)
   replace h:=dz_ h;subst h;exact ⟨_,rfl⟩
  |u8=>
   iterate 1 (replace h:=c8_ h;obtain ⟨_,_,rfl,⟨_,rfl⟩,h⟩:=h)
   replace h:=dz_ h;subst h;exact ⟨_,rfl⟩
  |iEvent=>
   iterate 9 (replace h:=c8_ h;obtain ⟨_,_,rfl,⟨_,rfl⟩,h⟩:=h)
   replace h:=dz_ h;subst h;exact ⟨_,rfl⟩
  |iJson=>
   iterate 5 (replace h:=c8_ h;obtain ⟨_,_,rfl,⟨_,rfl⟩,h⟩:=h)
   replace h:=dz_ h;subst h;exact ⟨_,rfl⟩
  |iOp=>
   iterate 7 (replace h:=c8_ h;obtain ⟨_,_,rfl,⟨_,rfl⟩,h⟩:=h)
   replace h:=dz_ h;subst h;exact ⟨_,rfl⟩
  |lJson=>
   iterate 5 (replace h:=c8_ h;obtain ⟨_,_,rfl,⟨_,rfl⟩,h⟩:=h)
   replace h:=dz_ h;subst h;exact ⟨_,rfl⟩
  |lOp=>
   iterate 7 (replace h:=c8_ h;obtain ⟨_,_,rfl,⟨_,rfl⟩,h⟩:=h)
   replace h:=dz_ h;subst h;exact ⟨_,rfl⟩
namespace laws_FnExactFeedAll
theorem own:ownKnob Tryz.prog.godebug=none:=by kernel_rfl
theorem laidOut:laidOutB Tryz.prog=true:=by kernel_rfl
def nt_:DataW Unit→ByteArray
 |.iface _ (.ptr (.agg [.lit (.string l)]))=>⟨l.toArray⟩
 |_=>ByteArray.empty
def tab1:DataW Unit→List Value
 |.lit (.int k n)=>[Value.int k n]
 |_=>[]
def tab2:DataW Unit→List Value
 |.agg l=>l.flatMap tab1
 |d=>tab1 d
def tabOf:DataW Unit→Array Value
 |.agg l=>(l.flatMap tab2).toArray
 |_ => #[]
def Pure:Prop:=∀ (o:aq_) (append:List Bs),(∀ c ∈ ([.s o.wait,.b o.bad]:List AV),Good c)→(∀ c ∈ ([.sl .v .str append]:List AV),Good c)→∃ n,Go.Pi.laws_FnExactFeedAll n o append=some true
noncomputable def low:Nat:=(World.holding Tryz.prog default ⟨#[],#[],[]⟩).heap.size
noncomputable def k6_ (os:Os):World :=
 let w0:=World.holding Tryz.prog os ⟨#[.cells #[.string (nt_ Rows.laid_strconv_ErrRange)] 201,.cells #[.string (nt_ Rows.laid_strconv_ErrSyntax)] 201],#[],[]⟩
 let put:=fun (h:Array Obj) (g:Nat) (cs:Array Value)=>h.modify g fun
  |.cells _ t frozen=>.cells cs t frozen
  |o=>o
 { w0 with heap:=put (put (put (put (put (put (put (w0.heap) 6 (tabOf Rows.laid_math_bits_deBruijn32tab)) 7 (tabOf Rows.laid_math_bits_deBruijn64tab)) 3 (tabOf Rows.laid_internal_strconv_uint64pow10)) 5 (tabOf Rows.laid_unicode_utf8_acceptRanges)) 2 (#[.iface 199 (.pointer (some ⟨low+0,0,none⟩))])) 1 (#[.iface 199 (.pointer (some ⟨low+1,0,none⟩))])) 4 (tabOf Rows.laid_unicode_utf8_first) }
theorem kc_ (os:Os) (args:Array Value):laidMet Tryz.prog Rows.fnExactFeedAllRow.laid ((k6_ os).forCall (fun _ _=>0) ⟨#[],args,[]⟩).memory :=
 laidMet_of_run' 8 (by kernel_rfl) (by kernel_rfl)
theorem lifted (hp:Pure) (os:Os) (started:os.Started) (H:Type) (enc:TypeId × Value→H) :
  ReturnsInHanded {} Tryz.checked os 7 .any (fun w args=>(Rows.fnExactFeedAllSpec.pre enc Tryz.prog Tryz.f7 Rows.fnExactFeedAllRow.domain false w args∧laidMet Tryz.prog Rows.fnExactFeedAllRow.laid w)∧sizedMet enc Tryz.prog Tryz.f7 (OpenSpec.ofChange Rows.fnExactFeedAllSpec) false w args) (Rows.fnExactFeedAllSpec.post enc Tryz.prog Tryz.f7 false true false false):=by
 refine returnsInHanded_of_calls own started (by kernel_rfl) (ChangeSpec.witness_at (enc:=enc) (C:=Tryz.checked) (os:=os) (X:=fun w _=>laidMet Tryz.prog Rows.fnExactFeedAllRow.laid w) false (k6_ os) #[.agg #[.string ByteArray.empty,.bool false],.slice none 0 0] 8 rfl (by kernel_rfl) (by kernel_rfl) (by kernel_rfl) (by kernel_rfl) (by kernel_rfl) (kc_ os _)) ?_
 intro w0 tape inp _ hsh _ hok hpre _
 obtain ⟨_,_,_,fn',hfn',_,_,_,_,hval0⟩:=hok
 obtain rfl:fn'=Tryz.f7:=Option.some.inj (hfn'.symm.trans Tryz.func7)
 obtain ⟨⟨⟨ds,gs,before,hw0,hcnd⟩,hL0⟩,hz⟩:=hpre
 have hW:=DataW.Whole.of_heap (w':=w0.forCall tape inp) (by rfl) hw0
 have hL:laidMet Tryz.prog Rows.fnExactFeedAllRow.laid (w0.forCall tape inp):=hL0.of_heap (by rfl)
 clear hw0 hL0 hz hfn' hcnd
 generalize w0.forCall tape inp=W at hsh hval0 hW hL ⊢
 generalize inp.args=args at hval0 hW ⊢
 generalize w0.heap.size=base at hval0
 suffices hgo:Calls Tryz.prog 7 args W fun e W'=>∃ v,e = .returned v∧Rows.fnExactFeedAllSpec.post enc Tryz.prog Tryz.f7 false true false false W args v W' from hgo.mono fun e W' ⟨v,he,hp⟩=>by subst he;exact ChangeSpec.post_blind hp
 have hval:∀ (j:Nat) t v,Tryz.f7.params[j]?=some t→args[j]?=some v→Value.okWide Tryz.prog W .any base t v:=hval0
 have hW':=hW
 obtain ⟨p,q,hA0,hV,rfl,hfz,hnd⟩:=hW
 have hA:DataW.TrodAll enc Tryz.prog W 0 (fun _=>true) true Tryz.f7.params.toList args.toList ds p:=hA0
 rw [Tryz.params7] at hA hval
 obtain ⟨v0,vs0,d0,ds0,p0,q0,hargs,rfl,rfl,h0,r0⟩:=trodAll_cons hA
 obtain ⟨v1,vs1,d1,ds1,p1,q1,rfl,rfl,rfl,h1,r1⟩:=trodAll_cons r0
 obtain ⟨rfl,rfl,rfl⟩:=trodAll_nil r1
 obtain rfl:args = #[v0,v1]:=by cases args;simp_all
 obtain ⟨rfl,rfl⟩:=trodVars_none hV
 obtain ⟨c0,rfl,-⟩:=okWide_struct Tryz.underlying61 (hval 0 61 v0 rfl rfl)
 have lt0:∀ x ∈ p0,x.block<W.heap.size:=by obtain ⟨m,hm⟩:=h0;exact DataW.trod_lt m _ _ _ hm
 obtain ⟨l0,k0,e0,g0⟩:=nk_ kindsOk (T:=61) (ks:=[.s,.b]) (by kernel_rfl) h0
 obtain ⟨c1,len1,cap1,rfl⟩:=okWide_slice Tryz.underlying23 (hval 1 23 v1 rfl rfl)
 have lt1:∀ x ∈ p1,x.block<W.heap.size:=by obtain ⟨m,hm⟩:=h1;exact DataW.trod_lt m _ _ _ hm
 obtain ⟨l1,k1,e1,g1⟩:=nk_ kindsOk (T:=23) (ks:=[.sl .str]) (by kernel_rfl) h1
 replace k0:=c8_ k0;obtain ⟨_,_,rfl,⟨z0,rfl⟩,k0⟩:=k0
 replace k0:=c8_ k0;obtain ⟨_,_,rfl,⟨z1,rfl⟩,k0⟩:=k0
 replace k0:=dz_ k0;subst k0
 replace k1:=c8_ k1;obtain ⟨_,_,rfl,⟨z2,rfl⟩,k1⟩:=k1
 replace k1:=dz_ k1;subst k1
 have hT:Lib.TabIs Tryz.prog W "internal/strconv.uint64pow10" .u64 Lib.pow10Tab:=Lib.tabIs_of_head (t:=216) (e:=177) (n:=20) iI_ (by kernel_rfl) (by kernel_rfl) (by kernel_rfl) (by kernel_rfl) (by kernel_rfl) (show laidMet Tryz.prog ((_,Lib.tabData .u64 Lib.pow10Tab)::_) W from hL.tail.tail)
 obtain ⟨mx,hmx⟩:=cell_of_shapedOpen_int (g:=0) (t:=3) (k:=.i64) (zero:=#[.int .i64 0]) hsh (by decide +kernel) (by kernel_rfl) rfl (by kernel_rfl) (by kernel_rfl) (by kernel_rfl)
 have hgl:Glob E W NoF:=fun p hp=>by
  rcases List.mem_cons.1 hp with rfl|hp
  · obtain ⟨T,fr,h⟩:=tab_glob hT iI_;exact ⟨⟨_,T,fr,h,rfl⟩,fun h=>h.elim⟩
  rcases List.mem_cons.1 hp with rfl|hp
  · exact ⟨int_glob hmx,fun h=>h.elim⟩
  rcases List.mem_cons.1 hp with rfl|hp
  · exact ⟨m9_ (d:=.ptr (.agg [.lit (.string (nt_ Rows.laid_strconv_ErrSyntax).data.toList)])) (show laidMet Tryz.prog (("strconv.ErrSyntax", .iface "*errors.errorString" (.ptr (.agg [.lit (.string (nt_ Rows.laid_strconv_ErrSyntax).data.toList)])))::_) W from hL.tail.tail.tail.tail.tail) (by kernel_rfl) (by kernel_rfl),fun h=>h.elim⟩
  rcases List.mem_singleton.1 hp with rfl
  exact ⟨m9_ (d:=.ptr (.agg [.lit (.string (nt_ Rows.laid_strconv_ErrRange).data.toList)])) (show laidMet Tryz.prog (("strconv.ErrRange", .iface "*errors.errorString" (.ptr (.agg [.lit (.string (nt_ Rows.laid_strconv_ErrRange).data.toList)])))::_) W from hL.tail.tail.tail.tail) (by kernel_rfl) (by kernel_rfl),fun h=>h.elim⟩
 obtain ⟨n,hn⟩:=hp (aq_.mk z0 z1) z2 g0 g1
 refine (law_true ((bT_ n).h119 ((z0,z1,()),z2,()) _ hn) hgl (ag_open e0 (RL.cons e1 (.nil _ fun _=>rfl) (fun b=>rfl)))).mono fun e W' ⟨he,bel⟩ => ?_
 subst he
 exact ⟨_,rfl,_,_,_,[],_,[],hW',trodAll_mk1 (shut_bool Tryz.underlying4 _),(trodAll_cons_mk (Below.trod laidOut (by kernel_rfl) (of_decide_eq_true (by kernel_rfl)) h0 bel lt0) (trodAll_cons_mk (Below.trod laidOut (by kernel_rfl) (of_decide_eq_true (by kernel_rfl)) h1 bel lt1) trodAll_mk0)),rfl,bel.frame _,fun h=>by cases h⟩
theorem jf0:(Rows.fnExactFeedAllRow.wf (OpenSpec.ofChange Rows.fnExactFeedAllSpec))=true:=by kernel_rfl
theorem jf1:(laidOutB Tryz.prog)=true:=by kernel_rfl
theorem jf2:(mapsRowed Tryz.prog)=true:=by kernel_rfl
theorem jf3:(Tryz.f7.params.all (Tryz.prog.readableRec ·))=true:=by kernel_rfl
theorem jf4:(namedTie Tryz.prog Rows.fnExactFeedAllRow.named Rows.fnExactFeedAllSpec.vars)=true:=by kernel_rfl
theorem jf5:((Rows.fnExactFeedAllRow.stops == []))=true:=by kernel_rfl
theorem jf6:((Tryz.prog.stops == []))=true:=by kernel_rfl
theorem jf7:((Rows.fnExactFeedAllRow.knobs == []))=true:=by kernel_rfl
theorem jf8:((Tryz.prog.stopKnobs == []))=true:=by kernel_rfl
theorem jf9:((Rows.fnExactFeedAllRow.inPlace == Tryz.prog.inPlace 7))=true:=by kernel_rfl
theorem jf10:((Rows.fnExactFeedAllRow.unfollowed == Tryz.prog.unfollowed 7))=true:=by kernel_rfl
theorem jf11:((Rows.fnExactFeedAllRow.recurses == Tryz.prog.recurses 7))=true:=by kernel_rfl
theorem jf12:((Rows.fnExactFeedAllRow.named == Tryz.prog.varsNamed 7))=true:=by kernel_rfl
theorem jf13:((Rows.fnExactFeedAllRow.maps == (Tryz.f7.params.toList++Rows.fnExactFeedAllSpec.plain.varTypes Tryz.prog).any (Tryz.prog.mapsRec ·)))=true:=by kernel_rfl
theorem jf14:((Rows.fnExactFeedAllRow.ifaces == (Tryz.f7.params.toList++Rows.fnExactFeedAllSpec.plain.varTypes Tryz.prog).any (Tryz.prog.ifacesRec ·)))=true:=by kernel_rfl
theorem jf15:((Rows.fnExactFeedAllRow.mapsOut == Tryz.prog.mapsAmong Tryz.f7.resultTypes.toList))=true:=by kernel_rfl
theorem jf16:((Rows.fnExactFeedAllRow.loops == (Tryz.f7.params.toList++Rows.fnExactFeedAllSpec.plain.varTypes Tryz.prog).any (Tryz.prog.loopsFrom ·)))=true:=by kernel_rfl
theorem jf17:((Rows.fnExactFeedAllRow.wideKeys == (Tryz.f7.params.toList++Rows.fnExactFeedAllSpec.plain.varTypes Tryz.prog++Tryz.f7.resultTypes.toList).any (Tryz.prog.wideKeysFrom ·)))=true:=by kernel_rfl
theorem jf18:(Rows.fnExactFeedAllSpec.vars.all (Tryz.prog.varReadable ·))=true:=by kernel_rfl
theorem jf19:(Tryz.f7.resultTypes.all (fun t=>Tryz.prog.readableRec t&&decide (t<Tryz.prog.types.size)))=true:=by kernel_rfl
theorem jf20:((Rows.fnExactFeedAllRow.ifacesOut == Tryz.f7.resultTypes.toList.any (Tryz.prog.ifacesRec ·)))=true:=by kernel_rfl
theorem jf21:((Rows.fnExactFeedAllRow.loopsOut == Tryz.f7.resultTypes.toList.any (Tryz.prog.loopsFrom ·)))=true:=by kernel_rfl
theorem jf22:((Rows.fnExactFeedAllRow.plainKeys == Tryz.prog.plainKeys))=true:=by kernel_rfl
theorem jf23:(Rows.fnExactFeedAllRow.shortTexts.isNone)=true:=by kernel_rfl
theorem jf24:(Tryz.prog.stopsHeard)=true:=by kernel_rfl
theorem jf25:(Tryz.prog.mayEnter)=true:=by kernel_rfl
theorem jf26:((Rows.fnExactFeedAllRow.lifted == Tryz.prog.liftsFinal))=true:=by kernel_rfl
theorem jf27:((Tryz.prog.make == some Rows.fnExactFeedAllRow.make))=true:=by kernel_rfl
theorem jf28:((Rows.fnExactFeedAllRow.kinds == (if Rows.fnExactFeedAllRow.domain.isEmpty then [] else Tryz.f7.params.toList.map fun t=>match Tryz.prog.underlying t with|some (.int k)=>some k|_=>none)))=true:=by kernel_rfl
theorem jf29:((Rows.fnExactFeedAllRow.pinned == Rows.fnExactFeedAllRow.pinnedBy))=true:=by kernel_rfl
theorem jf30:((Rows.fnExactFeedAllRow.veiled == (Tryz.f7.params.toList++Rows.fnExactFeedAllSpec.plain.varTypes Tryz.prog++Tryz.f7.resultTypes.toList).any (Tryz.prog.veiledRec ·)))=true:=by kernel_rfl
theorem jf31:(Rows.fnExactFeedAllRow.veiledFits Tryz.prog Tryz.f7.params.toList (Tryz.f7.params.toList++Rows.fnExactFeedAllSpec.plain.varTypes Tryz.prog++Tryz.f7.resultTypes.toList))=true:=by kernel_rfl
theorem gC_ {a b:Bool} (h:a=true) (k:b=true):(a&&b)=true:=by rw [h,k];rfl
theorem facts:joinedFacts Tryz.pinned.checked.prog 7 Tryz.f7 Rows.fnExactFeedAllSpec Rows.fnExactFeedAllRow=true:=(gC_ (gC_ (gC_ (gC_ (gC_ (gC_ (gC_ (gC_ (gC_ (gC_ (gC_ (gC_ (gC_ (gC_ (gC_ (gC_ (gC_ (gC_ (gC_ (gC_ (gC_ (gC_ (gC_ (gC_ (gC_ (gC_ (gC_ (gC_ (gC_ (gC_ (gC_ jf0 jf1) jf2) jf3) jf4) jf5) jf6) jf7) jf8) jf9) jf10) jf11) jf12) jf13) jf14) jf15) jf16) jf17) jf18) jf19) jf20) jf21) jf22) jf23) jf24) jf25) jf26) jf27) jf28) jf29) jf30) jf31)
theorem over (hp:Pure):Rows.fnExactFeedAllRow.holds Tryz.pinned (OpenSpec.ofChange Rows.fnExactFeedAllSpec) :=
 OpenClaim.holds_of_wide 7 Tryz.f7 rfl rfl rfl rfl rfl rfl rfl ⟨rfl,rfl,rfl,rfl,rfl⟩ rfl rfl rfl rfl rfl (by kernel_rfl) Tryz.func7 facts
  (of_decide_eq_true (by kernel_rfl)) (by unfold Func.isWrapper;first|(rw [if_pos (by decide +kernel)];kernel_rfl)|(rw [if_neg (by decide +kernel)];exact ⟨rfl,rfl⟩))
  (fun os started H enc _=>lifted hp os started H enc)
end laws_FnExactFeedAll
theorem laws_FnExactFeedAll.card (hp:laws_FnExactFeedAll.Pure):Rows.FnExactFeedAllCardSaid :=
 Claim7.holds_tied_plain_at .later [] [.data,.data,.data,.data,.sentinel,.sentinel,.pinned] true (true, "eb8428fd810aea7f5a51b1307ca0e5a40614afabd133ac955bae0ee68fce9228") true
  (laws_FnExactFeedAll.over hp) (fun _ h=>by cases h) (by kernel_rfl) (fun _ h=>by cases h) fnExactFeedAll_row_tie rfl ⟨rfl,rfl⟩ (by kernel_rfl) rfl
  (fun f fn hf hfn=>by
    obtain rfl:f=7:=Option.some.inj ((show Tryz.prog.funcNamed "loop.example/g00198/laws.FnExactFeedAll" = some 7 by kernel_rfl).symm.trans hf) |>.symm
    obtain rfl:fn=Tryz.f7:=(Option.some.inj (Tryz.func7.symm.trans hfn)).symm
    exact ⟨by kernel_rfl,fun j t ht=>by
     rw [Tryz.params7] at ht
     have hm:t ∈ ([61,23]:List TypeId):=List.mem_of_getElem? (show ([61,23]:List TypeId)[j]?=some t by simpa using ht)
     have:=List.all_eq_true.1 (show ([61,23]:List TypeId).all (fun t => !Tryz.prog.wantsStandIn t)=true by kernel_rfl) t hm
     exact (by simpa using this:Tryz.prog.wantsStandIn t=false)⟩)
  (by kernel_rfl)
end Go.Pi
end
section
namespace Go.Pi
section
variable {α β:Type}
def Ev (f:Nat→Nat→Option α) (v:α):Prop:=∃ M,∀ n N,M≤n→M≤N→f n N=some v
theorem ak_ {v w:α}:Ev (fun _ _=>some v) w↔v=w :=
 ⟨fun ⟨M,h⟩=>Option.some.inj (h M M (Nat.le_refl _) (Nat.le_refl _)),fun h=>⟨0,fun _ _ _ _=>by rw [h]⟩⟩
theorem dS_ {f:Nat→Nat→Option α} {v w:α} (h:Ev f v):Ev f w↔v=w:=by
 constructor
 · rintro ⟨M',h'⟩
   obtain ⟨M,h⟩:=h
   have a:=h (max M M') (max M M') (by omega) (by omega)
   have b:=h' (max M M') (max M M') (by omega) (by omega)
   rw [a] at b
   exact Option.some.inj b
 · rintro rfl;exact h
theorem ad_ {f:Nat→Nat→Option α} {a:α} (h:Ev f a) {g:Nat→Nat→α→Option β} {v:β}:Ev (fun n N=>(f n N).bind (g n N)) v↔Ev (fun n N=>g n N a) v:=by
 obtain ⟨M,h⟩:=h
 constructor
 · rintro ⟨M',h'⟩
   refine ⟨max M M',fun n N h1 h2 => ?_⟩
   have:=h' n N (by omega) (by omega)
   simp only [h n N (by omega) (by omega),Option.bind_some] at this
   exact this
 · rintro ⟨M',h'⟩
   refine ⟨max M M',fun n N h1 h2 => ?_⟩
   simp only [h n N (by omega) (by omega),Option.bind_some]
   exact h' n N (by omega) (by omega)
theorem cW_ {v:α}:Ev (fun _ _=>none) v↔False:=by
 simp only [iff_false]
 rintro ⟨M,h⟩
 cases h M M (Nat.le_refl _) (Nat.le_refl _)
theorem aI_ {c:Bool} {f g:Nat→Nat→Option α} {v:α}:Ev (fun n N=>cond c (f n N) (g n N)) v↔(c=true→Ev f v)∧(c=false→Ev g v):=by
 cases c<;>simp
theorem bR_ {i:Int} {len:Nat} {f:Nat→Nat→Option α} {v:α}:Ev (fun n N=>inB i len (f n N)) v↔(0≤i∧i<(len:Int))∧Ev f v:=by
 unfold inB
 rw [aI_,aI_]
 by_cases h1:0≤i<;>by_cases h2:i<(len:Int)<;>simp [h1,h2,cW_]
theorem aT_ {f:Nat→Nat→Option α} {v:α} (h:Ev (fun n N=>f (n+1) N) v):Ev f v:=by
 obtain ⟨M,h⟩:=h
 refine ⟨M+1,fun n N h1 h2 => ?_⟩
 obtain ⟨m,rfl⟩:∃ m,n=m+1:=⟨n - 1,by omega⟩
 exact h m N (by omega) (by omega)
theorem cF_ {f:Nat→Nat→Option α} {v:α} (h:Ev f v):Ev (fun n _=>f n n) v:=by
 obtain ⟨M,h⟩:=h
 exact ⟨M,fun n N h1 h2=>h n n h1 h1⟩
theorem bo_ {f:Nat→Nat→Option α} {v:α} (h:Ev (fun n N=>f n (N+1)) v):Ev f v:=by
 obtain ⟨M,h⟩:=h
 refine ⟨M+1,fun n N h1 h2 => ?_⟩
 obtain ⟨m,rfl⟩:∃ m,N=m+1:=⟨N - 1,by omega⟩
 exact h n m (by omega) (by omega)
theorem ev_ex {f:Nat→Option α} {v:α} (h:Ev (fun n _=>f n) v):∃ n,f n=some v:=by
 obtain ⟨M,h⟩:=h
 exact ⟨M,h M M (Nat.le_refl _) (Nat.le_refl _)⟩
theorem ev_up {σ:Type} (L:Nat→Nat→Nat→σ→Option α) (F:Nat→σ→α) (I:Nat→σ→Prop) (len:Nat)
  (h:∀ i s,I i s→i≤len→(∀ s',I (i+1) s'→i<len→Ev (fun n N=>L n N (i+1) s') (F (i+1) s'))→Ev (fun n N=>L n (N+1) i s) (F i s)) :
  ∀ s,I 0 s→Ev (fun n _=>L n n 0 s) (F 0 s):=by
 have key:∀ d i s,d+i=len→I i s→Ev (fun n N=>L n N i s) (F i s):=by
  intro d
  induction d with
  |zero=>exact fun i s hd hI=>bo_ (h i s hI (by omega) fun s' _ hl=>absurd hl (by omega))
  |succ d ih=>exact fun i s hd hI=>bo_ (h i s hI (by omega) fun s' hI' _=>ih (i+1) s' (by omega) hI')
 exact fun s hI=>cF_ (f:=fun n N=>L n N 0 s) (key len 0 s (by omega) hI)
theorem m8_ (L:Nat→Nat→Nat→Option α) (F:Nat→α) (len:Nat)
  (h:∀ i,i≤len→(i<len→Ev (fun n N=>L n N (i+1)) (F (i+1)))→Ev (fun n N=>L n (N+1) i) (F i)) :
  Ev (fun n _=>L n n 0) (F 0) :=
 ev_up (σ:=Unit) (fun n N i _=>L n N i) (fun i _=>F i) (fun _ _=>True) len (fun i s _ hi k=>h i hi fun hl=>k () trivial hl) () trivial
end
abbrev cD_:Nat:=9223372036854775807
theorem W_id {n:Int} (h : -9223372036854775808≤n) (h':n<9223372036854775808):W n=n:=by
 show IntKind.i64.wrap n=n
 rw [IntKind.wrap_i64];omega
theorem W_up {i:Nat} {len:Nat} (h:i<len) (hl:len≤cD_):W ((i:Int)+1)=((i+1:Nat):Int):=by
 rw [W_id (by omega) (by simp only [cD_] at hl;omega)];omega
theorem dG_ {α:Type} (d:α) {a:List α} {i:Nat} (h:i<a.length):a.drop i=a.getD i d::a.drop (i+1):=by
 rw [List.drop_eq_getElem_cons h,List.getD_eq_getElem?_getD,List.getElem?_eq_getElem h];rfl
theorem kn_ {α:Type} {a:List α} {i:Nat} (h:a.length≤i):a.drop i=[]:=List.drop_eq_nil_of_le h
theorem cG_ {α:Type} (d:α) {a:List α} {i:Nat} (h:i<a.length):a.getD i d ∈ a:=by
 rw [List.getD_eq_getElem?_getD,List.getElem?_eq_getElem h];exact List.getElem_mem h
end Go.Pi
end
section
namespace Go.Pi
abbrev aK_.K7:Type:=Int→Option Int
theorem aK_.turn7 {n N:Nat} {k:Int→Option Int} {x0 x1 x2}:aK_.loop7 n k (N+1) x0 x1 x2=aK_.step7 n k (aK_.loop7 n k N) x0 x1 x2:=rfl
abbrev aH_.K4:Type:=(List Bs)→Option (List Bs)
theorem aH_.turn4 {n N:Nat} {k:(List Bs)→Option (List Bs)} {x0 x1 x2}:aH_.loop4 n k (N+1) x0 x1 x2=aH_.step4 n k (aH_.loop4 n k N) x0 x1 x2:=rfl
abbrev bf_.K3:Type:=Option Int
theorem bf_.turn3 {n N:Nat} {k:Option Int} {x0 x1}:bf_.loop3 n k (N+1) x0 x1=bf_.step3 n k (bf_.loop3 n k N) x0 x1:=rfl
abbrev aX_.K5:Type:=(List Bs)→Option (List Bs)
theorem aX_.turn5 {n N:Nat} {k:(List Bs)→Option (List Bs)} {x0 x1 x2 x3}:aX_.loop5 n k (N+1) x0 x1 x2 x3=aX_.step5 n k (aX_.loop5 n k N) x0 x1 x2 x3:=rfl
abbrev az_.K7:Type:=Bool→Int→Int→Bs→Int→Bool→Int→Option (Int × bd_)
theorem az_.turn7 {n N:Nat} {k:Bool→Int→Int→Bs→Int→Bool→Int→Option (Int × bd_)} {x0 x1 x2 x3 x4 x5 x6}:az_.loop7 n k (N+1) x0 x1 x2 x3 x4 x5 x6=az_.step7 n k (az_.loop7 n k N) x0 x1 x2 x3 x4 x5 x6:=rfl
abbrev aO_.K7:Type:=Bool→Bs→Option Bs
theorem aO_.turn7 {n N:Nat} {k:Bool→Bs→Option Bs} {x0 x1 x2}:aO_.loop7 n k (N+1) x0 x1 x2=aO_.step7 n k (aO_.loop7 n k N) x0 x1 x2:=rfl
abbrev aA_.K4:Type:=Bs→Int→Bool→Int→(List Int)→Option (Bs × bd_)
theorem aA_.turn4 {n N:Nat} {k:Bs→Int→Bool→Int→(List Int)→Option (Bs × bd_)} {x0 x1 x2 x3 x4}:aA_.loop4 n k (N+1) x0 x1 x2 x3 x4=aA_.step4 n k (aA_.loop4 n k N) x0 x1 x2 x3 x4:=rfl
abbrev aR_.K8_1:Type:=Bs→Bs→Int→Bool→Int→Int→Int→Bs→Int→Int→Bs→(List aa_)→(List Bs)→Option (aa_ × bd_)
theorem aR_.turn8 {n N:Nat} {k0:bd_→Int→Option (aa_ × bd_)} {k1:Bs→Bs→Int→Bool→Int→Int→Int→Bs→Int→Int→Bs→(List aa_)→(List Bs)→Option (aa_ × bd_)} {x0 x1 x2 x3 x4 x5 x6 x7 x8 x9 x10 x11 x12 x13}:aR_.loop8 n k0 k1 (N+1) x0 x1 x2 x3 x4 x5 x6 x7 x8 x9 x10 x11 x12 x13=aR_.step8 n k0 k1 (aR_.loop8 n k0 k1 N) x0 x1 x2 x3 x4 x5 x6 x7 x8 x9 x10 x11 x12 x13:=rfl
abbrev bh_.K3:Type:=Bs→Option Bool
theorem bh_.turn3 {n N:Nat} {k:Bs→Option Bool} {x0 x1}:bh_.loop3 n k (N+1) x0 x1=bh_.step3 n k (bh_.loop3 n k N) x0 x1:=rfl
abbrev ae_.K6:Type:=Int→Int→Bs→(List aa_)→(List Bs)→Option Bool
theorem ae_.turn6 {n N:Nat} {k:Int→Int→Bs→(List aa_)→(List Bs)→Option Bool} {x0 x1 x2 x3 x4 x5}:ae_.loop6 n k (N+1) x0 x1 x2 x3 x4 x5=ae_.step6 n k (ae_.loop6 n k N) x0 x1 x2 x3 x4 x5:=rfl
abbrev aJ_.K23_1:Type:=Int→Int→Int→Int→Bs→(List aa_)→(List Bs)→Option Int
theorem aJ_.turn23 {n N:Nat} {k0:aa_→Int→Option Int} {k1:Int→Int→Int→Int→Bs→(List aa_)→(List Bs)→Option Int} {x0 x1 x2 x3 x4 x5 x6 x7 x8}:aJ_.loop23 n k0 k1 (N+1) x0 x1 x2 x3 x4 x5 x6 x7 x8=aJ_.step23 n k0 k1 (aJ_.loop23 n k0 k1 N) x0 x1 x2 x3 x4 x5 x6 x7 x8:=rfl
abbrev a1_.K4:Type:=(List Int)→Option Bs
theorem a1_.turn4 {n N:Nat} {k:(List Int)→Option Bs} {x0 x1 x2}:a1_.loop4 n k (N+1) x0 x1 x2=a1_.step4 n k (a1_.loop4 n k N) x0 x1 x2:=rfl
abbrev aD_.K17_1:Type:=Bs→Int→Int→Bs→(List aa_)→(List Bs)→Option Bs
theorem aD_.turn17 {n N:Nat} {k0:aa_→Option Bs} {k1:Bs→Int→Int→Bs→(List aa_)→(List Bs)→Option Bs} {x0 x1 x2 x3 x4 x5 x6}:aD_.loop17 n k0 k1 (N+1) x0 x1 x2 x3 x4 x5 x6=aD_.step17 n k0 k1 (aD_.loop17 n k0 k1 N) x0 x1 x2 x3 x4 x5 x6:=rfl
abbrev bA_.K3:Type:=Option Int
theorem bA_.turn3 {n N:Nat} {k:Option Int} {x0 x1 x2 x3 x4 x5 x6}:bA_.loop3 n k (N+1) x0 x1 x2 x3 x4 x5 x6=bA_.step3 n k (bA_.loop3 n k N) x0 x1 x2 x3 x4 x5 x6:=rfl
abbrev be_.K4_1:Type:=Int→Int→Bs→Int→Int→Bs→(List aa_)→(List Bs)→Option aa_
theorem be_.turn4 {n N:Nat} {k0:aa_→Option aa_} {k1:Int→Int→Bs→Int→Int→Bs→(List aa_)→(List Bs)→Option aa_} {x0 x1 x2 x3 x4 x5 x6 x7 x8 x9 x10 x11 x12 x13}:be_.loop4 n k0 k1 (N+1) x0 x1 x2 x3 x4 x5 x6 x7 x8 x9 x10 x11 x12 x13=be_.step4 n k0 k1 (be_.loop4 n k0 k1 N) x0 x1 x2 x3 x4 x5 x6 x7 x8 x9 x10 x11 x12 x13:=rfl
abbrev aQ_.K6:Type:=Bs→(List Bs)→(List Bs)→(List Int)→Option ((List Bs) × Bool)
theorem aQ_.turn6 {n N:Nat} {k:Bs→(List Bs)→(List Bs)→(List Int)→Option ((List Bs) × Bool)} {x0 x1 x2 x3 x4}:aQ_.loop6 n k (N+1) x0 x1 x2 x3 x4=aQ_.step6 n k (aQ_.loop6 n k N) x0 x1 x2 x3 x4:=rfl
abbrev ai_.K6_1:Type:=Int→Int→Bs→(List aa_)→(List Bs)→Int→Int→Bs→(List aa_)→(List Bs)→Option Bool
theorem ai_.turn6 {n N:Nat} {k0:aa_→aa_→Option Bool} {k1:Int→Int→Bs→(List aa_)→(List Bs)→Int→Int→Bs→(List aa_)→(List Bs)→Option Bool} {x0 x1 x2 x3 x4 x5 x6 x7 x8 x9 x10}:ai_.loop6 n k0 k1 (N+1) x0 x1 x2 x3 x4 x5 x6 x7 x8 x9 x10=ai_.step6 n k0 k1 (ai_.loop6 n k0 k1 N) x0 x1 x2 x3 x4 x5 x6 x7 x8 x9 x10:=rfl
abbrev ai_.K14_1:Type:=Option Bool
theorem ai_.turn14 {n N:Nat} {k0:aa_→aa_→Option Bool} {k1:Option Bool} {x0 x1 x2 x3 x4 x5 x6 x7 x8 x9 x10}:ai_.loop14 n k0 k1 (N+1) x0 x1 x2 x3 x4 x5 x6 x7 x8 x9 x10=ai_.step14 n k0 k1 (ai_.loop14 n k0 k1 N) x0 x1 x2 x3 x4 x5 x6 x7 x8 x9 x10:=rfl
abbrev bx_.K6:Type:=Int→(List Bs)→Int→Int→Bs→(List aa_)→(List Bs)→Option Bool
theorem bx_.turn6 {n N:Nat} {k:Int→(List Bs)→Int→Int→Bs→(List aa_)→(List Bs)→Option Bool} {x0 x1 x2 x3 x4 x5 x6 x7}:bx_.loop6 n k (N+1) x0 x1 x2 x3 x4 x5 x6 x7=bx_.step6 n k (bx_.loop6 n k N) x0 x1 x2 x3 x4 x5 x6 x7:=rfl
abbrev au_.K10:Type:=(List Bs)→Int→(List Int)→Option Bs
theorem au_.turn10 {n N:Nat} {k:(List Bs)→Int→(List Int)→Option Bs} {x0 x1 x2 x3}:au_.loop10 n k (N+1) x0 x1 x2 x3=au_.step10 n k (au_.loop10 n k N) x0 x1 x2 x3:=rfl
abbrev au_.K4:Type:=(List Int)→Option Bs
theorem au_.turn4 {n N:Nat} {k:(List Int)→Option Bs} {x0 x1 x2}:au_.loop4 n k (N+1) x0 x1 x2=au_.step4 n k (au_.loop4 n k N) x0 x1 x2:=rfl
abbrev bp_.K5:Type:=Bs→Bool→Int→Int→Bs→(List aa_)→(List Bs)→Int→Int→Bs→Int→Int→Bs→(List aa_)→(List Bs)→Option aa_
theorem bp_.turn5 {n N:Nat} {k:Bs→Bool→Int→Int→Bs→(List aa_)→(List Bs)→Int→Int→Bs→Int→Int→Bs→(List aa_)→(List Bs)→Option aa_} {x0 x1 x2 x3 x4 x5 x6 x7 x8 x9 x10 x11 x12 x13 x14 x15 x16 x17 x18 x19 x20}:bp_.loop5 n k (N+1) x0 x1 x2 x3 x4 x5 x6 x7 x8 x9 x10 x11 x12 x13 x14 x15 x16 x17 x18 x19 x20=bp_.step5 n k (bp_.loop5 n k N) x0 x1 x2 x3 x4 x5 x6 x7 x8 x9 x10 x11 x12 x13 x14 x15 x16 x17 x18 x19 x20:=rfl
abbrev aN_.K7:Type:=Int→Int→Bs→(List aa_)→(List Bs)→Int→Int→Int→Bs→Int→Int→Int→Bs→Int→Int→Bs→(List aa_)→(List Bs)→Option (TOp × Bool)
theorem aN_.turn7 {n N:Nat} {k:Int→Int→Bs→(List aa_)→(List Bs)→Int→Int→Int→Bs→Int→Int→Int→Bs→Int→Int→Bs→(List aa_)→(List Bs)→Option (TOp × Bool)} {x0 x1 x2 x3 x4 x5 x6 x7 x8 x9 x10 x11 x12 x13 x14 x15 x16 x17 x18 x19 x20 x21 x22 x23 x24}:aN_.loop7 n k (N+1) x0 x1 x2 x3 x4 x5 x6 x7 x8 x9 x10 x11 x12 x13 x14 x15 x16 x17 x18 x19 x20 x21 x22 x23 x24=aN_.step7 n k (aN_.loop7 n k N) x0 x1 x2 x3 x4 x5 x6 x7 x8 x9 x10 x11 x12 x13 x14 x15 x16 x17 x18 x19 x20 x21 x22 x23 x24:=rfl
abbrev bg_.K4:Type:=(List TOp)→Int→Int→Bs→Int→Int→Bs→(List aa_)→Option (aa_ × Bool)
theorem bg_.turn4 {n N:Nat} {k:(List TOp)→Int→Int→Bs→Int→Int→Bs→(List aa_)→Option (aa_ × Bool)} {x0 x1 x2 x3 x4 x5 x6 x7 x8}:bg_.loop4 n k (N+1) x0 x1 x2 x3 x4 x5 x6 x7 x8=bg_.step4 n k (bg_.loop4 n k N) x0 x1 x2 x3 x4 x5 x6 x7 x8:=rfl
abbrev ac_.K20:Type:=Bs→Int→Int→Int→Int→Int→Int→Bs→Int→Int→Int→Int→Int→Bs→(List Bs)→(List aa_)→(List Bs)→(List TOp)→Option (ah_ × Bool)
theorem ac_.turn20 {n N:Nat} {k:Bs→Int→Int→Int→Int→Int→Int→Bs→Int→Int→Int→Int→Int→Bs→(List Bs)→(List aa_)→(List Bs)→(List TOp)→Option (ah_ × Bool)} {x0 x1 x2 x3 x4 x5 x6 x7 x8 x9 x10 x11 x12 x13 x14 x15 x16 x17 x18 x19 x20 x21 x22 x23}:ac_.loop20 n k (N+1) x0 x1 x2 x3 x4 x5 x6 x7 x8 x9 x10 x11 x12 x13 x14 x15 x16 x17 x18 x19 x20 x21 x22 x23=ac_.step20 n k (ac_.loop20 n k N) x0 x1 x2 x3 x4 x5 x6 x7 x8 x9 x10 x11 x12 x13 x14 x15 x16 x17 x18 x19 x20 x21 x22 x23:=rfl
abbrev ac_.K5:Type:=Bs→Int→Int→Int→Int→Int→Bs→Int→Int→Int→Int→Int→Bs→(List aa_)→(List Bs)→(List TOp)→Option (ah_ × Bool)
theorem ac_.turn5 {n N:Nat} {k:Bs→Int→Int→Int→Int→Int→Bs→Int→Int→Int→Int→Int→Bs→(List aa_)→(List Bs)→(List TOp)→Option (ah_ × Bool)} {x0 x1 x2 x3 x4 x5 x6 x7 x8 x9 x10 x11 x12 x13 x14 x15 x16 x17}:ac_.loop5 n k (N+1) x0 x1 x2 x3 x4 x5 x6 x7 x8 x9 x10 x11 x12 x13 x14 x15 x16 x17=ac_.step5 n k (ac_.loop5 n k N) x0 x1 x2 x3 x4 x5 x6 x7 x8 x9 x10 x11 x12 x13 x14 x15 x16 x17:=rfl
abbrev bu_.K8:Type:=Bs→Bs→Bool→(List ah_)→Bs→Bool→Option (aq_ × (List ah_))
theorem bu_.turn8 {n N:Nat} {k:Bs→Bs→Bool→(List ah_)→Bs→Bool→Option (aq_ × (List ah_))} {x0 x1 x2 x3 x4 x5}:bu_.loop8 n k (N+1) x0 x1 x2 x3 x4 x5=bu_.step8 n k (bu_.loop8 n k N) x0 x1 x2 x3 x4 x5:=rfl
abbrev bb_.K4:Type:=Bs→Bool→Bs→Bool→(List ah_)→Option (aq_ × (List ah_))
theorem bb_.turn4 {n N:Nat} {k:Bs→Bool→Bs→Bool→(List ah_)→Option (aq_ × (List ah_))} {x0 x1 x2 x3 x4 x5 x6}:bb_.loop4 n k (N+1) x0 x1 x2 x3 x4 x5 x6=bb_.step4 n k (bb_.loop4 n k N) x0 x1 x2 x3 x4 x5 x6:=rfl
abbrev aj_.K4:Type:=Bs→Bool→Option (Bs × aS_)
theorem aj_.turn4 {n N:Nat} {k:Bs→Bool→Option (Bs × aS_)} {x0 x1 x2}:aj_.loop4 n k (N+1) x0 x1 x2=aj_.step4 n k (aj_.loop4 n k N) x0 x1 x2:=rfl
abbrev ag_.K3:Type:=Int→Bs→Bool→Int→Int→Bs→Option (aa_ × aS_)
theorem ag_.turn3 {n N:Nat} {k:Int→Bs→Bool→Int→Int→Bs→Option (aa_ × aS_)} {x0 x1 x2 x3 x4 x5}:ag_.loop3 n k (N+1) x0 x1 x2 x3 x4 x5=ag_.step3 n k (ag_.loop3 n k N) x0 x1 x2 x3 x4 x5:=rfl
abbrev af_.K7_1:Type:=Bs→Bs→Bool→Int→Int→Bs→Int→Int→Bs→(List aa_)→(List Bs)→Option (aa_ × aS_)
theorem af_.turn7 {n N:Nat} {k0:aS_→Int→Option (aa_ × aS_)} {k1:Bs→Bs→Bool→Int→Int→Bs→Int→Int→Bs→(List aa_)→(List Bs)→Option (aa_ × aS_)} {x0 x1 x2 x3 x4 x5 x6 x7 x8 x9 x10 x11 x12 x13}:af_.loop7 n k0 k1 (N+1) x0 x1 x2 x3 x4 x5 x6 x7 x8 x9 x10 x11 x12 x13=af_.step7 n k0 k1 (af_.loop7 n k0 k1 N) x0 x1 x2 x3 x4 x5 x6 x7 x8 x9 x10 x11 x12 x13:=rfl
abbrev av_.K3:Type:=Bs→Option Bool
theorem av_.turn3 {n N:Nat} {k:Bs→Option Bool} {x0 x1 x2}:av_.loop3 n k (N+1) x0 x1 x2=av_.step3 n k (av_.loop3 n k N) x0 x1 x2:=rfl
abbrev ao_.K3:Type:=Option Bool
theorem ao_.turn3 {n N:Nat} {k:Option Bool} {x0 x1 x2 x3}:ao_.loop3 n k (N+1) x0 x1 x2 x3=ao_.step3 n k (ao_.loop3 n k N) x0 x1 x2 x3:=rfl
abbrev a3_.K7_1:Type:=Int→Option Int
theorem a3_.turn7 {n N:Nat} {k0:aa_→Int→Option Int} {k1:Int→Option Int} {x0 x1 x2 x3 x4}:a3_.loop7 n k0 k1 (N+1) x0 x1 x2 x3 x4=a3_.step7 n k0 k1 (a3_.loop7 n k0 k1 N) x0 x1 x2 x3 x4:=rfl
abbrev bi_.K4:Type:=(List Int)→Option Bs
theorem bi_.turn4 {n N:Nat} {k:(List Int)→Option Bs} {x0 x1 x2 x3}:bi_.loop4 n k (N+1) x0 x1 x2 x3=bi_.step4 n k (bi_.loop4 n k N) x0 x1 x2 x3:=rfl
abbrev aU_.K4_1:Type:=Int→Int→Bs→(List aa_)→(List Bs)→(List Bs)→Option Bs
theorem aU_.turn4 {n N:Nat} {k0:aa_→Option Bs} {k1:Int→Int→Bs→(List aa_)→(List Bs)→(List Bs)→Option Bs} {x0 x1 x2 x3 x4 x5 x6 x7 x8}:aU_.loop4 n k0 k1 (N+1) x0 x1 x2 x3 x4 x5 x6 x7 x8=aU_.step4 n k0 k1 (aU_.loop4 n k0 k1 N) x0 x1 x2 x3 x4 x5 x6 x7 x8:=rfl
abbrev al_.K3:Type:=Option Int
theorem al_.turn3 {n N:Nat} {k:Option Int} {x0 x1 x2 x3}:al_.loop3 n k (N+1) x0 x1 x2 x3=al_.step3 n k (al_.loop3 n k N) x0 x1 x2 x3:=rfl
abbrev aP_.K4_1:Type:=Int→Int→Bs→Int→Int→Bs→(List aa_)→(List Bs)→Option aa_
theorem aP_.turn4 {n N:Nat} {k0:aa_→Option aa_} {k1:Int→Int→Bs→Int→Int→Bs→(List aa_)→(List Bs)→Option aa_} {x0 x1 x2 x3 x4 x5 x6 x7 x8 x9 x10}:aP_.loop4 n k0 k1 (N+1) x0 x1 x2 x3 x4 x5 x6 x7 x8 x9 x10=aP_.step4 n k0 k1 (aP_.loop4 n k0 k1 N) x0 x1 x2 x3 x4 x5 x6 x7 x8 x9 x10:=rfl
abbrev a2_.K4:Type:=Bs→Option Bs
theorem a2_.turn4 {n N:Nat} {k:Bs→Option Bs} {x0 x1 x2 x3}:a2_.loop4 n k (N+1) x0 x1 x2 x3=a2_.step4 n k (a2_.loop4 n k N) x0 x1 x2 x3:=rfl
abbrev a8_.K7:Type:=Bs→(List Bs)→Option ((List Bs) × Bool)
theorem a8_.turn7 {n N:Nat} {k:Bs→(List Bs)→Option ((List Bs) × Bool)} {x0 x1 x2 x3 x4}:a8_.loop7 n k (N+1) x0 x1 x2 x3 x4=a8_.step7 n k (a8_.loop7 n k N) x0 x1 x2 x3 x4:=rfl
abbrev by_.K3:Type:=Int→(List Bs)→Int→Int→Bs→(List aa_)→(List Bs)→Option Bool
theorem by_.turn3 {n N:Nat} {k:Int→(List Bs)→Int→Int→Bs→(List aa_)→(List Bs)→Option Bool} {x0 x1 x2 x3 x4 x5 x6 x7 x8 x9}:by_.loop3 n k (N+1) x0 x1 x2 x3 x4 x5 x6 x7 x8 x9=by_.step3 n k (by_.loop3 n k N) x0 x1 x2 x3 x4 x5 x6 x7 x8 x9:=rfl
abbrev am_.K6:Type:=Option Bool
theorem am_.turn6 {n N:Nat} {k:Option Bool} {x0 x1 x2 x3}:am_.loop6 n k (N+1) x0 x1 x2 x3=am_.step6 n k (am_.loop6 n k N) x0 x1 x2 x3:=rfl
abbrev ab_.K6_1:Type:=Option Bool
theorem ab_.turn6 {n N:Nat} {k0:aa_→aa_→Option Bool} {k1:Option Bool} {x0 x1 x2 x3}:ab_.loop6 n k0 k1 (N+1) x0 x1 x2 x3=ab_.step6 n k0 k1 (ab_.loop6 n k0 k1 N) x0 x1 x2 x3:=rfl
abbrev bl_.K4:Type:=Int→Int→Bs→(List aa_)→(List Bs)→(List TOp)→Option ((List TOp) × Bool)
theorem bl_.turn4 {n N:Nat} {k:Int→Int→Bs→(List aa_)→(List Bs)→(List TOp)→Option ((List TOp) × Bool)} {x0 x1 x2 x3 x4 x5 x6 x7 x8}:bl_.loop4 n k (N+1) x0 x1 x2 x3 x4 x5 x6 x7 x8=bl_.step4 n k (bl_.loop4 n k N) x0 x1 x2 x3 x4 x5 x6 x7 x8:=rfl
abbrev aZ_.K4:Type:=Int→Int→Bs→Int→Int→Bs→(List aa_)→Option (aa_ × Bool)
theorem aZ_.turn4 {n N:Nat} {k:Int→Int→Bs→Int→Int→Bs→(List aa_)→Option (aa_ × Bool)} {x0 x1 x2 x3 x4 x5 x6 x7 x8 x9}:aZ_.loop4 n k (N+1) x0 x1 x2 x3 x4 x5 x6 x7 x8 x9=aZ_.step4 n k (aZ_.loop4 n k N) x0 x1 x2 x3 x4 x5 x6 x7 x8 x9:=rfl
abbrev bs_.K5:Type:=Bs→Bool→Bs→Bool→(List ah_)→Option (aq_ × (List ah_))
theorem bs_.turn5 {n N:Nat} {k:Bs→Bool→Bs→Bool→(List ah_)→Option (aq_ × (List ah_))} {x0 x1 x2 x3 x4}:bs_.loop5 n k (N+1) x0 x1 x2 x3 x4=bs_.step5 n k (bs_.loop5 n k N) x0 x1 x2 x3 x4:=rfl
abbrev a9_.K4:Type:=Bs→Bool→Bs→Bool→(List ah_)→Option (aq_ × (List ah_))
theorem a9_.turn4 {n N:Nat} {k:Bs→Bool→Bs→Bool→(List ah_)→Option (aq_ × (List ah_))} {x0 x1 x2 x3 x4 x5 x6 x7}:a9_.loop4 n k (N+1) x0 x1 x2 x3 x4 x5 x6 x7=a9_.step4 n k (a9_.loop4 n k N) x0 x1 x2 x3 x4 x5 x6 x7:=rfl
abbrev aL_.K6:Type:=Option Bool
theorem aL_.turn6 {n N:Nat} {k:Option Bool} {x0 x1 x2}:aL_.loop6 n k (N+1) x0 x1 x2=aL_.step6 n k (aL_.loop6 n k N) x0 x1 x2:=rfl
abbrev a6_.K6_1:Type:=Option Bool
theorem a6_.turn6 {n N:Nat} {k0:aa_→aa_→Option Bool} {k1:Option Bool} {x0 x1 x2}:a6_.loop6 n k0 k1 (N+1) x0 x1 x2=a6_.step6 n k0 k1 (a6_.loop6 n k0 k1 N) x0 x1 x2:=rfl
abbrev br_.K6:Type:=Option Bool
theorem br_.turn6 {n N:Nat} {k:Option Bool} {x0 x1 x2}:br_.loop6 n k (N+1) x0 x1 x2=br_.step6 n k (br_.loop6 n k N) x0 x1 x2:=rfl
abbrev aV_.K6:Type:=Option Bool
theorem aV_.turn6 {n N:Nat} {k:Option Bool} {x0 x1 x2}:aV_.loop6 n k (N+1) x0 x1 x2=aV_.step6 n k (aV_.loop6 n k N) x0 x1 x2:=rfl
abbrev aG_.K6:Type:=Bs→Option Bs
theorem aG_.turn6 {n N:Nat} {k:Bs→Option Bs} {x0 x1}:aG_.loop6 n k (N+1) x0 x1=aG_.step6 n k (aG_.loop6 n k N) x0 x1:=rfl
abbrev ar_.K3:Type:=Int→(List Bs)→Option (Int × (List Bs))
theorem ar_.turn3 {n N:Nat} {k:Int→(List Bs)→Option (Int × (List Bs))} {x0 x1 x2}:ar_.loop3 n k (N+1) x0 x1 x2=ar_.step3 n k (ar_.loop3 n k N) x0 x1 x2:=rfl
abbrev aw_.K3_1:Type:=Int→(List aa_)→Option (Int × (List aa_))
theorem aw_.turn3 {n N:Nat} {k0:(List aa_)→Int→Option (Int × (List aa_))} {k1:Int→(List aa_)→Option (Int × (List aa_))} {x0 x1 x2}:aw_.loop3 n k0 k1 (N+1) x0 x1 x2=aw_.step3 n k0 k1 (aw_.loop3 n k0 k1 N) x0 x1 x2:=rfl
abbrev a4_.K3:Type:=Int→(List TOp)→Option (Int × (List TOp))
theorem a4_.turn3 {n N:Nat} {k:Int→(List TOp)→Option (Int × (List TOp))} {x0 x1 x2}:a4_.loop3 n k (N+1) x0 x1 x2=a4_.step3 n k (a4_.loop3 n k N) x0 x1 x2:=rfl
abbrev aE_.K3:Type:=Int→(List ah_)→Option (Int × (List ah_))
theorem aE_.turn3 {n N:Nat} {k:Int→(List ah_)→Option (Int × (List ah_))} {x0 x1 x2}:aE_.loop3 n k (N+1) x0 x1 x2=aE_.step3 n k (aE_.loop3 n k N) x0 x1 x2:=rfl
abbrev as_.K3:Type:=Int→Option Int
theorem as_.turn3 {n N:Nat} {k:Int→Option Int} {x0 x1 x2}:as_.loop3 n k (N+1) x0 x1 x2=as_.step3 n k (as_.loop3 n k N) x0 x1 x2:=rfl
abbrev ax_.K3_1:Type:=Int→Option Int
theorem ax_.turn3 {n N:Nat} {k0:(List aa_)→Int→Option Int} {k1:Int→Option Int} {x0 x1 x2}:ax_.loop3 n k0 k1 (N+1) x0 x1 x2=ax_.step3 n k0 k1 (ax_.loop3 n k0 k1 N) x0 x1 x2:=rfl
abbrev a5_.K3:Type:=Int→Option Int
theorem a5_.turn3 {n N:Nat} {k:Int→Option Int} {x0 x1 x2}:a5_.loop3 n k (N+1) x0 x1 x2=a5_.step3 n k (a5_.loop3 n k N) x0 x1 x2:=rfl
abbrev aC_.K3:Type:=Int→Option Int
theorem aC_.turn3 {n N:Nat} {k:Int→Option Int} {x0 x1 x2}:aC_.loop3 n k (N+1) x0 x1 x2=aC_.step3 n k (aC_.loop3 n k N) x0 x1 x2:=rfl
end Go.Pi
end
section
namespace Go.Pi
def fS_ (p:Nat→Bool):Nat→Nat→Bool
 |0,_=>true
 |d+1,i=>p i&&fS_ p d (i+1)
def mh_ (p:Nat→Bool) (len:Nat):Bool:=fS_ p len 0
theorem gn_ (L:Nat→Nat→Nat→Option Bool) (p:Nat→Bool) {len:Nat} {v:Bool}
  (h:∀ i w,i<len→Ev (fun n N=>L n N (i+1)) w→Ev (fun n N=>L n (N+1) i) (p i&&w)) (h2:Ev (fun n N=>L n (N+1) len) v) :
  Ev (fun n _=>L n n 0) (mh_ p len&&v):=by
 have key:∀ d i,d+i=len→Ev (fun n N=>L n N i) (fS_ p d i&&v):=by
  intro d
  induction d with
  |zero=>intro i hd;obtain rfl:i=len:=by omega
         simpa [fS_] using bo_ (f:=fun n N=>L n N i) h2
  |succ d ih=>intro i hd
              have:=h i _ (by omega) (ih (i+1) (by omega))
              rw [←Bool.and_assoc] at this
              exact bo_ (f:=fun n N=>L n N i) this
 exact cF_ (f:=fun n N=>L n N 0) (key len 0 (by omega))
theorem h5_ {α:Type} {f:Nat→Nat→Option α} {v w:α} (h:Ev f v) (e:v=w):Ev f w:=e ▸ h
def inn (x lo hi:Int):Bool:=decide (lo≤x)&&decide (x≤hi)
theorem inn_iff {x lo hi:Int}:inn x lo hi=true↔lo≤x∧x≤hi:=by simp [inn]
theorem l1In_ev {x lo hi:Int}:Ev (fun n _=>cw_ n x lo hi) (inn x lo hi):=by
 refine aT_ ?_
 simp only [cw_,aI_,ak_,inn]
 grind
theorem ky_ {x lo hi:Int}:Ev (fun n _=>aW_ n x lo hi) (inn x lo hi):=by
 refine aT_ ?_
 simp only [aW_,aI_,ak_,inn]
 grind
section
variable {β:Type} {x lo hi:Int} {g:Nat→Nat→Bool→Option β} {v:β}
theorem l1In_b:Ev (fun n N=>(cw_ n x lo hi).bind (g n N)) v↔Ev (fun n N=>g n N (inn x lo hi)) v:=ad_ l1In_ev
theorem ez_:Ev (fun n N=>(aW_ n x lo hi).bind (g n N)) v↔Ev (fun n N=>g n N (inn x lo hi)) v:=ad_ ky_
theorem isNum_b:Ev (fun n N=>(bj_ n x).bind (g n N)) v↔Ev (fun n N=>g n N (inn x (-1000000000) 1000000000)) v :=
 ad_ (aT_ (by simp only [bj_,ez_,ak_]))
end
theorem cV_ {i len:Nat} (h:i<len):decide ((i:Int)<(len:Int))=true:=by simp;omega
theorem cR_ {len:Nat}:decide ((len:Int)<(len:Int))=false:=by simp
theorem cK_ {i len:Nat} (h:i<len):((0:Int)≤(i:Int)∧(i:Int)<(len:Int))↔True:=by simp;omega
end Go.Pi
end
section
namespace Go.Pi
abbrev cap:Nat:=1048576
def dx_ {α:Type} (f:α→Nat):List α→Nat
 |[]=>0
 |x::xs=>f x+dx_ f xs
def c7_ {α:Type} (f:α→Nat) (l:List α):Nat:=l.length+dx_ f l
def lenL {α:Type} (P:α→Prop) (l:List α):Prop:=l.length≤cD_∧∀ x ∈ l,P x
def szB (s:Bs):Nat:=s.length
def lenB (s:Bs):Prop:=s.length≤cD_
theorem eP_ {α:Type} (f:α→Nat) (d:α) {a:List α} {i:Nat} (h:i<a.length):dx_ f (a.drop i)=f (a.getD i d)+dx_ f (a.drop (i+1)):=by
 rw [dG_ d h];rfl
theorem jS_ {α:Type} (f:α→Nat) (x:α):∀ (a:List α) (i:Nat),dx_ f ((a.set i x).drop (i+1))=dx_ f (a.drop (i+1))
 |[],_=>rfl
 |_::_,0=>rfl
 |_::a,i+1=>by simpa using jS_ f x a i
theorem hk_ {α:Type} (f:α→Nat) {a:List α} {x:α} (h:x ∈ a):f x≤dx_ f a:=by
 induction a with
 |nil=>cases h
 |cons y a ih=>
  simp only [dx_]
  rcases List.mem_cons.1 h with rfl|h
  · omega
  · have:=ih h;omega
theorem h0_ {α:Type} (f:α→Nat) {a:List α} {x:α} (h:x ∈ a):1+f x≤c7_ f a:=by
 unfold c7_
 have:=hk_ f h
 have:=List.length_pos_of_mem h
 omega
theorem dd_ {α:Type} (f:α→Nat) (a:List α):a.length≤c7_ f a:=by unfold c7_;omega
theorem take_set {α:Type} (d:α) {a s:List α} {i:Nat} (h:i<a.length) (hs:s.length=a.length) (ht:s.take i=a.take i):(s.set i (a.getD i d)).take (i+1)=a.take (i+1):=by
 rw [List.take_add_one,List.take_add_one,List.take_set_of_le (Nat.le_refl i),ht,List.getElem?_set_self (by omega),List.getD_eq_getElem?_getD,List.getElem?_eq_getElem h]
 rfl
theorem h4_ {α:Type} (d:α) {a:List α} {i:Nat} (h:i<a.length) (x:α):(a.set i x).getD i d=x:=by
 rw [List.getD_eq_getElem?_getD,List.getElem?_set_self h];rfl
def gK_ (l:Int) (s:Nat):Int:=if (s:Int)≤l then l - s else -1
theorem kH_ {l:Int} (h:0≤l):gK_ l 0=l:=by unfold gK_;rw [if_pos (by omega)];omega
theorem my_ {l:Int} {s t:Nat} (h0:0≤l):(gK_ l s<0→gK_ l (s+t) = -1)∧(¬ gK_ l s<0→(0≤gK_ l s∧gK_ l s≤l)∧gK_ (gK_ l s) t=gK_ l (s+t)):=by
 unfold gK_
 constructor<;>intro h
 · split at h
   · omega
   · rw [if_neg (by omega)]
 · split at h
   · rename_i h1
     rw [if_pos h1]
     refine ⟨by omega,?_⟩
     by_cases h2:(t:Int)≤l - s
     · rw [if_pos h2,if_pos (by omega)];omega
     · rw [if_neg h2,if_neg (by omega)]
   · omega
theorem subS_ok {l:Int} {s:Nat} (h:¬ gK_ l s<0):(s:Int)≤l:=by
 unfold gK_ at h;split at h<;>omega
section
variable {α β:Type}
theorem ev_szE {l:Int} (h:0≤l):Ev (fun _ _=>some l) (gK_ l 0):=by rw [kH_ h];exact ak_.2 rfl
theorem ev_szL {l:Int} {m t:Nat} (h0:0≤l) (h1:l≤1048576) (hm:m≤cD_) {g:Nat→Nat→Int→Option Int} (k:∀ r,0≤r→r≤1048576→Ev (fun n N=>g n N r) (gK_ r t)) :
  Ev (fun n N=>cond (decide (W (l - (m:Int))<0)) (some (-1)) (g n N (W (l - (m:Int))))) (gK_ l (m+t)):=by
 simp only [cD_] at hm
 rw [W_id (by omega) (by omega)]
 have e:l - (m:Int)<0∨l - m=gK_ l m:=by unfold gK_;split<;>omega
 rw [aI_]
 refine ⟨fun h => ?_,fun h => ?_⟩
 · have h:=of_decide_eq_true h
   rw [(my_ h0).1 (by unfold gK_;rw [if_neg (by omega)];omega)]
   exact ak_.2 rfl
 · have h:=of_decide_eq_false h
   have e:=e.resolve_left h
   have:=(my_ (l:=l) (s:=m) (t:=t) h0).2 (by rw [←e];exact h)
   rw [←this.2,←e]
   exact k _ (by omega) (by omega)
theorem sz_list (d:α) (f:α→Nat) (L:Nat→Nat→Int→Nat→Option Int) (a:List α)
  (h1:∀ i l,i<a.length→0≤l→l≤1048576→∀ t,(∀ r,0≤r→r≤1048576→Ev (fun n N=>L n N r (i+1)) (gK_ r t))→Ev (fun n N=>L n (N+1) l i) (gK_ l (f (a.getD i d)+t)))
  (h2:∀ l,Ev (fun n N=>L n (N+1) l a.length) l) (l:Int) (hl:0≤l) (hl':l≤1048576):Ev (fun n _=>L n n l 0) (gK_ l (dx_ f a)):=by
 have key:∀ j i,j+i=a.length→∀ l,0≤l→l≤1048576→Ev (fun n N=>L n N l i) (gK_ l (dx_ f (a.drop i))):=by
  intro j
  induction j with
  |zero=>
   intro i hi l h0 _
   rw [kn_ (by omega)]
   refine bo_ ?_
   have:i=a.length:=by omega
   subst this
   rw [show dx_ f []=0 from rfl,kH_ h0]
   exact h2 l
  |succ j ih=>
   intro i hi l h0 h1'
   rw [eP_ f d (by omega)]
   exact bo_ (h1 i l (by omega) h0 h1' _ fun r a b=>ih (i+1) (by omega) r a b)
 have:=key a.length 0 (by omega) l hl hl'
 rw [List.drop_zero] at this
 exact cF_ (f:=fun n N=>L n N l 0) this
theorem ev_copy (d:α) (a:List α) (L:Nat→Nat→Nat→List α→Option (List α))
  (h1:∀ i s,i<a.length→s.length=a.length→Ev (fun n N=>L n N (i+1) (s.set i (a.getD i d))) a→Ev (fun n N=>L n (N+1) i s) a)
  (h2:Ev (fun n N=>L n (N+1) a.length a) a) (s:List α) (hs:s.length=a.length):Ev (fun n _=>L n n 0 s) a:=by
 refine ev_up L (fun _ _=>a) (fun i s=>s.length=a.length∧s.take i=a.take i) a.length (fun i s hI hi k => ?_) s ⟨hs,by simp⟩
 by_cases h:i<a.length
 · exact h1 i s h hI.1 (k _ ⟨by simp [hI.1],take_set d h hI.1 hI.2⟩ h)
 · have e:i=a.length:=by omega
   subst e
   have:s=a:=by
    have:=hI.2
    rwa [List.take_of_length_le (by omega),List.take_of_length_le (Nat.le_refl _)] at this
   subst this
   exact h2
theorem jp_ (Q:α→Prop) (d:α) (f:α→Nat) (LM:Nat→Nat→Int→Nat→List α→Option (Int × List α)) (LH:Nat→Nat→List α→Int→Nat→Option Int)
  (hm:∀ i (a:List α) (k:Int),i<a.length→Q (a.getD i d)→a.length≤cD_→0≤k→k+32*(1+f (a.getD i d):Nat)≤cD_ →
    ∃ k' x',k≤k'∧k'≤k+32*(1+f (a.getD i d):Nat)∧(∀ F,Ev (fun n N=>LM n N k' (i+1) (a.set i x')) F→Ev (fun n N=>LM n (N+1) k i a) F) ∧
      ∀ (b:List α) F,i<b.length→b.length≤cD_→b.getD i d=x'→Ev (fun n N=>LH n N b k' (i+1)) F→Ev (fun n N=>LH n (N+1) b k i) F)
  (em:∀ (a:List α) k,Ev (fun n N=>LM n (N+1) k a.length a) (k,a)) (eh:∀ (a:List α) k,Ev (fun n N=>LH n (N+1) a k a.length) k)
  (a:List α) (k:Int) (hq:∀ i,i<a.length→Q (a.getD i d)) (ha:a.length≤cD_) (hk:0≤k) (hb:k+32*(c7_ f a:Nat)≤cD_) :
  ∃ k' a',k≤k'∧k'≤k+32*(c7_ f a:Nat)∧a'.length=a.length∧Ev (fun n _=>LM n n k 0 a) (k',a')∧Ev (fun n _=>LH n n a' k 0) k':=by
 have key:∀ j i (a:List α) (k:Int),j+i=a.length→(∀ m,i≤m→m<a.length→Q (a.getD m d))→a.length≤cD_→0≤k→k+32*((j+dx_ f (a.drop i):Nat):Int)≤cD_ →
   ∃ k' a',k≤k'∧k'≤k+32*((j+dx_ f (a.drop i):Nat):Int)∧a'.length=a.length∧a'.take i=a.take i∧Ev (fun n N=>LM n N k i a) (k',a')∧Ev (fun n N=>LH n N a' k i) k':=by
  intro j
  induction j with
  |zero=>
   intro i a k hi _ _ hk _
   have:i=a.length:=by omega
   subst this
   exact ⟨k,a,by omega,by omega,rfl,rfl,bo_ (em a k),bo_ (eh a k)⟩
  |succ j ih=>
   intro i a k hi hq ha hk hb
   rw [eP_ f d (by omega)] at hb ⊢
   obtain ⟨k1,x',p1,p2,p3,p4⟩:=hm i a k (by omega) (hq i (Nat.le_refl _) (by omega)) ha hk (by omega)
   obtain ⟨k2,a',q1,q2,q3,q4,q5,q6⟩:=ih (i+1) (a.set i x') k1 (by rw [List.length_set];omega) (fun m h1 h2=>by
    rw [List.length_set] at h2
    rw [List.getD_eq_getElem?_getD,List.getElem?_set_ne (by omega),←List.getD_eq_getElem?_getD]
    exact hq m (by omega) h2) (by rw [List.length_set];exact ha) (by omega) (by rw [jS_];omega)
   rw [jS_] at q2
   rw [List.length_set] at q3
   have hlt:i<a'.length:=by omega
   have hx:a'.getD i d=x':=by
    have e:=congrArg (fun l=>l[i]?) q4
    simp only [List.getElem?_take,if_pos (Nat.lt_succ_self i),List.getElem?_set_self (show i<a.length by omega)] at e
    rw [List.getD_eq_getElem?_getD,e];rfl
   refine ⟨k2,a',by omega,by omega,q3,?_,bo_ (p3 _ q5),bo_ (p4 a' k2 hlt (by omega) hx q6)⟩
   have e:=congrArg (List.take i) q4
   simp only [List.take_take,Nat.min_eq_left (Nat.le_succ i),List.take_set_of_le (Nat.le_refl i)] at e
   exact e
 obtain ⟨k',a',h1,h2,h3,_,h5,h6⟩:=key a.length 0 a k (by omega) (fun m _ h=>hq m h) ha hk (by rw [List.drop_zero];unfold c7_ at hb;omega)
 refine ⟨k',a',h1,by rw [List.drop_zero] at h2;unfold c7_;omega,h3,cF_ (f:=fun n N=>LM n N k 0 a) h5,cF_ (f:=fun n N=>LH n N a' k 0) h6⟩
theorem iw_ (d:α) (f:α→Nat) (LM:Nat→Nat→Int→Nat→List α→Option (Int × List α)) (LH:Nat→Nat→List α→Int→Nat→Option Int)
  (hm:∀ i (a:List α) (k:Int),i<a.length→a.length≤cD_→0≤k→k+32*(1+f (a.getD i d):Nat)≤cD_ →
    ∃ k' x',k≤k'∧k'≤k+32*(1+f (a.getD i d):Nat)∧(∀ F,Ev (fun n N=>LM n N k' (i+1) (a.set i x')) F→Ev (fun n N=>LM n (N+1) k i a) F) ∧
      ∀ (b:List α) F,i<b.length→b.length≤cD_→b.getD i d=x'→Ev (fun n N=>LH n N b k' (i+1)) F→Ev (fun n N=>LH n (N+1) b k i) F)
  (em:∀ (a:List α) k,Ev (fun n N=>LM n (N+1) k a.length a) (k,a)) (eh:∀ (a:List α) k,Ev (fun n N=>LH n (N+1) a k a.length) k)
  (a:List α) (k:Int) (ha:a.length≤cD_) (hk:0≤k) (hb:k+32*(c7_ f a:Nat)≤cD_) :
  ∃ k' a',k≤k'∧k'≤k+32*(c7_ f a:Nat)∧a'.length=a.length∧Ev (fun n _=>LM n n k 0 a) (k',a')∧Ev (fun n _=>LH n n a' k 0) k' :=
 jp_ (fun _=>True) d f LM LH (fun i a k h1 _ h2 h3 h4=>hm i a k h1 h2 h3 h4) em eh a k (fun _ _=>trivial) ha hk hb
end
theorem dc_ {k:Int} (h:0≤k) (h':k+1≤cD_):W (k+1)=k+1:=W_id (by omega) (by simp only [cD_] at h';omega)
end Go.Pi
end
section
namespace Go.Pi
theorem W_dn {i:Nat} (h:i≤cD_):W ((i:Int) - 1)=(i:Int) - 1:=by
 rw [W_id (by omega) (by simp only [cD_] at h;omega)]
theorem mt_ {i:Nat}:((i:Int) - 1).toNat=i - 1:=by omega
theorem f0_ {x lo hi:Int} (h:inn x lo hi=true):lo≤x∧x≤hi:=inn_iff.1 h
def f3_ {α:Type} (s:Nat→α→α) (v:α):Nat→Nat→α
 |0,_=>v
 |d+1,i=>s i (f3_ s v d (i+1))
theorem ev_fold {α:Type} (L:Nat→Nat→Nat→Option α) (s:Nat→α→α) {len:Nat} {v:α}
  (h:∀ i w,i<len→Ev (fun n N=>L n N (i+1)) w→Ev (fun n N=>L n (N+1) i) (s i w)) (h2:Ev (fun n N=>L n (N+1) len) v) :
  Ev (fun n _=>L n n 0) (f3_ s v len 0):=by
 have key:∀ d i,d+i=len→Ev (fun n N=>L n N i) (f3_ s v d i):=by
  intro d
  induction d with
  |zero=>intro i hd;obtain rfl:i=len:=by omega
         exact bo_ (f:=fun n N=>L n N i) h2
  |succ d ih=>intro i hd
              exact bo_ (f:=fun n N=>L n N i) (h i _ (by omega) (ih (i+1) (by omega)))
 exact cF_ (f:=fun n N=>L n N 0) (key len 0 (by omega))
theorem cc_ {α:Type} {n b:Nat} {f:Nat→Nat→Option α} {v:α}:Ev (fun m N=>cs_ n b (f m N)) v↔n*b≤140737488355328∧Ev f v:=by
 unfold cs_
 rw [aI_]
 by_cases h:n*b≤140737488355328<;>simp [h,cW_]
theorem ev_map {α β γ:Type} (d:α) (a:List α) (f:α→β) (L:Nat→Nat→Nat→List β→Option γ) (v:γ)
  (h1:∀ i s,i<a.length→s.length=i→∀ F,Ev (fun n N=>L n N (i+1) (s++[f (a.getD i d)])) F→Ev (fun n N=>L n (N+1) i s) F)
  (h2:Ev (fun n N=>L n (N+1) a.length (a.map f)) v):Ev (fun n _=>L n n 0 []) v:=by
 have key:∀ j i,j+i=a.length→Ev (fun n N=>L n N i ((a.take i).map f)) v:=by
  intro j
  induction j with
  |zero=>
   intro i hi
   have:i=a.length:=by omega
   subst this
   rw [List.take_of_length_le (Nat.le_refl _)]
   exact bo_ h2
  |succ j ih=>
   intro i hi
   refine bo_ (h1 i _ (by omega) (by simp;omega) _ ?_)
   have:=ih (i+1) (by omega)
   rw [List.take_add_one,List.map_append] at this
   have e:a[i]?.toList=[a.getD i d]:=by
    rw [List.getD_eq_getElem?_getD,List.getElem?_eq_getElem (by omega)];rfl
   rw [e] at this
   exact this
 have:=key a.length 0 (by omega)
 exact cF_ (f:=fun n N=>L n N 0 []) this
theorem eB_ {α γ:Type} (S:Nat→α) (len:Nat) (L:Nat→Nat→Nat→α→Option γ) (v:γ)
  (h1:∀ i,i<len→∀ F,Ev (fun n N=>L n N (i+1) (S (i+1))) F→Ev (fun n N=>L n (N+1) i (S i)) F)
  (h2:Ev (fun n N=>L n (N+1) len (S len)) v):Ev (fun n _=>L n n 0 (S 0)) v:=by
 have key:∀ j i,j+i=len→Ev (fun n N=>L n N i (S i)) v:=by
  intro j
  induction j with
  |zero=>
   intro i hi
   have:i=len:=by omega
   subst this
   exact bo_ h2
  |succ j ih=>exact fun i hi=>bo_ (h1 i (by omega) _ (ih (i+1) (by omega)))
 exact cF_ (f:=fun n N=>L n N 0 (S 0)) (key len 0 (by omega))
theorem cO_ {α:Type} (d:α) {a:List α} {i:Nat} (h:i<a.length):a.take (i+1)=a.take i++[a.getD i d]:=by
 rw [List.take_add_one,List.getD_eq_getElem?_getD,List.getElem?_eq_getElem h];rfl
theorem hM_ {α:Type} (d:α) (P:α→Bool):∀ (rows:List α),f3_ (fun i (x:Int)=>cond (P (rows.getD i d)) (i:Int) x) (-1) rows.length 0=if rows.findIdx P<rows.length then (rows.findIdx P:Int) else -1:=by
 intro rows
 have key:∀ j i,j+i=rows.length→(∀ k,k<i→P (rows.getD k d)=false)→f3_ (fun i (x:Int)=>cond (P (rows.getD i d)) (i:Int) x) (-1) j i=if rows.findIdx P<rows.length then (rows.findIdx P:Int) else -1:=by
  intro j
  induction j with
  |zero=>
   intro i hi hk
   have:¬ rows.findIdx P<rows.length:=by
    intro h
    have h1:=List.findIdx_getElem (w:=h)
    have h2:=hk _ (show rows.findIdx P<i by omega)
    rw [List.getD_eq_getElem?_getD,List.getElem?_eq_getElem h] at h2
    simp only [Option.getD_some] at h2
    rw [h1] at h2;cases h2
   rw [if_neg this];rfl
  |succ j ih=>
   intro i hi hk
   simp only [f3_]
   cases hp:P (rows.getD i d) with
   |true=>
    have hlt:i<rows.length:=by omega
    rw [List.getD_eq_getElem?_getD,List.getElem?_eq_getElem hlt] at hp
    have e:rows.findIdx P=i:=by
     apply Nat.le_antisymm
     · exact Nat.le_of_not_lt fun h=>by have:=List.not_of_lt_findIdx h;rw [Option.getD_some] at hp;rw [hp] at this;cases this
     · exact Nat.le_of_not_lt fun h=>by
        have h2:=hk _ h
        have hl:rows.findIdx P<rows.length:=by omega
        rw [List.getD_eq_getElem?_getD,List.getElem?_eq_getElem hl] at h2
        rw [Option.getD_some,List.findIdx_getElem (w:=hl)] at h2;cases h2
    rw [e,if_pos hlt];rfl
   |false=>
    rw [cond_false]
    exact ih (i+1) (by omega) fun k hk'=>by
     by_cases e:k=i
     · subst e;exact hp
     · exact hk k (by omega)
 exact key rows.length 0 (by omega) fun k hk=>by omega
theorem dv_ {α:Type} {lo hi:Int} {len:Nat} {f:Nat→Nat→Option α} {v:α}:Ev (fun n N=>f6_ lo hi len (f n N)) v↔(0≤lo∧lo≤hi∧hi≤(len:Int))∧Ev f v:=by
 unfold f6_
 simp only [aI_,cW_]
 by_cases h1:0≤lo<;>by_cases h2:lo≤hi<;>by_cases h3:hi≤(len:Int)<;>simp [h1,h2,h3]
theorem ga_ {p:Nat→Bool} {len:Nat}:mh_ p len=true↔∀ i,i<len→p i=true:=by
 have key:∀ d i,d+i=len→(fS_ p d i=true↔∀ k,i≤k→k<len→p k=true):=by
  intro d
  induction d with
  |zero=>intro i hi;simp only [fS_,true_iff];intro k h1 h2;omega
  |succ d ih=>
   intro i hi
   simp only [fS_,Bool.and_eq_true,ih (i+1) (by omega)]
   constructor
   · rintro ⟨h1,h2⟩ k h3 h4
     by_cases e:k=i
     · subst e;exact h1
     · exact h2 k (by omega) h4
   · exact fun h=>⟨h i (Nat.le_refl _) (by omega),fun k h1 h2=>h k (by omega) h2⟩
 have:=key len 0 (by omega)
 unfold mh_
 rw [this]
 exact ⟨fun h i hi=>h i (Nat.zero_le _) hi,fun h i _ hi=>h i hi⟩
end Go.Pi
end
section
namespace Go.Pi
section
variable {α β σ:Type}
def Ans (f:Nat→Nat→Option α) (Q:α→Prop):Prop:=∃ v,Ev f v∧Q v
theorem ans_ev {f:Nat→Nat→Option α} {v:α} (h:Ev f v) {Q:α→Prop}:Ans f Q↔Q v :=
 ⟨fun ⟨w,h1,h2⟩=>(dS_ h).1 h1 ▸ h2,fun hq=>⟨v,h,hq⟩⟩
theorem ct_ {v:α} {Q:α→Prop}:Ans (fun _ _=>some v) Q↔Q v:=ans_ev (ak_.2 rfl)
theorem bV_ {f:Nat→Nat→Option α} {a:α} (h:Ev f a) {g:Nat→Nat→α→Option β} {Q:β→Prop}:Ans (fun n N=>(f n N).bind (g n N)) Q↔Ans (fun n N=>g n N a) Q:=by
 unfold Ans;simp only [ad_ h]
theorem cU_ {f:Nat→Nat→Option α} {P:α→Prop} (h:Ans f P) {g:Nat→Nat→α→Option β} {Q:β→Prop} (k:∀ v,P v→Ans (fun n N=>g n N v) Q):Ans (fun n N=>(f n N).bind (g n N)) Q:=by
 obtain ⟨v,h1,h2⟩:=h
 exact (bV_ h1).2 (k v h2)
theorem cA_ {c:Bool} {f g:Nat→Nat→Option α} {Q:α→Prop}:Ans (fun n N=>cond c (f n N) (g n N)) Q↔(c=true→Ans f Q)∧(c=false→Ans g Q):=by
 cases c<;>simp
theorem hB_ {i:Int} {len:Nat} {f:Nat→Nat→Option α} {Q:α→Prop}:Ans (fun n N=>inB i len (f n N)) Q↔(0≤i∧i<(len:Int))∧Ans f Q:=by
 unfold Ans;simp only [bR_]
 exact ⟨fun ⟨v,⟨h1,h2⟩,h3⟩=>⟨h1,v,h2,h3⟩,fun ⟨h1,v,h2,h3⟩=>⟨v,⟨h1,h2⟩,h3⟩⟩
theorem eu_ {n b:Nat} {f:Nat→Nat→Option α} {Q:α→Prop}:Ans (fun m N=>cs_ n b (f m N)) Q↔n*b≤140737488355328∧Ans f Q:=by
 unfold Ans;simp only [cc_]
 exact ⟨fun ⟨v,⟨h1,h2⟩,h3⟩=>⟨h1,v,h2,h3⟩,fun ⟨h1,v,h2,h3⟩=>⟨v,⟨h1,h2⟩,h3⟩⟩
theorem nl_ {lo hi:Int} {len:Nat} {f:Nat→Nat→Option α} {Q:α→Prop}:Ans (fun n N=>f6_ lo hi len (f n N)) Q↔(0≤lo∧lo≤hi∧hi≤(len:Int))∧Ans f Q:=by
 unfold Ans;simp only [dv_]
 exact ⟨fun ⟨v,⟨h1,h2⟩,h3⟩=>⟨h1,v,h2,h3⟩,fun ⟨h1,v,h2,h3⟩=>⟨v,⟨h1,h2⟩,h3⟩⟩
theorem c2_ {f:Nat→Nat→Option α} {Q:α→Prop} (h:Ans (fun n N=>f (n+1) N) Q):Ans f Q :=
 let ⟨v,h1,h2⟩:=h;⟨v,aT_ h1,h2⟩
theorem ans_round {f:Nat→Nat→Option α} {Q:α→Prop} (h:Ans (fun n N=>f n (N+1)) Q):Ans f Q :=
 let ⟨v,h1,h2⟩:=h;⟨v,bo_ h1,h2⟩
theorem ans_diag {f:Nat→Nat→Option α} {Q:α→Prop} (h:Ans f Q):Ans (fun n _=>f n n) Q :=
 let ⟨v,h1,h2⟩:=h;⟨v,cF_ h1,h2⟩
theorem eE_ (L:Nat→Nat→σ→Option α) (m:σ→Nat) (I:σ→Prop) (Q:α→Prop)
  (h:∀ s,I s→(∀ s',I s'→m s'<m s→Ans (fun n N=>L n N s') Q)→Ans (fun n N=>L n (N+1) s) Q):∀ s,I s→Ans (fun n _=>L n n s) Q:=by
 have key:∀ k s,m s<k→I s→Ans (fun n N=>L n N s) Q:=by
  intro k
  induction k with
  |zero=>intro s hk;omega
  |succ k ih=>exact fun s hk hI=>ans_round (h s hI fun s' hI' hm=>ih s' (by omega) hI')
 exact fun s hI=>ans_diag (f:=fun n N=>L n N s) (key _ s (Nat.lt_succ_self _) hI)
end
end Go.Pi
end
section
namespace Go.Pi
theorem bC_ (j:aa_):aa_.re j=j:=by cases j;rfl
def gE_ (s:Bs):Bool:=mh_ (fun i=>inn ((s.getD i 0).toNat:Int) 32 126) s.length&&decide ((s.length:Int)≤60)
theorem nj_ (b:UInt8):W ((b.toNat:Int))=(b.toNat:Int):=W_id (by omega) (by have:=b.toNat_lt;omega)
theorem eG_ {s:Bs} (hs:s.length≤cD_):Ev (fun n _=>bh_ n s) (gE_ s):=by
 refine aT_ ?_
 simp only [bh_]
 refine gn_ (fun n N i=>bh_.loop3 n (fun xy1=>(some (decide ((xy1.length:Int)≤60)))) N s (i:Int)) _ (fun i w hi ih => ?_) ?_
 · simp only [bh_.turn3,bh_.step3,Int.toNat_natCast,aI_,bR_,ak_,W_up hi hs,dS_ ih,cV_ hi,cK_ hi]
   clear ih
   simp only [inn]
   by_cases h1:(((s.getD i 0).toNat:Nat):Int)<32<;>by_cases h2:(((s.getD i 0).toNat:Nat):Int) > 126<;>simp [h1,h2]<;>(intros;omega)
 · simp only [bh_.turn3,bh_.step3,cR_,cond_false,ak_]
theorem eM_ {s:Bs} (hs:s.length≤cD_):Ev (fun n _=>av_ n s) (gE_ s):=by
 refine aT_ ?_
 simp only [av_]
 refine gn_ (fun n N i=>av_.loop3 n (fun xy1=>(some (decide ((xy1.length:Int)≤60)))) N s (s.length:Int) (i:Int)) _ (fun i w hi ih => ?_) ?_
 · simp only [av_.turn3,av_.step3,Int.toNat_natCast,aI_,bR_,ez_,nj_,ak_,W_up hi hs,dS_ ih,cV_ hi,cK_ hi]
   clear ih
   grind
 · simp only [av_.turn3,av_.step3,cR_,cond_false,ak_]
def lenNs (c:Nat) (l:List Bs):Prop:=l.length≤c∧∀ x ∈ l,x.length≤c
theorem g4_ {c:Nat} {l:List Bs} (h:lenNs c l) (i:Nat):(l.getD i []).length≤c:=by
 by_cases hi:i<l.length
 · exact h.2 _ (cG_ [] hi)
 · rw [List.getD_eq_getElem?_getD,List.getElem?_eq_none (by omega)];exact Nat.zero_le _
def hS_ (l:List Bs):Bool:=mh_ (fun i=>gE_ (l.getD i [])&&(decide (i=0)||Op.bytesLess (l.getD (i - 1) []) (l.getD i []))) l.length
theorem iD_ {l:List Bs} (h:lenNs cD_ l):Ev (fun n _=>ao_ n l) (hS_ l):=by
 refine aT_ ?_
 simp only [ao_]
 refine h5_ (gn_ (fun n N i=>ao_.loop3 n (some true) N l l (l.length:Int) (i:Int)) (fun i=>gE_ (l.getD i [])&&(decide (i=0)||Op.bytesLess (l.getD (i - 1) []) (l.getD i []))) (len:=l.length) (v:=true) (fun i w hi ih => ?_) ?_) (by rw [Bool.and_true];rfl)
 · simp only [ao_.turn3,ao_.step3,Int.toNat_natCast,W_up hi h.1,W_dn (i:=i) (by have:=h.1;omega),mt_,aI_,bR_,ad_ (eM_ (g4_ h i)),ak_,dS_ ih,cV_ hi,cK_ hi]
   clear ih
   repeat' (first|apply And.intro|intro _)
   all_goals (try rw [Bool.eq_iff_iff])
   all_goals (try simp only [Bool.not_eq_true',Bool.not_eq_false',decide_eq_true_eq,decide_eq_false_iff_not,Bool.and_eq_true,Bool.or_eq_true,Bool.and_eq_false_iff,Bool.or_eq_false_iff] at *)
   all_goals grind
 · simp only [ao_.turn3,ao_.step3,cR_,cond_false,ak_]
def ml_ (j:aa_):Bool:=cond (j.kind != 5) ((j.names.length:Int) == 0) (hS_ j.names&&((j.names.length:Int) == (j.list.length:Int)))
theorem ie_ {j:aa_} (h:lenNs cD_ j.names):Ev (fun n _=>ae_ n j) (ml_ j):=by
 refine aT_ ?_
 have hl:Ev (fun n _=>ae_.loop6 n (fun xy2 xy3 xy4 xy5 xy6=>(some ((xy6.length:Int) == (xy5.length:Int)))) n 0 j.kind j.n_ j.s j.list j.names) (hS_ j.names&&((j.names.length:Int) == (j.list.length:Int))):=by
  refine gn_ (fun n N i=>ae_.loop6 n (fun xy2 xy3 xy4 xy5 xy6=>(some ((xy6.length:Int) == (xy5.length:Int)))) N (i:Int) j.kind j.n_ j.s j.list j.names) _ (fun i w hi ih => ?_) ?_
  · simp only [ae_.turn6,ae_.step6,Int.toNat_natCast,W_up hi h.1,W_dn (i:=i) (by have:=h.1;omega),mt_,aI_,bR_,ad_ (eG_ (g4_ h i)),ak_,dS_ ih,cV_ hi,cK_ hi]
    clear ih
    repeat' (first|apply And.intro|intro _)
    all_goals (try rw [Bool.eq_iff_iff])
    all_goals (try simp only [Bool.not_eq_true',Bool.not_eq_false',decide_eq_true_eq,decide_eq_false_iff_not,Bool.and_eq_true,Bool.or_eq_true,Bool.and_eq_false_iff,Bool.or_eq_false_iff] at *)
    all_goals grind
  · simp only [ae_.turn6,ae_.step6,cR_,cond_false,ak_]
 simp only [ae_,aI_,ak_,dS_ hl,ml_]
 cases (j.kind != 5)<;>simp
end Go.Pi
end
section
namespace Go.Pi
def bi (l:Bs):List Int:=l.map fun c=>((c.toNat:Nat):Int)
theorem hi_ (l:Bs):eY_ (bi l)=l:=by
 unfold eY_ bi
 rw [List.map_map]
 refine (List.map_congr_left fun c _ => ?_).trans (List.map_id l)
 simp
theorem hQ_ (l:Bs):(bi l).length=l.length:=List.length_map _
theorem bi_app (a b:Bs):bi (a++b)=bi a++bi b:=List.map_append
theorem hP_ (c:UInt8) (k:Nat) (d:UInt8) (hd:d.toNat=k):(((c.toNat:Nat):Int) == (k:Int))=decide (c=d):=by
 by_cases h:c=d
 · subst h;rw [hd];simp
 · rw [decide_eq_false h,beq_eq_false_iff_ne]
   intro e
   exact h (UInt8.toNat_inj.1 (by omega))
theorem byte34 (c:UInt8):(((c.toNat:Nat):Int) == 34)=decide (c=34):=hP_ c 34 34 rfl
theorem byte92 (c:UInt8):(((c.toNat:Nat):Int) == 92)=decide (c=92):=hP_ c 92 92 rfl
theorem byte126 (c:UInt8):(((c.toNat:Nat):Int) == 126)=decide (c=126):=hP_ c 126 126 rfl
theorem byte47 (c:UInt8):(((c.toNat:Nat):Int) == 47)=decide (c=47):=hP_ c 47 47 rfl
theorem ej_ (f:UInt8→Bs) (h:∀ c,(f c).length≤2):∀ s:Bs,(s.flatMap f).length≤2*s.length
 |[]=>Nat.le_refl _
 |c::s=>by
  have:=ej_ f h s
  have:=h c
  simp only [List.flatMap_cons,List.length_append,List.length_cons];omega
theorem lj_ (f:UInt8→Bs) {s:Bs} {i:Nat} (h:i<s.length):(s.take (i+1)).flatMap f=(s.take i).flatMap f++f (s.getD i 0):=by
 rw [cO_ 0 h,List.flatMap_append];simp
def d4_ (c:UInt8):Bs:=if c=34∨c=92 then [92,c] else [c]
theorem gS_ (c:UInt8):(d4_ c).length≤2:=by unfold d4_;split<;>simp
def cS_ (s:Bs):Bs:=34::s.flatMap d4_++[34]
theorem el_ (s:Bs):(cS_ s).length≤2*s.length+2:=by
 have:=ej_ d4_ gS_ s
 simp only [cS_,List.cons_append,List.length_cons,List.length_append,List.length_nil];omega
theorem q2 (o:Bs) (c:UInt8):bi (34::(o++[92,c]))=(bi (34::o)++[92])++[((c.toNat:Nat):Int)]:=by simp [bi]
theorem q1 (o:Bs) (c:UInt8):bi (34::(o++[c]))=bi (34::o)++[((c.toNat:Nat):Int)]:=by simp [bi]
theorem qEnd (o:Bs):eY_ (bi (34::o)++[34])=34::o++[34]:=by
 have:bi (34::o)++[34]=bi (34::o++[34]):=by simp [bi]
 rw [this,hi_]
theorem fu_ {s:Bs} (hs:s.length≤1000000):Ev (fun n _=>a1_ n s) (cS_ s):=by
 refine aT_ ?_
 have ht:s.length≤cD_:=by simp only [cD_];omega
 simp only [a1_]
 have:=eB_ (fun i=>bi (34::(s.take i).flatMap d4_)) s.length (fun n N i (o:List Int)=>a1_.loop4 n (fun xy1=>(cs_ (xy1.length+([34]:List Int).length) 1 (some (eY_ (xy1++([34]:List Int)))))) N s (i:Int) o) (cS_ s) (fun i hi F hF => ?_) ?_
 · exact this
 · have hl:=ej_ d4_ gS_ (s.take i)
   rw [List.length_take] at hl
   rw [lj_ d4_ hi] at hF
   generalize (s.take i).flatMap d4_=o at hF hl ⊢
   have hb:=hQ_ (34::o)
   simp only [List.length_cons] at hb
   simp only [a1_.turn4,a1_.step4,Int.toNat_natCast,W_up hi ht,aI_,bR_,cc_,cV_ hi,cK_ hi,byte34,byte92]
   generalize s.getD i 0=c at hF ⊢
   unfold d4_ at hF
   by_cases h1:c=34
   · rw [if_pos (.inl h1),q2] at hF
     simp only [h1,decide_true] at hF ⊢
     repeat' (first|apply And.intro|intro _)
     all_goals (first|contradiction|exact hF|trivial|(simp [hb];omega))
   · by_cases h2:c=92
     · rw [if_pos (.inr h2),q2] at hF
       simp only [h2,decide_true] at hF ⊢
       repeat' (first|apply And.intro|intro _)
       all_goals (first|contradiction|exact hF|trivial|(simp [hb];omega))
     · rw [if_neg (fun h=>h.elim h1 h2),q1] at hF
       simp only [h1,h2,decide_false] at hF ⊢
       repeat' (first|apply And.intro|intro _)
       all_goals (first|contradiction|exact hF|trivial|(simp [hb];omega))
 · have hl:=ej_ d4_ gS_ s
   have hb:=hQ_ (34::s.flatMap d4_)
   simp only [List.length_cons] at hb
   simp only [a1_.turn4,a1_.step4,cR_,cond_false,cc_,List.take_length,ak_,qEnd]
   exact ⟨by simp only [hb,List.length_cons,List.length_nil];omega,rfl⟩
theorem gl_ {s:Bs} (hs:s.length≤1000000):Ev (fun n _=>bi_ n s) (cS_ s):=by
 refine aT_ ?_
 have ht:s.length≤cD_:=by simp only [cD_];omega
 simp only [bi_]
 have:=eB_ (fun i=>bi (34::(s.take i).flatMap d4_)) s.length (fun n N i (o:List Int)=>bi_.loop4 n (fun xy1=>(cs_ (xy1.length+([34]:List Int).length) 1 (some (eY_ (xy1++([34]:List Int)))))) N s (s.length:Int) (i:Int) o) (cS_ s) (fun i hi F hF => ?_) ?_
 · exact this
 · have hl:=ej_ d4_ gS_ (s.take i)
   rw [List.length_take] at hl
   rw [lj_ d4_ hi] at hF
   generalize (s.take i).flatMap d4_=o at hF hl ⊢
   have hb:=hQ_ (34::o)
   simp only [List.length_cons] at hb
   simp only [bi_.turn4,bi_.step4,Int.toNat_natCast,W_up hi ht,aI_,bR_,cc_,cV_ hi,cK_ hi,byte34,byte92]
   generalize s.getD i 0=c at hF ⊢
   unfold d4_ at hF
   by_cases h1:c=34
   · rw [if_pos (.inl h1),q2] at hF
     simp only [h1,decide_true] at hF ⊢
     repeat' (first|apply And.intro|intro _)
     all_goals (first|contradiction|exact hF|trivial|(simp [hb];omega))
   · by_cases h2:c=92
     · rw [if_pos (.inr h2),q2] at hF
       simp only [h2,decide_true] at hF ⊢
       repeat' (first|apply And.intro|intro _)
       all_goals (first|contradiction|exact hF|trivial|(simp [hb];omega))
     · rw [if_neg (fun h=>h.elim h1 h2),q1] at hF
       simp only [h1,h2,decide_false] at hF ⊢
       repeat' (first|apply And.intro|intro _)
       all_goals (first|contradiction|exact hF|trivial|(simp [hb];omega))
 · have hl:=ej_ d4_ gS_ s
   have hb:=hQ_ (34::s.flatMap d4_)
   simp only [List.length_cons] at hb
   simp only [bi_.turn4,bi_.step4,cR_,cond_false,cc_,List.take_length,ak_,qEnd]
   exact ⟨by simp only [hb,List.length_cons,List.length_nil];omega,rfl⟩
end Go.Pi
end
section
namespace Go.Pi
theorem ek_ (a b:UInt8) (l:Bs):Lib.index (b::l) [a]=if a=b then 0 else if Lib.index l [a] = -1 then -1 else Lib.index l [a]+1:=by
 rw [Lib.index]
 have:List.isPrefixOf [a] (b::l)=decide (a=b):=by
  simp only [List.isPrefixOf,Bool.and_true]
  exact Bool.eq_iff_iff.2 (by simp)
 rw [this]
 by_cases h:a=b
 · rw [decide_eq_true h,if_pos rfl,if_pos h]
 · rw [decide_eq_false h,if_neg (by simp),if_neg h]
   by_cases h2:Lib.index l [a] = -1
   · rw [h2,if_pos rfl,if_pos (by decide)]
   · rw [if_neg h2,if_neg (by simpa using h2)]
theorem lO_ {a b:UInt8} (h:a≠b) (new l:Bs):∀ k,Lib.replaceK [a] new k (b::l)=b::Lib.replaceK [a] new k l
 |0=>rfl
 |k+1=>by
  rw [Lib.replaceK,Lib.replaceK,ek_,if_neg h]
  by_cases h2:Lib.index l [a] = -1
  · rw [if_pos h2,if_pos (by decide),h2,if_pos (by decide)]
  · have:=Lib.index_ge l [a]
    obtain ⟨i,hi⟩:∃ i:Nat,Lib.index l [a]=i:=⟨(Lib.index l [a]).toNat,by omega⟩
    rw [if_neg h2,if_neg (by rw [hi];simp<;>omega),if_neg (by rw [hi];simp<;>omega),hi,show ((i:Int)+1).toNat=i+1 by omega,show ((i:Int)).toNat=i by omega]
    rfl
theorem lP_ (a:UInt8) (new l:Bs) (k:Nat):Lib.replaceK [a] new (k+1) (a::l)=new++Lib.replaceK [a] new k l:=by
 rw [Lib.replaceK,ek_,if_pos rfl,if_neg (by decide)]
 rfl
theorem fB_ (a:UInt8) (new:Bs):∀ (s:Bs) (k:Nat),s.count a≤k→Lib.replaceK [a] new k s=s.flatMap fun c=>if c=a then new else [c]
 |[],0,_=>rfl
 |[],k+1,_=>by
  rw [Lib.replaceK]
  have:Lib.index [] [a] = -1:=rfl
  rw [this,if_pos (by decide)];rfl
 |b::l,k,h=>by
  by_cases e:b=a
  · subst e
    rw [List.count_cons_self] at h
    obtain ⟨k,rfl⟩:∃ m,k=m+1:=⟨k - 1,by omega⟩
    rw [lP_,fB_ b new l k (by omega),List.flatMap_cons,if_pos rfl]
  · rw [List.count_cons_of_ne e] at h
    rw [lO_ (fun h=>e h.symm),fB_ a new l k h,List.flatMap_cons,if_neg e];rfl
theorem fb_ (a:UInt8):∀ (s:Bs) (f:Nat),s.length<f→Lib.countFrom [a] f s=s.count a
 |[],f+1,_=>by
  rw [Lib.countFrom]
  have:Lib.index [] [a] = -1:=rfl
  rw [this,if_pos (by decide)];rfl
 |b::l,f+1,h=>by
  have hl:l.length<f:=by simpa using h
  by_cases e:a=b
  · subst e
    rw [List.count_cons_self,Lib.countFrom,ek_,if_pos rfl,if_neg (by decide)]
    show 1+Lib.countFrom [a] f l=_
    rw [fb_ a l f hl];omega
  · rw [List.count_cons_of_ne (fun h=>e h.symm),←fb_ a l (f+1) (by omega),Lib.countFrom,Lib.countFrom,ek_,if_neg e]
    by_cases h2:Lib.index l [a] = -1
    · rw [if_pos h2,if_pos (by decide),h2,if_pos (by decide)]
    · have:=Lib.index_ge l [a]
      obtain ⟨i,hi⟩:∃ i:Nat,Lib.index l [a]=i:=⟨(Lib.index l [a]).toNat,by omega⟩
      rw [if_neg h2,if_neg (by rw [hi];simp<;>omega),if_neg (by rw [hi];simp<;>omega),hi,show ((i:Int)+1).toNat=i+1 by omega,show ((i:Int)).toNat=i by omega]
      rfl
theorem iM_ (a:UInt8) (s:Bs):Lib.count s [a]=s.count a:=fb_ a s _ (Nat.lt_succ_self _)
theorem i4_ (a:UInt8) (new s:Bs) (hne:([a] == new)=false):Lib.replaceAll s [a] new=s.flatMap fun c=>if c=a then new else [c]:=by
 unfold Lib.replaceAll Lib.replace Lib.replaceNum
 rw [hne,if_neg (by simp),if_pos (.inl (by decide)),iM_]
 exact fB_ a new s _ (Nat.le_refl _)
theorem hd_ {a b c:UInt8} {s:Bs} (hs:s.length≤1000000) (hne:([a] == [b,c])=false):Ev (fun n _=>strings_ReplaceAll n s [a] [b,c]) (s.flatMap fun x=>if x=a then [b,c] else [x]):=by
 refine aT_ ?_
 have:=List.count_le_length (a:=a) (l:=s)
 simp only [strings_ReplaceAll,en_,iM_,i4_ a [b,c] s hne,aI_,ak_,cW_]
 refine ⟨fun _=>trivial,fun h => ?_⟩
 have e1:decide (s.length<4294967281)=true:=decide_eq_true (by omega)
 have e2:decide (1≤[a].length)=true:=rfl
 have e3:decide (s.length+List.count a s*[b,c].length≤140737488355328)=true:=decide_eq_true (by simp only [List.length_cons,List.length_nil];omega)
 rw [e1,e2,e3] at h;cases h
def ex_ (c:UInt8):Bs:=if c=126 then [126,48] else if c=47 then [126,49] else [c]
theorem mn_ (c:UInt8):(ex_ c).length≤2:=by
 unfold ex_
 split
 · simp
 · split<;>simp
theorem wesc_two (s:Bs):((s.flatMap fun x=>if x=126 then [126,48] else [x]).flatMap fun x=>if x=47 then [126,49] else [x])=s.flatMap ex_:=by
 induction s with
 |nil=>rfl
 |cons c s ih=>
  rw [List.flatMap_cons,List.flatMap_append,ih,List.flatMap_cons]
  congr 1
  unfold ex_
  by_cases h1:c=126
  · subst h1;rfl
  · by_cases h2:c=47
    · subst h2;rfl
    · rw [if_neg h1,if_neg h1,if_neg h2];simp [h2]
def FWay (w:List Bs):Bs:=w.flatMap fun s=>47::s.flatMap ex_
theorem mo_ {w:List Bs} {i:Nat} (h:i<w.length):FWay (w.take (i+1))=FWay (w.take i)++(47::(w.getD i []).flatMap ex_):=by
 unfold FWay
 rw [cO_ [] h,List.flatMap_append];simp
theorem kv_ {w:List Bs} {c:Nat} (h:∀ s ∈ w,s.length≤c):(FWay w).length≤w.length*(2*c+1):=by
 induction w with
 |nil=>exact Nat.zero_le _
 |cons s w ih=>
  have h1:=ej_ ex_ mn_ s
  have h2:=h s (List.mem_cons_self ..)
  have h3:=ih fun x hx=>h x (List.mem_cons_of_mem _ hx)
  have e:FWay (s::w)=(47::s.flatMap ex_)++FWay w:=rfl
  rw [e,List.length_append,List.length_cons,List.length_cons,Nat.add_mul];omega
theorem mu_ {w:List Bs} {c:Nat} (h:∀ s ∈ w,s.length≤c) (i:Nat):∀ s ∈ w.take i,s.length≤c:=fun s hs=>h s (List.mem_of_mem_take hs)
theorem fF_ {w:List Bs} (hw:w.length≤6) (hs:∀ s ∈ w,s.length≤60):Ev (fun n _=>a2_ n w) (FWay w):=by
 refine aT_ ?_
 have ht:w.length≤cD_:=by simp only [cD_];omega
 simp only [a2_]
 have:=eB_ (fun i=>FWay (w.take i)) w.length (fun n N i (o:Bs)=>a2_.loop4 n (fun xy3=>(some xy3)) N o w (w.length:Int) (i:Int)) (FWay w) (fun i hi F hF => ?_) ?_
 · exact this
 · have h1:=hs _ (cG_ [] hi)
   have h2:=ej_ ex_ mn_ (w.getD i [])
   have h3:=kv_ (mu_ hs i)
   rw [List.length_take] at h3
   rw [mo_ hi] at hF
   have r1:=hd_ (a:=126) (b:=126) (c:=48) (s:=w.getD i []) (by omega) (by decide)
   have h4:=ej_ (fun x=>if x=126 then [126,48] else [x]) (fun c=>by split<;>simp) (w.getD i [])
   have r2:=hd_ (a:=47) (b:=126) (c:=49) (s:=(w.getD i []).flatMap fun x=>if x=126 then [126,48] else [x]) (by omega) (by decide)
   rw [wesc_two] at r2
   generalize FWay (w.take i)=o at hF h3 ⊢
   simp only [a2_.turn4,a2_.step4,Int.toNat_natCast,W_up hi ht,aI_,bR_,cW_,cV_ hi,cK_ hi,ad_ r1,ad_ r2]
   generalize (w.getD i []).flatMap ex_=e at hF h2 ⊢
   have e2:([47]:Bs)++e=47::e:=rfl
   rw [e2]
   refine ⟨fun _=>⟨trivial,fun _=>⟨fun _=>hF,fun h => ?_⟩,fun h => ?_⟩,fun h=>(by cases h)⟩
   · have h:=of_decide_eq_false h
     simp only [List.length_cons] at h;omega
   · have h:=of_decide_eq_false h
     simp only [List.length_cons,List.length_nil] at h;omega
 · simp only [a2_.turn4,a2_.step4,cR_,cond_false,List.take_length,ak_]
theorem gY_ {α:Type} {i len:Nat} {x:Option α} (h:i<len):inB (i:Int) len x=x:=by
 unfold inB
 rw [decide_eq_true (by omega),decide_eq_true (by omega)];rfl
theorem gQ_ {α:Type} {n b:Nat} {x:Option α} (h:n*b≤140737488355328):cs_ n b x=x:=by
 unfold cs_
 rw [decide_eq_true h];rfl
theorem kl_ {α:Type} {f g:Nat→Nat→Option α} {v:α} (M:Nat) (h:∀ n N,M≤n→f n N=g n N) (hg:Ev g v):Ev f v:=by
 obtain ⟨M',hM⟩:=hg
 exact ⟨max M M',fun n N h1 h2=>by rw [h n N (by omega)];exact hM n N (by omega) (by omega)⟩
theorem kA_ (n:Nat) (k2:List Bs→Int→List Int→Option Bs) {w:List Bs} {i:Nat} (hi:i<w.length) (hl:(w.getD i []).length≤1000000):∀ (d j m:Nat) (o:List Int),j+d=(w.getD i []).length→d<m→o.length+2*d≤100000000 →
  au_.loop10 n k2 m w (i:Int) (j:Int) o=k2 w (i:Int) (o++bi (((w.getD i []).drop j).flatMap ex_))
 |0,j,m+1,o,hj,_,_=>by
  have e:(j:Int)=((w.getD i []).length:Int):=by omega
  have e2:(w.getD i []).drop j=[]:=List.drop_eq_nil_of_le (by omega)
  rw [au_.turn10,au_.step10,Int.toNat_natCast,gY_ hi,e,cR_,e2]
  simp [bi]
 |d+1,j,m+1,o,hj,hm,ho=>by
  have hjl:j<(w.getD i []).length:=by omega
  have ih:=fun o=>kA_ n k2 hi hl d (j+1) m o (by omega) (by omega)
  have e1:(w.getD i []).drop j=(w.getD i []).getD j 0::(w.getD i []).drop (j+1):=dG_ 0 hjl
  rw [au_.turn10,au_.step10,Int.toNat_natCast,Int.toNat_natCast,gY_ hi,gY_ hi,gY_ hi,gY_ hjl,gY_ hjl,cV_ hjl,W_up hjl (show (w.getD i []).length≤cD_ by simp only [cD_];omega),byte126,byte47,e1,List.flatMap_cons,bi_app,←List.append_assoc]
  generalize (w.getD i []).getD j 0=c
  rw [gQ_ (by simp;omega),gQ_ (by simp;omega),gQ_ (by simp;omega)]
  unfold ex_
  by_cases h1:c=126
  · rw [decide_eq_true h1,if_pos h1]
    exact ih _ (by simp;omega)
  · by_cases h2:c=47
    · rw [decide_eq_false h1,decide_eq_true h2,if_neg h1,if_pos h2]
      exact ih _ (by simp;omega)
    · rw [decide_eq_false h1,decide_eq_false h2,if_neg h1,if_neg h2]
      exact ih _ (by simp;omega)
theorem if_ {w:List Bs} (hw:w.length≤6) (hs:∀ s ∈ w,s.length≤60):Ev (fun n _=>au_ n w) (FWay w):=by
 refine aT_ ?_
 have ht:w.length≤cD_:=by simp only [cD_];omega
 simp only [au_]
 have:=eB_ (fun i=>bi (FWay (w.take i))) w.length (fun n N i (o:List Int)=>au_.loop4 n (fun xy4=>(some (eY_ xy4))) N w (i:Int) o) (FWay w) (fun i hi F hF => ?_) ?_
 · exact this
 · have h1:=hs _ (cG_ [] hi)
   have h3:=kv_ (mu_ hs i)
   rw [List.length_take] at h3
   rw [mo_ hi] at hF
   generalize FWay (w.take i)=o at hF h3 ⊢
   have hb:=hQ_ o
   simp only [au_.turn4,au_.step4,cV_ hi,cond_true,cc_]
   refine ⟨by simp [hb];omega,kl_ 61 (fun n N hn=>kA_ n _ hi (by omega) (w.getD i []).length 0 n _ (by omega) (by omega) (by simp only [hb,List.length_append,List.length_cons,List.length_nil];omega)) ?_⟩
   simp only [W_up hi ht,List.drop_zero]
   have e:bi (o++47::(w.getD i []).flatMap ex_)=bi o++([47]:List Int)++bi ((w.getD i []).flatMap ex_):=by simp [bi]
   rw [e] at hF
   exact hF
 · simp only [au_.turn4,au_.step4,cR_,cond_false,List.take_length,ak_,hi_]
end Go.Pi
end
section
namespace Go.Pi
theorem iB_ (k:Int):k=0∨k=1∨k=2∨k=3∨k=4∨k=5∨(k≠0∧k≠1∧k≠2∧k≠3∧k≠4∧k≠5):=by omega
theorem ka_ {α:Type} (l:List α):decide (l.length=0) = !decide ((l.length:Int) > 0):=by
 by_cases hz:l.length=0
 · rw [hz];rfl
 · rw [decide_eq_false hz,decide_eq_true (show (l.length:Int) > 0 by omega)];rfl
def FOwnK (j:aa_):Bool :=
 cond (j.kind == 1) (inn j.n_ 0 1) (cond (j.kind == 2) (inn j.n_ (-1000000000) 1000000000) (cond (j.kind == 3) (gE_ j.s) (cond (j.kind == 5) (((j.names.length:Int) == (j.list.length:Int))&&hS_ j.names) ((j.kind == 0)||(j.kind == 4)))))
def FOwn (j:aa_):Bool :=
 (decide (j.list.length=0)||((j.kind == 4)||(j.kind == 5)))&&((decide (j.names.length=0)||(j.kind == 5))&&(((j.n_ == 0)||((j.kind == 1)||(j.kind == 2)))&&(((j.s == [])||(j.kind == 3))&&FOwnK j)))
def lenJ1 (j:aa_):Prop:=j.s.length≤cD_∧lenNs cD_ j.names
theorem kg_ {j:aa_} (h:lenJ1 j):Ev (fun n _=>cy_ n j) (FOwn j):=by
 refine aT_ ?_
 simp only [cy_,aI_,ez_,isNum_b,ad_ (eM_ h.1),ad_ (iD_ h.2),ak_]
 unfold FOwn FOwnK
 have e1:=ka_ j.list
 have e2:=ka_ j.names
 rw [e1,e2]
 generalize decide ((j.list.length:Int) > 0)=a
 generalize decide ((j.names.length:Int) > 0)=b
 generalize (j.s == [])=c
 have e3:(j.n_ != 0) = !(j.n_ == 0):=rfl
 rw [e3]
 generalize hd:(j.n_ == 0)=d
 generalize gE_ j.s=ft
 generalize hS_ j.names=fn
 generalize ((j.names.length:Int) == (j.list.length:Int))=eq
 rcases iB_ j.kind with hk|hk|hk|hk|hk|hk|⟨k0,k1,k2,k3,k4,k5⟩
 all_goals (first|simp only [hk]|simp only [beq_eq_false_iff_ne.2 k0,beq_eq_false_iff_ne.2 k1,beq_eq_false_iff_ne.2 k2,beq_eq_false_iff_ne.2 k3,beq_eq_false_iff_ne.2 k4,beq_eq_false_iff_ne.2 k5,bne])
 all_goals (cases a<;>cases b<;>cases c<;>cases d<;>simp)
 all_goals (cases eq<;>simp)
def bH_:Nat→aa_→Nat
 |0,_=>401
 |d+1,j=>cond (FOwn j) (min 401 (1+dx_ (bH_ d) j.list)) 401
theorem FSize_le:∀ (d:Nat) (j:aa_),bH_ d j≤401
 |0,_=>Nat.le_refl _
 |d+1,j=>by
  simp only [bH_]
  cases FOwn j<;>simp only [cond_true,cond_false]<;>omega
def fl_:Nat→aa_→Prop
 |0,_=>True
 |d+1,j=>lenJ1 j∧j.list.length≤cD_∧∀ x ∈ j.list,fl_ d x
theorem getD_json {d:Nat} {l:List aa_} (h:∀ x ∈ l,fl_ d x) {i:Nat} (hi:i<l.length):fl_ d (l.getD i aa_.dflt):=h _ (cG_ _ hi)
theorem gk_:∀ (d:Nat) (j:aa_),d≤1000→fl_ d j→Ev (fun n _=>a3_ n j (d:Int)) (bH_ d j:Int)
 |0,j,_,_=>by
  refine aT_ ?_
  simp only [a3_,aI_,ak_]
  exact ⟨fun _=>rfl,fun h=>by simp at h⟩
 |d+1,j,hd,h=>by
  refine aT_ ?_
  have hW:W (((d+1:Nat):Int) - 1)=(d:Int):=by rw [W_id (by omega) (by omega)];omega
  simp only [a3_,bC_,aI_,ad_ (kg_ h.1),ak_,bH_]
  refine ⟨fun hc=>by have:=of_decide_eq_true hc;omega,fun _ => ?_⟩
  cases ho:FOwn j with
  |false=>exact ⟨fun _=>rfl,fun h=>by cases h⟩
  |true=>
   refine ⟨fun h=>(by cases h),fun _ => ?_⟩
   have ht:=h.2.1
   have key:∀ (k i:Nat) (s:Nat),k+i=j.list.length→s≤400→Ev (fun n N=>a3_.loop7 n (a3_ n) (fun xy3=>some xy3) N ((d+1:Nat):Int) (s:Int) j.list (j.list.length:Int) (i:Int)) ((min 401 (s+dx_ (bH_ d) (j.list.drop i)):Nat):Int):=by
    intro k
    induction k with
    |zero=>
     intro i s hi hs
     have:i=j.list.length:=by omega
     subst this
     refine bo_ ?_
     simp only [a3_.turn7,a3_.step7,cR_,cond_false,ak_,List.drop_length,dx_]
     omega
    |succ k ih=>
     intro i s hi hs
     have hlt:i<j.list.length:=by omega
     refine bo_ ?_
     have hc:=gk_ d (j.list.getD i aa_.dflt) (by omega) (getD_json h.2.2 hlt)
     have hle:=FSize_le d (j.list.getD i aa_.dflt)
     have hw:W ((s:Int)+(bH_ d (j.list.getD i aa_.dflt):Int))=((s+bH_ d (j.list.getD i aa_.dflt):Nat):Int):=by rw [W_id (by omega) (by omega)];omega
     simp only [a3_.turn7,a3_.step7,bC_,Int.toNat_natCast,hW,W_up hlt ht,aI_,bR_,cV_ hlt,cK_ hlt,ad_ hc,hw,ak_]
     rw [eP_ (bH_ d) aa_.dflt hlt]
     refine ⟨fun _=>⟨trivial,fun hg => ?_,fun hg => ?_⟩,fun h=>(by cases h)⟩
     · have:=of_decide_eq_true hg;omega
     · have:=of_decide_eq_false hg
       rw [show s+(bH_ d (j.list.getD i aa_.dflt)+dx_ (bH_ d) (j.list.drop (i+1)))=(s+bH_ d (j.list.getD i aa_.dflt))+dx_ (bH_ d) (j.list.drop (i+1)) by omega]
       exact ih (i+1) _ (by omega) (by omega)
   have:=key j.list.length 0 1 (by omega) (by omega)
   rw [List.drop_zero] at this
   exact cF_ (f:=fun n N=>a3_.loop7 n (a3_ n) (fun xy3=>some xy3) N ((d+1:Nat):Int) 1 j.list (j.list.length:Int) 0) this
def cT_ (j:aa_):Bool:=decide (bH_ 6 j≤400)
theorem dl_ {j:aa_} (h:fl_ 6 j):Ev (fun n _=>b0_ n j) (cT_ j):=by
 refine aT_ ?_
 have e:Ev (fun n _=>a3_ n j 6) (bH_ 6 j:Int):=gk_ 6 j (by omega) h
 simp only [b0_,bC_,ad_ e,ak_,cT_]
 by_cases hq:bH_ 6 j≤400
 · rw [decide_eq_true hq,decide_eq_true (by omega)]
 · rw [decide_eq_false hq,decide_eq_false (by omega)]
end Go.Pi
end
section
namespace Go.Pi
def Great (d:Nat) (j:aa_):Prop:=∃ v:Nat,v≤401+401*d∧min 401 v=bH_ d j∧Ev (fun n _=>aJ_ n j (d:Int)) (v:Int)
theorem nK_ {d:Nat} {l:List aa_} (hd:d≤1000) (ht:l.length≤cD_) (ih:∀ x ∈ l,Great d x) (kd nn:Int) (s:Bs) (ns:List Bs) :
  ∃ w:Nat,w≤401+401*(d+1)∧min 401 w=min 401 (1+dx_ (bH_ d) l)∧∀ (K:Nat→aJ_.K23_1) (F:Int),Ev (fun n N=>K n 401 (w:Int) kd nn s l ns) F→Ev (fun n _=>aJ_.loop23 n (aJ_ n) (K n) n ((d+1:Nat):Int) 401 1 0 kd nn s l ns) F:=by
 have hW:W (((d+1:Nat):Int) - 1)=(d:Int):=by rw [W_id (by omega) (by omega)];omega
 have key:∀ (k i:Nat) (m:Nat),k+i=l.length→m≤401+401*(d+1)→∃ w:Nat,w≤401+401*(d+1)∧min 401 w=min 401 (m+dx_ (bH_ d) (l.drop i))∧∀ (K:Nat→aJ_.K23_1) (F:Int),Ev (fun n N=>K n 401 (w:Int) kd nn s l ns) F →
   Ev (fun n N=>aJ_.loop23 n (aJ_ n) (K n) N ((d+1:Nat):Int) 401 (m:Int) (i:Int) kd nn s l ns) F:=by
  intro k
  induction k with
  |zero=>
   intro i m hi hm
   have:i=l.length:=by omega
   subst this
   refine ⟨m,hm,by simp [dx_],fun K F hF=>bo_ ?_⟩
   simp only [aJ_.turn23,aJ_.step23,cR_,cond_false]
   exact hF
  |succ k ihk=>
   intro i m hi hm
   have hlt:i<l.length:=by omega
   by_cases hg:m≤400
   · obtain ⟨v,hv1,hv2,hv3⟩:=ih _ (cG_ aa_.dflt hlt)
     have hw:W ((m:Int)+(v:Int))=((m+v:Nat):Int):=by rw [W_id (by omega) (by omega)];omega
     obtain ⟨w,a1,a2,a3⟩:=ihk (i+1) (m+v) (by omega) (by omega)
     refine ⟨w,a1,?_,fun K F hF=>bo_ ?_⟩
     · rw [a2,eP_ (bH_ d) aa_.dflt hlt,←hv2];omega
     · simp only [aJ_.turn23,aJ_.step23,bC_,Int.toNat_natCast,hW,W_up hlt ht,aI_,bR_,cV_ hlt,cK_ hlt,ad_ hv3,hw]
       exact ⟨fun _=>⟨fun _=>⟨trivial,a3 K F hF⟩,fun h=>by have:=of_decide_eq_false h;omega⟩,fun h=>(by cases h)⟩
   · refine ⟨m,hm,by omega,fun K F hF=>bo_ ?_⟩
     simp only [aJ_.turn23,aJ_.step23,Int.toNat_natCast,aI_,cV_ hlt]
     exact ⟨fun _=>⟨fun h=>by have:=of_decide_eq_true h;omega,fun _=>hF⟩,fun h=>(by cases h)⟩
 obtain ⟨w,a1,a2,a3⟩:=key l.length 0 1 (by omega) (by omega)
 rw [List.drop_zero] at a2
 exact ⟨w,a1,a2,fun K F hF=>cF_ (f:=fun n N=>aJ_.loop23 n (aJ_ n) (K n) N ((d+1:Nat):Int) 401 1 0 kd nn s l ns) (a3 K F hF)⟩
theorem dA_ (j:aa_):aa_.mk j.kind j.n_ j.s j.list j.names=j:=by cases j;rfl
theorem fv_:∀ (d:Nat) (j:aa_),d≤1000→fl_ d j→Great d j
 |0,j,_,_=>by
  refine ⟨401,by omega,rfl,aT_ ?_⟩
  simp only [aJ_,aI_,ak_]
  exact ⟨fun _=>rfl,fun h=>by simp at h⟩
 |d+1,j,hd,h=>by
  obtain ⟨w,w1,w2,w3⟩:=nK_ (d:=d) (l:=j.list) (by omega) h.2.1 (fun x hx=>fv_ d x (by omega) (h.2.2 x hx)) j.kind j.n_ j.s j.names
  have hz:((((d+1:Nat):Int)) == 0)=false:=by simp;omega
  have hN:=ie_ (j:=j) h.1.2
  obtain ⟨v,hv⟩:∃ v:Nat,v=cond (FOwn j) (cond ((j.kind == 4)||(j.kind == 5)) w 1) 401:=⟨_,rfl⟩
  refine ⟨v,?_,?_,aT_ ?_⟩
  · rw [hv];cases FOwn j<;>cases ((j.kind == 4)||(j.kind == 5))<;>simp only [cond_true,cond_false]<;>omega
  · rw [hv]
    simp only [bH_]
    cases ho:FOwn j with
    |false=>rfl
    |true=>
     cases hk:((j.kind == 4)||(j.kind == 5)) with
     |true=>simp only [cond_true];exact w2
     |false=>
      have:j.list=[]:=by
       unfold FOwn at ho
       rw [hk,Bool.or_false] at ho
       simp only [Bool.and_eq_true,decide_eq_true_eq] at ho
       exact List.eq_nil_of_length_eq_zero ho.1
      rw [this];rfl
  · have hT:=eG_ (s:=j.s) h.1.1
    have e1:=ka_ j.list
    have e2:=ka_ j.names
    have e4:((j.names.length:Int) == 0) = !decide ((j.names.length:Int) > 0):=by
     by_cases hz:j.names.length=0
     · rw [hz];rfl
     · rw [beq_eq_false_iff_ne.2 (show (j.names.length:Int)≠0 by omega),decide_eq_true (show (j.names.length:Int) > 0 by omega)];rfl
    subst hv
    unfold FOwn FOwnK
    unfold ml_ at hN
    rw [e1,e2]
    rw [e4] at hN
    simp only [aJ_,bC_,hz,cond_false,aI_,l1In_b,ad_ hT,ad_ hN,ak_,bne]
    rcases iB_ j.kind with hk|hk|hk|hk|hk|hk|⟨k0,k1,k2,k3,k4,k5⟩
    case inr.inr.inr.inr.inl=>
     have hj:aa_.mk 4 j.n_ j.s j.list j.names=j:=by rw [←hk];exact dA_ j
     rw [hk] at w3
     simp only [hk,Int.reduceBEq,Int.reduceLT,Int.reduceLE,Int.reduceNeg,ge_iff_le,gt_iff_lt,decide_true,decide_false,Bool.not_false,Bool.not_true,Bool.or_true,Bool.true_or,Bool.or_false,Bool.false_or,Bool.and_true,Bool.true_and,Bool.not_not,forall_const,reduceCtorEq,false_implies,true_and,and_true,implies_true,cond_true,cond_false] at hN ⊢
     refine w3 _ _ ?_
     simp only [hj,aI_,ad_ hN,ak_,Int.reduceBEq,Int.reduceLT,Int.reduceLE,Int.reduceNeg,ge_iff_le,gt_iff_lt,decide_true,decide_false,Bool.not_false,Bool.not_true,Bool.or_true,Bool.true_or,Bool.or_false,Bool.false_or,Bool.and_true,Bool.true_and,Bool.not_not,forall_const,reduceCtorEq,false_implies,true_and,and_true,implies_true,cond_true,cond_false]
     clear hN w3 hT e1 e2 e4 hj
     generalize decide (0<(j.names.length:Int))=b
     generalize (j.s == [])=c
     generalize hd:(j.n_ == 0)=dd
     cases b<;>cases c<;>cases dd<;>simp
    case inr.inr.inr.inr.inr.inl=>
     have hj:aa_.mk 5 j.n_ j.s j.list j.names=j:=by rw [←hk];exact dA_ j
     rw [hk] at w3
     simp only [hk,Int.reduceBEq,Int.reduceLT,Int.reduceLE,Int.reduceNeg,ge_iff_le,gt_iff_lt,decide_true,decide_false,Bool.not_false,Bool.not_true,Bool.or_true,Bool.true_or,Bool.or_false,Bool.false_or,Bool.and_true,Bool.true_and,Bool.not_not,forall_const,reduceCtorEq,false_implies,true_and,and_true,implies_true,cond_true,cond_false] at hN ⊢
     refine w3 _ _ ?_
     simp only [hj,aI_,ad_ hN,ak_,Int.reduceBEq,Int.reduceLT,Int.reduceLE,Int.reduceNeg,ge_iff_le,gt_iff_lt,decide_true,decide_false,Bool.not_false,Bool.not_true,Bool.or_true,Bool.true_or,Bool.or_false,Bool.false_or,Bool.and_true,Bool.true_and,Bool.not_not,forall_const,reduceCtorEq,false_implies,true_and,and_true,implies_true,cond_true,cond_false]
     clear hN w3 hT e1 e2 e4 hj
     generalize hS_ j.names=fn
     generalize ((j.names.length:Int) == (j.list.length:Int))=eq
     generalize (j.s == [])=c
     generalize hd:(j.n_ == 0)=dd
     cases fn<;>cases eq<;>cases c<;>cases dd<;>simp
    case inr.inr.inr.inr.inr.inr=>
     simp only [beq_eq_false_iff_ne.2 k0,beq_eq_false_iff_ne.2 k1,beq_eq_false_iff_ne.2 k2,beq_eq_false_iff_ne.2 k3,beq_eq_false_iff_ne.2 k4,beq_eq_false_iff_ne.2 k5,Int.reduceBEq,Int.reduceLT,Int.reduceLE,Int.reduceNeg,ge_iff_le,gt_iff_lt,decide_true,decide_false,Bool.not_false,Bool.not_true,Bool.or_true,Bool.true_or,Bool.or_false,Bool.false_or,Bool.and_true,Bool.true_and,Bool.not_not,forall_const,reduceCtorEq,false_implies,true_and,and_true,implies_true,cond_true,cond_false,Bool.and_false,Bool.false_and]
     rfl
    all_goals (
     simp only [hk,Int.reduceBEq,Int.reduceLT,Int.reduceLE,Int.reduceNeg,ge_iff_le,gt_iff_lt,decide_true,decide_false,Bool.not_false,Bool.not_true,Bool.or_true,Bool.true_or,Bool.or_false,Bool.false_or,Bool.and_true,Bool.true_and,Bool.not_not,forall_const,reduceCtorEq,false_implies,true_and,and_true,implies_true,cond_true,cond_false]
     clear hN w3 hT e1 e2 e4
     generalize decide (0<(j.names.length:Int))=b
     generalize decide (0<(j.list.length:Int))=a
     generalize (j.s == [])=c
     generalize hd:(j.n_ == 0)=dd
     generalize inn j.n_ 0 1=i1
     generalize inn j.n_ (-1000000000) 1000000000=i2
     generalize gE_ j.s=ft
     cases a<;>cases b<;>cases c<;>cases dd<;>cases i1<;>cases i2<;>cases ft<;>simp)
theorem di_ {j:aa_} (h:fl_ 6 j):Ev (fun n _=>bZ_ n j) (cT_ j):=by
 refine aT_ ?_
 obtain ⟨v,v1,v2,v3⟩:=fv_ 6 j (by omega) h
 have e:Ev (fun n _=>aJ_ n j 6) (v:Int):=v3
 simp only [bZ_,bC_,ad_ e,ak_,cT_]
 by_cases hq:bH_ 6 j≤400
 · rw [decide_eq_true hq,decide_eq_true (by omega)]
 · rw [decide_eq_false hq,decide_eq_false (by omega)]
end Go.Pi
end
