/- The card of FnExactEventText: the law returns true at every input, and leaves its arguments unchanged; no condition. Text 4 of 5. -/
import Derived.Test.YthfipmaaojdmnaaDoorEtC
import Derived.Shelf.RegionOpenPlain
import Derived.WalkKit
import Derived.Deep.RegionLaw
import Derived.Lib.Walk
import Derived.Lib.SliceRun
import Derived.Laws.CopyRow
import Derived.RowKit
import Derived.Lib.Overlaps
import Derived.Lib.AppendZerosOnto
import Derived.Laws.NewBlocks
import Derived.Laws.Externs
import Derived.Below
import Derived.Shelf.Vars
import Derived.Shelf.Strings.OnBuilder
import Derived.Shelf.Strings.Replace
import Derived.ChangeArms
import Derived.DataReads
import Derived.ChangeOld
import Derived.Test.YthfipmaaojdmnaaDoorRows
import Derived.ProofKit
import Derived.OpenShut
import Derived.LaidLaws
import Derived.JoinedOf
import Derived.JoinedAt
import Derived.ChangeVars
import Derived.ChangeMaps5
import Derived.Stop.LaidErr
import Derived.Test.YthfipmaaojdmnaaDoorTie
import Derived.Test.YthfipmaaojdmnaaDoorCards
import Derived.IntWalk
import Derived.Lib.ItoaLen
section
set_option linter.unusedVariables false
set_option maxRecDepth 100000
namespace Go.Pi
open Go.Proofs
noncomputable def laws_szJsonS.fs (n : Nat) : laws_szJsonS.d.Fs := (fun _ κe => laws_szJsonS.loop7 n (laws_szJson n) (laws_szJsonS.o0.k (κe 0)) n, ())
theorem laws_szJsonS.r7 (n : Nat) : laws_szJsonS.d.Round (laws_szJsonS.fs n) (cx n laws_szJsonS.d.nt) (bodyOf Tryd.f30) 7 laws_szJsonS.p7 (fun κe => laws_szJsonS.step7 n (laws_szJson n) (laws_szJsonS.o0.k (κe 0))) := fun κ κe x y => by kernel_rfl
theorem laws_szJsonS.ok (n : Nat) : CxOk E (cx n laws_szJsonS.d.nt) → KPar (cx n laws_szJsonS.d.nt) → laws_szJsonS.d.Ok E (laws_szJsonS.F (n + 1)) :=
  FD.ok (fs := laws_szJsonS.fs n) mixedOk Tryd.func30 (by kernel_rfl) (by kernel_rfl) (by kernel_rfl) (by kernel_rfl) (fun _ => by kernel_rfl) (by kernel_rfl) (fun x => by kernel_rfl) (.cons (FD.lp n (laws_szJsonS.r7 n) (by kernel_rfl) fun _ _ => by kernel_rfl) (.nil))
noncomputable def laws_szStringS.fs (n : Nat) : laws_szStringS.d.Fs := (fun _ κe => laws_szStringS.loop7 n (laws_szStringS.o0.k (κe 0)) n, ())
theorem laws_szStringS.r7 (n : Nat) : laws_szStringS.d.Round (laws_szStringS.fs n) (cx n laws_szStringS.d.nt) (bodyOf Tryd.f31) 7 laws_szStringS.p7 (fun κe => laws_szStringS.step7 n (laws_szStringS.o0.k (κe 0))) := fun κ κe x y => by kernel_rfl
theorem laws_szStringS.ok (n : Nat) : CxOk E (cx n laws_szStringS.d.nt) → KPar (cx n laws_szStringS.d.nt) → laws_szStringS.d.Ok E (laws_szStringS.F (n + 1)) :=
  FD.ok (fs := laws_szStringS.fs n) mixedOk Tryd.func31 (by kernel_rfl) (by kernel_rfl) (by kernel_rfl) (by kernel_rfl) (fun _ => by kernel_rfl) (by kernel_rfl) (fun x => by kernel_rfl) (.cons (FD.lp n (laws_szStringS.r7 n) (by kernel_rfl) fun _ _ => by kernel_rfl) (.nil))
noncomputable def laws_szJson.fs (n : Nat) : laws_szJson.d.Fs := ()
theorem laws_szJson.ok (n : Nat) : CxOk E (cx n laws_szJson.d.nt) → KPar (cx n laws_szJson.d.nt) → laws_szJson.d.Ok E (laws_szJson.F (n + 1)) :=
  FD.ok (fs := laws_szJson.fs n) mixedOk Tryd.func12 (by kernel_rfl) (by kernel_rfl) (by kernel_rfl) (by kernel_rfl) (fun _ => by kernel_rfl) (by kernel_rfl) (fun x => by kernel_rfl) (.nil)
noncomputable def laws_szOp.fs (n : Nat) : laws_szOp.d.Fs := ()
theorem laws_szOp.ok (n : Nat) : CxOk E (cx n laws_szOp.d.nt) → KPar (cx n laws_szOp.d.nt) → laws_szOp.d.Ok E (laws_szOp.F (n + 1)) :=
  FD.ok (fs := laws_szOp.fs n) mixedOk Tryd.func32 (by kernel_rfl) (by kernel_rfl) (by kernel_rfl) (by kernel_rfl) (fun _ => by kernel_rfl) (by kernel_rfl) (fun x => by kernel_rfl) (.nil)
noncomputable def laws_szOpS.fs (n : Nat) : laws_szOpS.d.Fs := (fun _ κe => laws_szOpS.loop7 n (laws_szOpS.o0.k (κe 0)) n, ())
theorem laws_szOpS.r7 (n : Nat) : laws_szOpS.d.Round (laws_szOpS.fs n) (cx n laws_szOpS.d.nt) (bodyOf Tryd.f13) 7 laws_szOpS.p7 (fun κe => laws_szOpS.step7 n (laws_szOpS.o0.k (κe 0))) := fun κ κe x y => by kernel_rfl
theorem laws_szOpS.ok (n : Nat) : CxOk E (cx n laws_szOpS.d.nt) → KPar (cx n laws_szOpS.d.nt) → laws_szOpS.d.Ok E (laws_szOpS.F (n + 1)) :=
  FD.ok (fs := laws_szOpS.fs n) mixedOk Tryd.func13 (by kernel_rfl) (by kernel_rfl) (by kernel_rfl) (by kernel_rfl) (fun _ => by kernel_rfl) (by kernel_rfl) (fun x => by kernel_rfl) (.cons (FD.lp n (laws_szOpS.r7 n) (by kernel_rfl) fun _ _ => by kernel_rfl) (.nil))
noncomputable def laws_szEvent.fs (n : Nat) : laws_szEvent.d.Fs := ()
theorem laws_szEvent.ok (n : Nat) : CxOk E (cx n laws_szEvent.d.nt) → KPar (cx n laws_szEvent.d.nt) → laws_szEvent.d.Ok E (laws_szEvent.F (n + 1)) :=
  FD.ok (fs := laws_szEvent.fs n) mixedOk Tryd.func5 (by kernel_rfl) (by kernel_rfl) (by kernel_rfl) (by kernel_rfl) (fun _ => by kernel_rfl) (by kernel_rfl) (fun x => by kernel_rfl) (.nil)
noncomputable def laws_toJsonS.fs (n : Nat) : laws_toJsonS.d.Fs := (fun _ κe => laws_toJsonS.loop4 n (laws_toJson n) (laws_toJsonS.o0.k (κe 0)) n, ())
theorem laws_toJsonS.r4 (n : Nat) : laws_toJsonS.d.Round (laws_toJsonS.fs n) (cx n laws_toJsonS.d.nt) (bodyOf Tryd.f36) 4 laws_toJsonS.p4 (fun κe => laws_toJsonS.step4 n (laws_toJson n) (laws_toJsonS.o0.k (κe 0))) := fun κ κe x y => by kernel_rfl
theorem laws_toJsonS.ok (n : Nat) : CxOk E (cx n laws_toJsonS.d.nt) → KPar (cx n laws_toJsonS.d.nt) → laws_toJsonS.d.Ok E (laws_toJsonS.F (n + 1)) :=
  FD.ok (fs := laws_toJsonS.fs n) mixedOk Tryd.func36 (by kernel_rfl) (by kernel_rfl) (by kernel_rfl) (by kernel_rfl) (fun _ => by kernel_rfl) (by kernel_rfl) (fun x => by kernel_rfl) (.cons (FD.lp n (laws_toJsonS.r4 n) (by kernel_rfl) fun _ _ => by kernel_rfl) (.nil))
noncomputable def laws_toStringS.fs (n : Nat) : laws_toStringS.d.Fs := (fun _ κe => laws_toStringS.loop4 n (laws_toStringS.o0.k (κe 0)) n, ())
theorem laws_toStringS.r4 (n : Nat) : laws_toStringS.d.Round (laws_toStringS.fs n) (cx n laws_toStringS.d.nt) (bodyOf Tryd.f37) 4 laws_toStringS.p4 (fun κe => laws_toStringS.step4 n (laws_toStringS.o0.k (κe 0))) := fun κ κe x y => by kernel_rfl
theorem laws_toStringS.ok (n : Nat) : CxOk E (cx n laws_toStringS.d.nt) → KPar (cx n laws_toStringS.d.nt) → laws_toStringS.d.Ok E (laws_toStringS.F (n + 1)) :=
  FD.ok (fs := laws_toStringS.fs n) mixedOk Tryd.func37 (by kernel_rfl) (by kernel_rfl) (by kernel_rfl) (by kernel_rfl) (fun _ => by kernel_rfl) (by kernel_rfl) (fun x => by kernel_rfl) (.cons (FD.lp n (laws_toStringS.r4 n) (by kernel_rfl) fun _ _ => by kernel_rfl) (.nil))
noncomputable def laws_toJson.fs (n : Nat) : laws_toJson.d.Fs := ()
theorem laws_toJson.ok (n : Nat) : CxOk E (cx n laws_toJson.d.nt) → KPar (cx n laws_toJson.d.nt) → laws_toJson.d.Ok E (laws_toJson.F (n + 1)) :=
  FD.ok (fs := laws_toJson.fs n) mixedOk Tryd.func18 (by kernel_rfl) (by kernel_rfl) (by kernel_rfl) (by kernel_rfl) (fun _ => by kernel_rfl) (by kernel_rfl) (fun x => by kernel_rfl) (.nil)
noncomputable def laws_toOp.fs (n : Nat) : laws_toOp.d.Fs := ()
theorem laws_toOp.ok (n : Nat) : CxOk E (cx n laws_toOp.d.nt) → KPar (cx n laws_toOp.d.nt) → laws_toOp.d.Ok E (laws_toOp.F (n + 1)) :=
  FD.ok (fs := laws_toOp.fs n) mixedOk Tryd.func38 (by kernel_rfl) (by kernel_rfl) (by kernel_rfl) (by kernel_rfl) (fun _ => by kernel_rfl) (by kernel_rfl) (fun x => by kernel_rfl) (.nil)
noncomputable def laws_toOpS.fs (n : Nat) : laws_toOpS.d.Fs := (fun _ κe => laws_toOpS.loop4 n (laws_toOpS.o0.k (κe 0)) n, ())
theorem laws_toOpS.r4 (n : Nat) : laws_toOpS.d.Round (laws_toOpS.fs n) (cx n laws_toOpS.d.nt) (bodyOf Tryd.f19) 4 laws_toOpS.p4 (fun κe => laws_toOpS.step4 n (laws_toOpS.o0.k (κe 0))) := fun κ κe x y => by kernel_rfl
theorem laws_toOpS.ok (n : Nat) : CxOk E (cx n laws_toOpS.d.nt) → KPar (cx n laws_toOpS.d.nt) → laws_toOpS.d.Ok E (laws_toOpS.F (n + 1)) :=
  FD.ok (fs := laws_toOpS.fs n) mixedOk Tryd.func19 (by kernel_rfl) (by kernel_rfl) (by kernel_rfl) (by kernel_rfl) (fun _ => by kernel_rfl) (by kernel_rfl) (fun x => by kernel_rfl) (.cons (FD.lp n (laws_toOpS.r4 n) (by kernel_rfl) fun _ _ => by kernel_rfl) (.nil))
noncomputable def laws_toEvent.fs (n : Nat) : laws_toEvent.d.Fs := ()
theorem laws_toEvent.ok (n : Nat) : CxOk E (cx n laws_toEvent.d.nt) → KPar (cx n laws_toEvent.d.nt) → laws_toEvent.d.Ok E (laws_toEvent.F (n + 1)) :=
  FD.ok (fs := laws_toEvent.fs n) mixedOk Tryd.func7 (by kernel_rfl) (by kernel_rfl) (by kernel_rfl) (by kernel_rfl) (fun _ => by kernel_rfl) (by kernel_rfl) (fun x => by kernel_rfl) (.nil)
noncomputable def spec_l1In.fs (n : Nat) : spec_l1In.d.Fs := ()
theorem spec_l1In.ok (n : Nat) : CxOk E (cx n spec_l1In.d.nt) → KPar (cx n spec_l1In.d.nt) → spec_l1In.d.Ok E (spec_l1In.F (n + 1)) :=
  FD.ok (fs := spec_l1In.fs n) mixedOk Tryd.func14 (by kernel_rfl) (by kernel_rfl) (by kernel_rfl) (by kernel_rfl) (fun _ => by kernel_rfl) (by kernel_rfl) (fun x => by kernel_rfl) (.nil)
noncomputable def spec_l1Text.fs (n : Nat) : spec_l1Text.d.Fs := (fun _ κe => spec_l1Text.loop3 n (spec_l1Text.o0.k (κe 0)) n, ())
theorem spec_l1Text.r3 (n : Nat) : spec_l1Text.d.Round (spec_l1Text.fs n) (cx n spec_l1Text.d.nt) (bodyOf Tryd.f62) 3 spec_l1Text.p3 (fun κe => spec_l1Text.step3 n (spec_l1Text.o0.k (κe 0))) := fun κ κe x y => by kernel_rfl
theorem spec_l1Text.ok (n : Nat) : CxOk E (cx n spec_l1Text.d.nt) → KPar (cx n spec_l1Text.d.nt) → spec_l1Text.d.Ok E (spec_l1Text.F (n + 1)) :=
  FD.ok (fs := spec_l1Text.fs n) mixedOk Tryd.func62 (by kernel_rfl) (by kernel_rfl) (by kernel_rfl) (by kernel_rfl) (fun _ => by kernel_rfl) (by kernel_rfl) (fun x => by kernel_rfl) (.cons (FD.lp n (spec_l1Text.r3 n) (by kernel_rfl) fun _ _ => by kernel_rfl) (.nil))
noncomputable def spec_l1Names.fs (n : Nat) : spec_l1Names.d.Fs := (fun _ κe => spec_l1Names.loop6 n (spec_l1Names.o0.k (κe 0)) n, ())
theorem spec_l1Names.r6 (n : Nat) : spec_l1Names.d.Round (spec_l1Names.fs n) (cx n spec_l1Names.d.nt) (bodyOf Tryd.f63) 6 spec_l1Names.p6 (fun κe => spec_l1Names.step6 n (spec_l1Names.o0.k (κe 0))) := fun κ κe x y => by kernel_rfl
theorem spec_l1Names.ok (n : Nat) : CxOk E (cx n spec_l1Names.d.nt) → KPar (cx n spec_l1Names.d.nt) → spec_l1Names.d.Ok E (spec_l1Names.F (n + 1)) :=
  FD.ok (fs := spec_l1Names.fs n) mixedOk Tryd.func63 (by kernel_rfl) (by kernel_rfl) (by kernel_rfl) (by kernel_rfl) (fun _ => by kernel_rfl) (by kernel_rfl) (fun x => by kernel_rfl) (.cons (FD.lp n (spec_l1Names.r6 n) (by kernel_rfl) fun _ _ => by kernel_rfl) (.nil))
noncomputable def spec_l1Great.fs (n : Nat) : spec_l1Great.d.Fs := (fun _ κe => spec_l1Great.loop23 n (spec_l1Great n) (spec_l1Great.o1.k (κe 1)) n, ())
theorem spec_l1Great.r23 (n : Nat) : spec_l1Great.d.Round (spec_l1Great.fs n) (cx n spec_l1Great.d.nt) (bodyOf Tryd.f46) 23 spec_l1Great.p23 (fun κe => spec_l1Great.step23 n (spec_l1Great n) (spec_l1Great.o1.k (κe 1))) := fun κ κe x y => by kernel_rfl
theorem spec_l1Great.ok (n : Nat) : CxOk E (cx n spec_l1Great.d.nt) → KPar (cx n spec_l1Great.d.nt) → spec_l1Great.d.Ok E (spec_l1Great.F (n + 1)) :=
  FD.ok (fs := spec_l1Great.fs n) mixedOk Tryd.func46 (by kernel_rfl) (by kernel_rfl) (by kernel_rfl) (by kernel_rfl) (fun _ => by kernel_rfl) (by kernel_rfl) (fun x => by kernel_rfl) (.cons (FD.lp n (spec_l1Great.r23 n) (by kernel_rfl) fun _ _ => by kernel_rfl) (.nil))
noncomputable def spec_JsonOk.fs (n : Nat) : spec_JsonOk.d.Fs := ()
theorem spec_JsonOk.ok (n : Nat) : CxOk E (cx n spec_JsonOk.d.nt) → KPar (cx n spec_JsonOk.d.nt) → spec_JsonOk.d.Ok E (spec_JsonOk.F (n + 1)) :=
  FD.ok (fs := spec_JsonOk.fs n) mixedOk Tryd.func33 (by kernel_rfl) (by kernel_rfl) (by kernel_rfl) (by kernel_rfl) (fun _ => by kernel_rfl) (by kernel_rfl) (fun x => by kernel_rfl) (.nil)
noncomputable def spec_l2Digits.fs (n : Nat) : spec_l2Digits.d.Fs := (fun _ κe => spec_l2Digits.loop7 n (spec_l2Digits.o0.k (κe 0)) n, ())
theorem spec_l2Digits.r7 (n : Nat) : spec_l2Digits.d.Round (spec_l2Digits.fs n) (cx n spec_l2Digits.d.nt) (bodyOf Tryd.f27) 7 spec_l2Digits.p7 (fun κe => spec_l2Digits.step7 n (spec_l2Digits.o0.k (κe 0))) := fun κ κe x y => by kernel_rfl
theorem spec_l2Digits.ok (n : Nat) : CxOk E (cx n spec_l2Digits.d.nt) → KPar (cx n spec_l2Digits.d.nt) → spec_l2Digits.d.Ok E (spec_l2Digits.F (n + 1)) :=
  FD.ok (fs := spec_l2Digits.fs n) mixedOk Tryd.func27 (by kernel_rfl) (by kernel_rfl) (by kernel_rfl) (by kernel_rfl) (fun _ => by kernel_rfl) (by kernel_rfl) (fun x => by kernel_rfl) (.cons (FD.lp n (spec_l2Digits.r7 n) (by kernel_rfl) fun _ _ => by kernel_rfl) (.nil))
noncomputable def spec_l2Quote.fs (n : Nat) : spec_l2Quote.d.Fs := (fun _ κe => spec_l2Quote.loop4 n (spec_l2Quote.o0.k (κe 0)) n, ())
theorem spec_l2Quote.r4 (n : Nat) : spec_l2Quote.d.Round (spec_l2Quote.fs n) (cx n spec_l2Quote.d.nt) (bodyOf Tryd.f47) 4 spec_l2Quote.p4 (fun κe => spec_l2Quote.step4 n (spec_l2Quote.o0.k (κe 0))) := fun κ κe x y => by kernel_rfl
theorem spec_l2Quote.ok (n : Nat) : CxOk E (cx n spec_l2Quote.d.nt) → KPar (cx n spec_l2Quote.d.nt) → spec_l2Quote.d.Ok E (spec_l2Quote.F (n + 1)) :=
  FD.ok (fs := spec_l2Quote.fs n) mixedOk Tryd.func47 (by kernel_rfl) (by kernel_rfl) (by kernel_rfl) (by kernel_rfl) (fun _ => by kernel_rfl) (by kernel_rfl) (fun x => by kernel_rfl) (.cons (FD.lp n (spec_l2Quote.r4 n) (by kernel_rfl) fun _ _ => by kernel_rfl) (.nil))
noncomputable def spec_l2Encode.fs (n : Nat) : spec_l2Encode.d.Fs := (fun _ κe => spec_l2Encode.loop17 n (spec_l2Encode n) (spec_l2Encode.o1.k (κe 1)) n, ())
theorem spec_l2Encode.r17 (n : Nat) : spec_l2Encode.d.Round (spec_l2Encode.fs n) (cx n spec_l2Encode.d.nt) (bodyOf Tryd.f34) 17 spec_l2Encode.p17 (fun κe => spec_l2Encode.step17 n (spec_l2Encode n) (spec_l2Encode.o1.k (κe 1))) := fun κ κe x y => by kernel_rfl
theorem spec_l2Encode.ok (n : Nat) : CxOk E (cx n spec_l2Encode.d.nt) → KPar (cx n spec_l2Encode.d.nt) → spec_l2Encode.d.Ok E (spec_l2Encode.F (n + 1)) :=
  FD.ok (fs := spec_l2Encode.fs n) mixedOk Tryd.func34 (by kernel_rfl) (by kernel_rfl) (by kernel_rfl) (by kernel_rfl) (fun _ => by kernel_rfl) (by kernel_rfl) (fun x => by kernel_rfl) (.cons (FD.lp n (spec_l2Encode.r17 n) (by kernel_rfl) fun _ _ => by kernel_rfl) (.nil))
noncomputable def spec_Encode.fs (n : Nat) : spec_Encode.d.Fs := ()
theorem spec_Encode.ok (n : Nat) : CxOk E (cx n spec_Encode.d.nt) → KPar (cx n spec_Encode.d.nt) → spec_Encode.d.Ok E (spec_Encode.F (n + 1)) :=
  FD.ok (fs := spec_Encode.fs n) mixedOk Tryd.func15 (by kernel_rfl) (by kernel_rfl) (by kernel_rfl) (by kernel_rfl) (fun _ => by kernel_rfl) (by kernel_rfl) (fun x => by kernel_rfl) (.nil)
noncomputable def spec_l1Same.fs (n : Nat) : spec_l1Same.d.Fs := (fun _ κe => spec_l1Same.loop6 n (spec_l1Same n) (spec_l1Same.o0.k (κe 0)) n, fun _ κe => spec_l1Same.loop14 n (spec_l1Same n) (spec_l1Same.o2.k (κe 2)) n, ())
theorem spec_l1Same.r14 (n : Nat) : spec_l1Same.d.Round (spec_l1Same.fs n) (cx n spec_l1Same.d.nt) (bodyOf Tryd.f17) 14 spec_l1Same.p14 (fun κe => spec_l1Same.step14 n (spec_l1Same n) (spec_l1Same.o2.k (κe 2))) := fun κ κe x y => by kernel_rfl
theorem spec_l1Same.r6 (n : Nat) : spec_l1Same.d.Round (spec_l1Same.fs n) (cx n spec_l1Same.d.nt) (bodyOf Tryd.f17) 6 spec_l1Same.p6 (fun κe => spec_l1Same.step6 n (spec_l1Same n) (spec_l1Same.o0.k (κe 0))) := fun κ κe x y => by kernel_rfl
theorem spec_l1Same.ok (n : Nat) : CxOk E (cx n spec_l1Same.d.nt) → KPar (cx n spec_l1Same.d.nt) → spec_l1Same.d.Ok E (spec_l1Same.F (n + 1)) :=
  FD.ok (fs := spec_l1Same.fs n) mixedOk Tryd.func17 (by kernel_rfl) (by kernel_rfl) (by kernel_rfl) (by kernel_rfl) (fun _ => by kernel_rfl) (by kernel_rfl) (fun x => by kernel_rfl) (.cons (FD.lp n (spec_l1Same.r6 n) (by kernel_rfl) fun _ _ => by kernel_rfl) (.cons (FD.lp n (spec_l1Same.r14 n) (by kernel_rfl) fun _ _ => by kernel_rfl) (.nil)))
noncomputable def spec_OpOk.fs (n : Nat) : spec_OpOk.d.Fs := (fun _ κe => spec_OpOk.loop6 n (spec_OpOk.o0.k (κe 0)) n, ())
theorem spec_OpOk.r6 (n : Nat) : spec_OpOk.d.Round (spec_OpOk.fs n) (cx n spec_OpOk.d.nt) (bodyOf Tryd.f48) 6 spec_OpOk.p6 (fun κe => spec_OpOk.step6 n (spec_OpOk.o0.k (κe 0))) := fun κ κe x y => by kernel_rfl
theorem spec_OpOk.ok (n : Nat) : CxOk E (cx n spec_OpOk.d.nt) → KPar (cx n spec_OpOk.d.nt) → spec_OpOk.d.Ok E (spec_OpOk.F (n + 1)) :=
  FD.ok (fs := spec_OpOk.fs n) mixedOk Tryd.func48 (by kernel_rfl) (by kernel_rfl) (by kernel_rfl) (by kernel_rfl) (fun _ => by kernel_rfl) (by kernel_rfl) (fun x => by kernel_rfl) (.cons (FD.lp n (spec_OpOk.r6 n) (by kernel_rfl) fun _ _ => by kernel_rfl) (.nil))
noncomputable def spec_l4Names.fs (n : Nat) : spec_l4Names.d.Fs := ()
theorem spec_l4Names.ok (n : Nat) : CxOk E (cx n spec_l4Names.d.nt) → KPar (cx n spec_l4Names.d.nt) → spec_l4Names.d.Ok E (spec_l4Names.F (n + 1)) :=
  FD.ok (fs := spec_l4Names.fs n) mixedOk Tryd.func49 (by kernel_rfl) (by kernel_rfl) (by kernel_rfl) (by kernel_rfl) (fun _ => by kernel_rfl) (by kernel_rfl) (fun x => by kernel_rfl) (.nil)
noncomputable def spec_WayText.fs (n : Nat) : spec_WayText.d.Fs := (fun _ κe => spec_WayText.loop10 n (spec_WayText.o2.k (κe 2)) n, fun _ κe => spec_WayText.loop4 n (spec_WayText.o0.k (κe 0)) n, ())
theorem spec_WayText.r4 (n : Nat) : spec_WayText.d.Round (spec_WayText.fs n) (cx n spec_WayText.d.nt) (bodyOf Tryd.f50) 4 spec_WayText.p4 (fun κe => spec_WayText.step4 n (spec_WayText.o0.k (κe 0))) := fun κ κe x y => by kernel_rfl
theorem spec_WayText.r10 (n : Nat) : spec_WayText.d.Round (spec_WayText.fs n) (cx n spec_WayText.d.nt) (bodyOf Tryd.f50) 10 spec_WayText.p10 (fun κe => spec_WayText.step10 n (spec_WayText.o2.k (κe 2))) := fun κ κe x y => by kernel_rfl
theorem spec_WayText.ok (n : Nat) : CxOk E (cx n spec_WayText.d.nt) → KPar (cx n spec_WayText.d.nt) → spec_WayText.d.Ok E (spec_WayText.F (n + 1)) :=
  FD.ok (fs := spec_WayText.fs n) mixedOk Tryd.func50 (by kernel_rfl) (by kernel_rfl) (by kernel_rfl) (by kernel_rfl) (fun _ => by kernel_rfl) (by kernel_rfl) (fun x => by kernel_rfl) (.cons (FD.lp n (spec_WayText.r10 n) (by kernel_rfl) fun _ _ => by kernel_rfl) (.cons (FD.lp n (spec_WayText.r4 n) (by kernel_rfl) fun _ _ => by kernel_rfl) (.nil)))
noncomputable def spec_l1Copy.fs (n : Nat) : spec_l1Copy.d.Fs := (fun _ κe => spec_l1Copy.loop4 n (spec_l1Copy n) (spec_l1Copy.o0.k (κe 0)) n, ())
theorem spec_l1Copy.r4 (n : Nat) : spec_l1Copy.d.Round (spec_l1Copy.fs n) (cx n spec_l1Copy.d.nt) (bodyOf Tryd.f52) 4 spec_l1Copy.p4 (fun κe => spec_l1Copy.step4 n (spec_l1Copy n) (spec_l1Copy.o0.k (κe 0))) := fun κ κe x y => by kernel_rfl
theorem spec_l1Copy.ok (n : Nat) : CxOk E (cx n spec_l1Copy.d.nt) → KPar (cx n spec_l1Copy.d.nt) → spec_l1Copy.d.Ok E (spec_l1Copy.F (n + 1)) :=
  FD.ok (fs := spec_l1Copy.fs n) mixedOk Tryd.func52 (by kernel_rfl) (by kernel_rfl) (by kernel_rfl) (by kernel_rfl) (fun _ => by kernel_rfl) (by kernel_rfl) (fun x => by kernel_rfl) (.cons (FD.lp n (spec_l1Copy.r4 n) (by kernel_rfl) fun _ _ => by kernel_rfl) (.nil))
noncomputable def spec_l1Put.fs (n : Nat) : spec_l1Put.d.Fs := (fun _ κe => spec_l1Put.loop5 n (spec_l1Put.o0.k (κe 0)) n, ())
theorem spec_l1Put.r5 (n : Nat) : spec_l1Put.d.Round (spec_l1Put.fs n) (cx n spec_l1Put.d.nt) (bodyOf Tryd.f51) 5 spec_l1Put.p5 (fun κe => spec_l1Put.step5 n (spec_l1Put.o0.k (κe 0))) := fun κ κe x y => by kernel_rfl
theorem spec_l1Put.ok (n : Nat) : CxOk E (cx n spec_l1Put.d.nt) → KPar (cx n spec_l1Put.d.nt) → spec_l1Put.d.Ok E (spec_l1Put.F (n + 1)) :=
  FD.ok (fs := spec_l1Put.fs n) mixedOk Tryd.func51 (by kernel_rfl) (by kernel_rfl) (by kernel_rfl) (by kernel_rfl) (fun _ => by kernel_rfl) (by kernel_rfl) (fun x => by kernel_rfl) (.cons (FD.lp n (spec_l1Put.r5 n) (by kernel_rfl) fun _ _ => by kernel_rfl) (.nil))
noncomputable def spec_OpJson.fs (n : Nat) : spec_OpJson.d.Fs := ()
theorem spec_OpJson.ok (n : Nat) : CxOk E (cx n spec_OpJson.d.nt) → KPar (cx n spec_OpJson.d.nt) → spec_OpJson.d.Ok E (spec_OpJson.F (n + 1)) :=
  FD.ok (fs := spec_OpJson.fs n) mixedOk Tryd.func35 (by kernel_rfl) (by kernel_rfl) (by kernel_rfl) (by kernel_rfl) (fun _ => by kernel_rfl) (by kernel_rfl) (fun x => by kernel_rfl) (.nil)
noncomputable def spec_l17Ops.fs (n : Nat) : spec_l17Ops.d.Fs := (fun _ κe => spec_l17Ops.loop4 n (spec_l17Ops.o0.k (κe 0)) n, ())
theorem spec_l17Ops.r4 (n : Nat) : spec_l17Ops.d.Round (spec_l17Ops.fs n) (cx n spec_l17Ops.d.nt) (bodyOf Tryd.f16) 4 spec_l17Ops.p4 (fun κe => spec_l17Ops.step4 n (spec_l17Ops.o0.k (κe 0))) := fun κ κe x y => by kernel_rfl
theorem spec_l17Ops.ok (n : Nat) : CxOk E (cx n spec_l17Ops.d.nt) → KPar (cx n spec_l17Ops.d.nt) → spec_l17Ops.d.Ok E (spec_l17Ops.F (n + 1)) :=
  FD.ok (fs := spec_l17Ops.fs n) mixedOk Tryd.func16 (by kernel_rfl) (by kernel_rfl) (by kernel_rfl) (by kernel_rfl) (fun _ => by kernel_rfl) (by kernel_rfl) (fun x => by kernel_rfl) (.cons (FD.lp n (spec_l17Ops.r4 n) (by kernel_rfl) fun _ _ => by kernel_rfl) (.nil))
noncomputable def spec_EventOk.fs (n : Nat) : spec_EventOk.d.Fs := ()
theorem spec_EventOk.ok (n : Nat) : CxOk E (cx n spec_EventOk.d.nt) → KPar (cx n spec_EventOk.d.nt) → spec_EventOk.d.Ok E (spec_EventOk.F (n + 1)) :=
  FD.ok (fs := spec_EventOk.fs n) mixedOk Tryd.func6 (by kernel_rfl) (by kernel_rfl) (by kernel_rfl) (by kernel_rfl) (fun _ => by kernel_rfl) (by kernel_rfl) (fun x => by kernel_rfl) (.nil)
noncomputable def spec_EventText.fs (n : Nat) : spec_EventText.d.Fs := ()
theorem spec_EventText.ok (n : Nat) : CxOk E (cx n spec_EventText.d.nt) → KPar (cx n spec_EventText.d.nt) → spec_EventText.d.Ok E (spec_EventText.F (n + 1)) :=
  FD.ok (fs := spec_EventText.fs n) mixedOk Tryd.func10 (by kernel_rfl) (by kernel_rfl) (by kernel_rfl) (by kernel_rfl) (fun _ => by kernel_rfl) (by kernel_rfl) (fun x => by kernel_rfl) (.nil)
noncomputable def impl_within.fs (n : Nat) : impl_within.d.Fs := ()
theorem impl_within.ok (n : Nat) : CxOk E (cx n impl_within.d.nt) → KPar (cx n impl_within.d.nt) → impl_within.d.Ok E (impl_within.F (n + 1)) :=
  FD.ok (fs := impl_within.fs n) mixedOk Tryd.func22 (by kernel_rfl) (by kernel_rfl) (by kernel_rfl) (by kernel_rfl) (fun _ => by kernel_rfl) (by kernel_rfl) (fun x => by kernel_rfl) (.nil)
noncomputable def impl_isVersion.fs (n : Nat) : impl_isVersion.d.Fs := ()
theorem impl_isVersion.ok (n : Nat) : CxOk E (cx n impl_isVersion.d.nt) → KPar (cx n impl_isVersion.d.nt) → impl_isVersion.d.Ok E (impl_isVersion.F (n + 1)) :=
  FD.ok (fs := impl_isVersion.fs n) mixedOk Tryd.func20 (by kernel_rfl) (by kernel_rfl) (by kernel_rfl) (by kernel_rfl) (fun _ => by kernel_rfl) (by kernel_rfl) (fun x => by kernel_rfl) (.nil)
noncomputable def impl_isNum.fs (n : Nat) : impl_isNum.d.Fs := ()
theorem impl_isNum.ok (n : Nat) : CxOk E (cx n impl_isNum.d.nt) → KPar (cx n impl_isNum.d.nt) → impl_isNum.d.Ok E (impl_isNum.F (n + 1)) :=
  FD.ok (fs := impl_isNum.fs n) mixedOk Tryd.func72 (by kernel_rfl) (by kernel_rfl) (by kernel_rfl) (by kernel_rfl) (fun _ => by kernel_rfl) (by kernel_rfl) (fun x => by kernel_rfl) (.nil)
noncomputable def impl_textOk.fs (n : Nat) : impl_textOk.d.Fs := (fun _ κe => impl_textOk.loop3 n (impl_textOk.o0.k (κe 0)) n, ())
theorem impl_textOk.r3 (n : Nat) : impl_textOk.d.Round (impl_textOk.fs n) (cx n impl_textOk.d.nt) (bodyOf Tryd.f69) 3 impl_textOk.p3 (fun κe => impl_textOk.step3 n (impl_textOk.o0.k (κe 0))) := fun κ κe x y => by kernel_rfl
theorem impl_textOk.ok (n : Nat) : CxOk E (cx n impl_textOk.d.nt) → KPar (cx n impl_textOk.d.nt) → impl_textOk.d.Ok E (impl_textOk.F (n + 1)) :=
  FD.ok (fs := impl_textOk.fs n) mixedOk Tryd.func69 (by kernel_rfl) (by kernel_rfl) (by kernel_rfl) (by kernel_rfl) (fun _ => by kernel_rfl) (by kernel_rfl) (fun x => by kernel_rfl) (.cons (FD.lp n (impl_textOk.r3 n) (by kernel_rfl) fun _ _ => by kernel_rfl) (.nil))
noncomputable def impl_namesOk.fs (n : Nat) : impl_namesOk.d.Fs := (fun _ κe => impl_namesOk.loop3 n (impl_namesOk.o0.k (κe 0)) n, ())
theorem impl_namesOk.r3 (n : Nat) : impl_namesOk.d.Round (impl_namesOk.fs n) (cx n impl_namesOk.d.nt) (bodyOf Tryd.f73) 3 impl_namesOk.p3 (fun κe => impl_namesOk.step3 n (impl_namesOk.o0.k (κe 0))) := fun κ κe x y => by kernel_rfl
theorem impl_namesOk.ok (n : Nat) : CxOk E (cx n impl_namesOk.d.nt) → KPar (cx n impl_namesOk.d.nt) → impl_namesOk.d.Ok E (impl_namesOk.F (n + 1)) :=
  FD.ok (fs := impl_namesOk.fs n) mixedOk Tryd.func73 (by kernel_rfl) (by kernel_rfl) (by kernel_rfl) (by kernel_rfl) (fun _ => by kernel_rfl) (by kernel_rfl) (fun x => by kernel_rfl) (.cons (FD.lp n (impl_namesOk.r3 n) (by kernel_rfl) fun _ _ => by kernel_rfl) (.nil))
noncomputable def impl_ownOk.fs (n : Nat) : impl_ownOk.d.Fs := ()
theorem impl_ownOk.ok (n : Nat) : CxOk E (cx n impl_ownOk.d.nt) → KPar (cx n impl_ownOk.d.nt) → impl_ownOk.d.Ok E (impl_ownOk.F (n + 1)) :=
  FD.ok (fs := impl_ownOk.fs n) mixedOk Tryd.func64 (by kernel_rfl) (by kernel_rfl) (by kernel_rfl) (by kernel_rfl) (fun _ => by kernel_rfl) (by kernel_rfl) (fun x => by kernel_rfl) (.nil)
noncomputable def impl_sizeIn.fs (n : Nat) : impl_sizeIn.d.Fs := (fun _ κe => impl_sizeIn.loop7 n (impl_sizeIn n) (impl_sizeIn.o0.k (κe 0)) n, ())
theorem impl_sizeIn.r7 (n : Nat) : impl_sizeIn.d.Round (impl_sizeIn.fs n) (cx n impl_sizeIn.d.nt) (bodyOf Tryd.f53) 7 impl_sizeIn.p7 (fun κe => impl_sizeIn.step7 n (impl_sizeIn n) (impl_sizeIn.o0.k (κe 0))) := fun κ κe x y => by kernel_rfl
theorem impl_sizeIn.ok (n : Nat) : CxOk E (cx n impl_sizeIn.d.nt) → KPar (cx n impl_sizeIn.d.nt) → impl_sizeIn.d.Ok E (impl_sizeIn.F (n + 1)) :=
  FD.ok (fs := impl_sizeIn.fs n) mixedOk Tryd.func53 (by kernel_rfl) (by kernel_rfl) (by kernel_rfl) (by kernel_rfl) (fun _ => by kernel_rfl) (by kernel_rfl) (fun x => by kernel_rfl) (.cons (FD.lp n (impl_sizeIn.r7 n) (by kernel_rfl) fun _ _ => by kernel_rfl) (.nil))
noncomputable def impl_JsonOk.fs (n : Nat) : impl_JsonOk.d.Fs := ()
theorem impl_JsonOk.ok (n : Nat) : CxOk E (cx n impl_JsonOk.d.nt) → KPar (cx n impl_JsonOk.d.nt) → impl_JsonOk.d.Ok E (impl_JsonOk.F (n + 1)) :=
  FD.ok (fs := impl_JsonOk.fs n) mixedOk Tryd.func39 (by kernel_rfl) (by kernel_rfl) (by kernel_rfl) (by kernel_rfl) (fun _ => by kernel_rfl) (by kernel_rfl) (fun x => by kernel_rfl) (.nil)
noncomputable def impl_quoted.fs (n : Nat) : impl_quoted.d.Fs := (fun _ κe => impl_quoted.loop4 n (impl_quoted.o0.k (κe 0)) n, ())
theorem impl_quoted.r4 (n : Nat) : impl_quoted.d.Round (impl_quoted.fs n) (cx n impl_quoted.d.nt) (bodyOf Tryd.f54) 4 impl_quoted.p4 (fun κe => impl_quoted.step4 n (impl_quoted.o0.k (κe 0))) := fun κ κe x y => by kernel_rfl
theorem impl_quoted.ok (n : Nat) : CxOk E (cx n impl_quoted.d.nt) → KPar (cx n impl_quoted.d.nt) → impl_quoted.d.Ok E (impl_quoted.F (n + 1)) :=
  FD.ok (fs := impl_quoted.fs n) mixedOk Tryd.func54 (by kernel_rfl) (by kernel_rfl) (by kernel_rfl) (by kernel_rfl) (fun _ => by kernel_rfl) (by kernel_rfl) (fun x => by kernel_rfl) (.cons (FD.lp n (impl_quoted.r4 n) (by kernel_rfl) fun _ _ => by kernel_rfl) (.nil))
noncomputable def impl_written.fs (n : Nat) : impl_written.d.Fs := (fun _ κe => impl_written.loop4 n (impl_written n) (impl_written.o0.k (κe 0)) n, ())
theorem impl_written.r4 (n : Nat) : impl_written.d.Round (impl_written.fs n) (cx n impl_written.d.nt) (bodyOf Tryd.f40) 4 impl_written.p4 (fun κe => impl_written.step4 n (impl_written n) (impl_written.o0.k (κe 0))) := fun κ κe x y => by kernel_rfl
theorem impl_written.ok (n : Nat) : CxOk E (cx n impl_written.d.nt) → KPar (cx n impl_written.d.nt) → impl_written.d.Ok E (impl_written.F (n + 1)) :=
  FD.ok (fs := impl_written.fs n) mixedOk Tryd.func40 (by kernel_rfl) (by kernel_rfl) (by kernel_rfl) (by kernel_rfl) (fun _ => by kernel_rfl) (by kernel_rfl) (fun x => by kernel_rfl) (.cons (FD.lp n (impl_written.r4 n) (by kernel_rfl) fun _ _ => by kernel_rfl) (.nil))
noncomputable def impl_Encode.fs (n : Nat) : impl_Encode.d.Fs := ()
theorem impl_Encode.ok (n : Nat) : CxOk E (cx n impl_Encode.d.nt) → KPar (cx n impl_Encode.d.nt) → impl_Encode.d.Ok E (impl_Encode.F (n + 1)) :=
  FD.ok (fs := impl_Encode.fs n) mixedOk Tryd.func21 (by kernel_rfl) (by kernel_rfl) (by kernel_rfl) (by kernel_rfl) (fun _ => by kernel_rfl) (by kernel_rfl) (fun x => by kernel_rfl) (.nil)
noncomputable def impl_isZero.fs (n : Nat) : impl_isZero.d.Fs := ()
theorem impl_isZero.ok (n : Nat) : CxOk E (cx n impl_isZero.d.nt) → KPar (cx n impl_isZero.d.nt) → impl_isZero.d.Ok E (impl_isZero.F (n + 1)) :=
  FD.ok (fs := impl_isZero.fs n) mixedOk Tryd.func23 (by kernel_rfl) (by kernel_rfl) (by kernel_rfl) (by kernel_rfl) (fun _ => by kernel_rfl) (by kernel_rfl) (fun x => by kernel_rfl) (.nil)
noncomputable def impl_OpOk.fs (n : Nat) : impl_OpOk.d.Fs := (fun _ κe => impl_OpOk.loop3 n (impl_OpOk.o0.k (κe 0)) n, ())
theorem impl_OpOk.r3 (n : Nat) : impl_OpOk.d.Round (impl_OpOk.fs n) (cx n impl_OpOk.d.nt) (bodyOf Tryd.f57) 3 impl_OpOk.p3 (fun κe => impl_OpOk.step3 n (impl_OpOk.o0.k (κe 0))) := fun κ κe x y => by kernel_rfl
theorem impl_OpOk.ok (n : Nat) : CxOk E (cx n impl_OpOk.d.nt) → KPar (cx n impl_OpOk.d.nt) → impl_OpOk.d.Ok E (impl_OpOk.F (n + 1)) :=
  FD.ok (fs := impl_OpOk.fs n) mixedOk Tryd.func57 (by kernel_rfl) (by kernel_rfl) (by kernel_rfl) (by kernel_rfl) (fun _ => by kernel_rfl) (by kernel_rfl) (fun x => by kernel_rfl) (.cons (FD.lp n (impl_OpOk.r3 n) (by kernel_rfl) fun _ _ => by kernel_rfl) (.nil))
noncomputable def impl_opNames.fs (n : Nat) : impl_opNames.d.Fs := ()
theorem impl_opNames.ok (n : Nat) : CxOk E (cx n impl_opNames.d.nt) → KPar (cx n impl_opNames.d.nt) → impl_opNames.d.Ok E (impl_opNames.F (n + 1)) :=
  FD.ok (fs := impl_opNames.fs n) mixedOk Tryd.func58 (by kernel_rfl) (by kernel_rfl) (by kernel_rfl) (by kernel_rfl) (fun _ => by kernel_rfl) (by kernel_rfl) (fun x => by kernel_rfl) (.nil)
noncomputable def impl_WayText.fs (n : Nat) : impl_WayText.d.Fs := (fun _ κe => impl_WayText.loop4 n (impl_WayText.o0.k (κe 0)) n, ())
theorem impl_WayText.r4 (n : Nat) : impl_WayText.d.Round (impl_WayText.fs n) (cx n impl_WayText.d.nt) (bodyOf Tryd.f59) 4 impl_WayText.p4 (fun κe => impl_WayText.step4 n (impl_WayText.o0.k (κe 0))) := fun κ κe x y => by kernel_rfl
theorem impl_WayText.ok (n : Nat) : CxOk E (cx n impl_WayText.d.nt) → KPar (cx n impl_WayText.d.nt) → impl_WayText.d.Ok E (impl_WayText.F (n + 1)) :=
  FD.ok (fs := impl_WayText.fs n) mixedOk Tryd.func59 (by kernel_rfl) (by kernel_rfl) (by kernel_rfl) (by kernel_rfl) (fun _ => by kernel_rfl) (by kernel_rfl) (fun x => by kernel_rfl) (.cons (FD.lp n (impl_WayText.r4 n) (by kernel_rfl) fun _ _ => by kernel_rfl) (.nil))
noncomputable def impl_copyTexts.fs (n : Nat) : impl_copyTexts.d.Fs := ()
theorem impl_copyTexts.ok (n : Nat) : CxOk E (cx n impl_copyTexts.d.nt) → KPar (cx n impl_copyTexts.d.nt) → impl_copyTexts.d.Ok E (impl_copyTexts.F (n + 1)) :=
  FD.ok (fs := impl_copyTexts.fs n) mixedOk Tryd.func71 (by kernel_rfl) (by kernel_rfl) (by kernel_rfl) (by kernel_rfl) (fun _ => by kernel_rfl) (by kernel_rfl) (fun x => by kernel_rfl) (.nil)
noncomputable def impl_copyJson.fs (n : Nat) : impl_copyJson.d.Fs := (fun _ κe => impl_copyJson.loop4 n (impl_copyJson n) (impl_copyJson.o0.k (κe 0)) n, ())
theorem impl_copyJson.r4 (n : Nat) : impl_copyJson.d.Round (impl_copyJson.fs n) (cx n impl_copyJson.d.nt) (bodyOf Tryd.f60) 4 impl_copyJson.p4 (fun κe => impl_copyJson.step4 n (impl_copyJson n) (impl_copyJson.o0.k (κe 0))) := fun κ κe x y => by kernel_rfl
theorem impl_copyJson.ok (n : Nat) : CxOk E (cx n impl_copyJson.d.nt) → KPar (cx n impl_copyJson.d.nt) → impl_copyJson.d.Ok E (impl_copyJson.F (n + 1)) :=
  FD.ok (fs := impl_copyJson.fs n) mixedOk Tryd.func60 (by kernel_rfl) (by kernel_rfl) (by kernel_rfl) (by kernel_rfl) (fun _ => by kernel_rfl) (by kernel_rfl) (fun x => by kernel_rfl) (.cons (FD.lp n (impl_copyJson.r4 n) (by kernel_rfl) fun _ _ => by kernel_rfl) (.nil))
noncomputable def impl_orNull.fs (n : Nat) : impl_orNull.d.Fs := ()
theorem impl_orNull.ok (n : Nat) : CxOk E (cx n impl_orNull.d.nt) → KPar (cx n impl_orNull.d.nt) → impl_orNull.d.Ok E (impl_orNull.F (n + 1)) :=
  FD.ok (fs := impl_orNull.fs n) mixedOk Tryd.func61 (by kernel_rfl) (by kernel_rfl) (by kernel_rfl) (by kernel_rfl) (fun _ => by kernel_rfl) (by kernel_rfl) (fun x => by kernel_rfl) (.nil)
noncomputable def impl_OpJson.fs (n : Nat) : impl_OpJson.d.Fs := ()
theorem impl_OpJson.ok (n : Nat) : CxOk E (cx n impl_OpJson.d.nt) → KPar (cx n impl_OpJson.d.nt) → impl_OpJson.d.Ok E (impl_OpJson.F (n + 1)) :=
  FD.ok (fs := impl_OpJson.fs n) mixedOk Tryd.func45 (by kernel_rfl) (by kernel_rfl) (by kernel_rfl) (by kernel_rfl) (fun _ => by kernel_rfl) (by kernel_rfl) (fun x => by kernel_rfl) (.nil)
noncomputable def impl_opsJson.fs (n : Nat) : impl_opsJson.d.Fs := (fun _ κe => impl_opsJson.loop4 n (impl_opsJson.o0.k (κe 0)) n, ())
theorem impl_opsJson.r4 (n : Nat) : impl_opsJson.d.Round (impl_opsJson.fs n) (cx n impl_opsJson.d.nt) (bodyOf Tryd.f29) 4 impl_opsJson.p4 (fun κe => impl_opsJson.step4 n (impl_opsJson.o0.k (κe 0))) := fun κ κe x y => by kernel_rfl
theorem impl_opsJson.ok (n : Nat) : CxOk E (cx n impl_opsJson.d.nt) → KPar (cx n impl_opsJson.d.nt) → impl_opsJson.d.Ok E (impl_opsJson.F (n + 1)) :=
  FD.ok (fs := impl_opsJson.fs n) mixedOk Tryd.func29 (by kernel_rfl) (by kernel_rfl) (by kernel_rfl) (by kernel_rfl) (fun _ => by kernel_rfl) (by kernel_rfl) (fun x => by kernel_rfl) (.cons (FD.lp n (impl_opsJson.r4 n) (by kernel_rfl) fun _ _ => by kernel_rfl) (.nil))
noncomputable def impl_PatchSize.fs (n : Nat) : impl_PatchSize.d.Fs := ()
theorem impl_PatchSize.ok (n : Nat) : CxOk E (cx n impl_PatchSize.d.nt) → KPar (cx n impl_PatchSize.d.nt) → impl_PatchSize.d.Ok E (impl_PatchSize.F (n + 1)) :=
  FD.ok (fs := impl_PatchSize.fs n) mixedOk Tryd.func24 (by kernel_rfl) (by kernel_rfl) (by kernel_rfl) (by kernel_rfl) (fun _ => by kernel_rfl) (by kernel_rfl) (fun x => by kernel_rfl) (.nil)
noncomputable def impl_EventOk.fs (n : Nat) : impl_EventOk.d.Fs := ()
theorem impl_EventOk.ok (n : Nat) : CxOk E (cx n impl_EventOk.d.nt) → KPar (cx n impl_EventOk.d.nt) → impl_EventOk.d.Ok E (impl_EventOk.F (n + 1)) :=
  FD.ok (fs := impl_EventOk.fs n) mixedOk Tryd.func8 (by kernel_rfl) (by kernel_rfl) (by kernel_rfl) (by kernel_rfl) (fun _ => by kernel_rfl) (by kernel_rfl) (fun x => by kernel_rfl) (.nil)
noncomputable def impl_digits.fs (n : Nat) : impl_digits.d.Fs := ()
theorem impl_digits.ok (n : Nat) : CxOk E (cx n impl_digits.d.nt) → KPar (cx n impl_digits.d.nt) → impl_digits.d.Ok E (impl_digits.F (n + 1)) :=
  FD.ok (fs := impl_digits.fs n) mixedOk Tryd.func28 (by kernel_rfl) (by kernel_rfl) (by kernel_rfl) (by kernel_rfl) (fun _ => by kernel_rfl) (by kernel_rfl) (fun x => by kernel_rfl) (.nil)
noncomputable def impl_EventText.fs (n : Nat) : impl_EventText.d.Fs := ()
theorem impl_EventText.ok (n : Nat) : CxOk E (cx n impl_EventText.d.nt) → KPar (cx n impl_EventText.d.nt) → impl_EventText.d.Ok E (impl_EventText.F (n + 1)) :=
  FD.ok (fs := impl_EventText.fs n) mixedOk Tryd.func11 (by kernel_rfl) (by kernel_rfl) (by kernel_rfl) (by kernel_rfl) (fun _ => by kernel_rfl) (by kernel_rfl) (fun x => by kernel_rfl) (.nil)
noncomputable def laws_eqJsonS.fs (n : Nat) : laws_eqJsonS.d.Fs := (fun _ κe => laws_eqJsonS.loop6 n (laws_eqJson n) (laws_eqJsonS.o0.k (κe 0)) n, ())
theorem laws_eqJsonS.r6 (n : Nat) : laws_eqJsonS.d.Round (laws_eqJsonS.fs n) (cx n laws_eqJsonS.d.nt) (bodyOf Tryd.f41) 6 laws_eqJsonS.p6 (fun κe => laws_eqJsonS.step6 n (laws_eqJson n) (laws_eqJsonS.o0.k (κe 0))) := fun κ κe x y => by kernel_rfl
theorem laws_eqJsonS.ok (n : Nat) : CxOk E (cx n laws_eqJsonS.d.nt) → KPar (cx n laws_eqJsonS.d.nt) → laws_eqJsonS.d.Ok E (laws_eqJsonS.F (n + 1)) :=
  FD.ok (fs := laws_eqJsonS.fs n) mixedOk Tryd.func41 (by kernel_rfl) (by kernel_rfl) (by kernel_rfl) (by kernel_rfl) (fun _ => by kernel_rfl) (by kernel_rfl) (fun x => by kernel_rfl) (.cons (FD.lp n (laws_eqJsonS.r6 n) (by kernel_rfl) fun _ _ => by kernel_rfl) (.nil))
noncomputable def laws_eqStringS.fs (n : Nat) : laws_eqStringS.d.Fs := (fun _ κe => laws_eqStringS.loop6 n (laws_eqStringS.o0.k (κe 0)) n, ())
theorem laws_eqStringS.r6 (n : Nat) : laws_eqStringS.d.Round (laws_eqStringS.fs n) (cx n laws_eqStringS.d.nt) (bodyOf Tryd.f42) 6 laws_eqStringS.p6 (fun κe => laws_eqStringS.step6 n (laws_eqStringS.o0.k (κe 0))) := fun κ κe x y => by kernel_rfl
theorem laws_eqStringS.ok (n : Nat) : CxOk E (cx n laws_eqStringS.d.nt) → KPar (cx n laws_eqStringS.d.nt) → laws_eqStringS.d.Ok E (laws_eqStringS.F (n + 1)) :=
  FD.ok (fs := laws_eqStringS.fs n) mixedOk Tryd.func42 (by kernel_rfl) (by kernel_rfl) (by kernel_rfl) (by kernel_rfl) (fun _ => by kernel_rfl) (by kernel_rfl) (fun x => by kernel_rfl) (.cons (FD.lp n (laws_eqStringS.r6 n) (by kernel_rfl) fun _ _ => by kernel_rfl) (.nil))
noncomputable def laws_eqJson.fs (n : Nat) : laws_eqJson.d.Fs := ()
theorem laws_eqJson.ok (n : Nat) : CxOk E (cx n laws_eqJson.d.nt) → KPar (cx n laws_eqJson.d.nt) → laws_eqJson.d.Ok E (laws_eqJson.F (n + 1)) :=
  FD.ok (fs := laws_eqJson.fs n) mixedOk Tryd.func25 (by kernel_rfl) (by kernel_rfl) (by kernel_rfl) (by kernel_rfl) (fun _ => by kernel_rfl) (by kernel_rfl) (fun x => by kernel_rfl) (.nil)
noncomputable def laws_eqOp.fs (n : Nat) : laws_eqOp.d.Fs := ()
theorem laws_eqOp.ok (n : Nat) : CxOk E (cx n laws_eqOp.d.nt) → KPar (cx n laws_eqOp.d.nt) → laws_eqOp.d.Ok E (laws_eqOp.F (n + 1)) :=
  FD.ok (fs := laws_eqOp.fs n) mixedOk Tryd.func43 (by kernel_rfl) (by kernel_rfl) (by kernel_rfl) (by kernel_rfl) (fun _ => by kernel_rfl) (by kernel_rfl) (fun x => by kernel_rfl) (.nil)
noncomputable def laws_eqOpS.fs (n : Nat) : laws_eqOpS.d.Fs := (fun _ κe => laws_eqOpS.loop6 n (laws_eqOpS.o0.k (κe 0)) n, ())
theorem laws_eqOpS.r6 (n : Nat) : laws_eqOpS.d.Round (laws_eqOpS.fs n) (cx n laws_eqOpS.d.nt) (bodyOf Tryd.f26) 6 laws_eqOpS.p6 (fun κe => laws_eqOpS.step6 n (laws_eqOpS.o0.k (κe 0))) := fun κ κe x y => by kernel_rfl
theorem laws_eqOpS.ok (n : Nat) : CxOk E (cx n laws_eqOpS.d.nt) → KPar (cx n laws_eqOpS.d.nt) → laws_eqOpS.d.Ok E (laws_eqOpS.F (n + 1)) :=
  FD.ok (fs := laws_eqOpS.fs n) mixedOk Tryd.func26 (by kernel_rfl) (by kernel_rfl) (by kernel_rfl) (by kernel_rfl) (fun _ => by kernel_rfl) (by kernel_rfl) (fun x => by kernel_rfl) (.cons (FD.lp n (laws_eqOpS.r6 n) (by kernel_rfl) fun _ _ => by kernel_rfl) (.nil))
noncomputable def laws_eqEvent.fs (n : Nat) : laws_eqEvent.d.Fs := ()
theorem laws_eqEvent.ok (n : Nat) : CxOk E (cx n laws_eqEvent.d.nt) → KPar (cx n laws_eqEvent.d.nt) → laws_eqEvent.d.Ok E (laws_eqEvent.F (n + 1)) :=
  FD.ok (fs := laws_eqEvent.fs n) mixedOk Tryd.func9 (by kernel_rfl) (by kernel_rfl) (by kernel_rfl) (by kernel_rfl) (fun _ => by kernel_rfl) (by kernel_rfl) (fun x => by kernel_rfl) (.nil)
noncomputable def laws_FnExactEventText.fs (n : Nat) : laws_FnExactEventText.d.Fs := ()
theorem laws_FnExactEventText.ok (n : Nat) : CxOk E (cx n laws_FnExactEventText.d.nt) → KPar (cx n laws_FnExactEventText.d.nt) → laws_FnExactEventText.d.Ok E (laws_FnExactEventText.F (n + 1)) :=
  FD.ok (fs := laws_FnExactEventText.fs n) mixedOk Tryd.func4 (by kernel_rfl) (by kernel_rfl) (by kernel_rfl) (by kernel_rfl) (fun _ => by kernel_rfl) (by kernel_rfl) (fun x => by kernel_rfl) (.nil)
end Go.Pi
end
section
set_option linter.unusedVariables false
namespace Go.Pi
/-- what an insertion makes of two rows -/
def InsM (P : Program) (f : FuncId) (e : TypeId) (K B : Nat) : Prop :=
  ∀ (w : World) (S : Value) (n : Nat) (vals : List Value) (U : Value) (m : Nat) (us : List Value) (i : Nat), w.ownsRow 0 e K S n vals → w.ownsRow 0 e K U m us → (∀ b, own1 S b ≠ 0 → own1 U b = 0) → i ≤ n →
    (∀ v ∈ vals, v.oneCell' = true) → (∀ v ∈ us, v.oneCell' = true) → (n + m) * B ≤ 140737488355328 →
    Calls P f (List.toArray [S, .int .i64 i, U]) w fun e' w' => ∃ R, e' = .returned R ∧ w'.ownsRow 0 e K R (n + m) (vals.take (i * K) ++ us ++ vals.drop (i * K)) ∧ GrewC w w' (fun b => own1 S b ≠ 0) ∧
      ∀ b, own1 R b ≠ 0 → (w.heap.size ≤ b ∨ own1 S b ≠ 0) ∧ b < w'.heap.size
/-- what a deletion makes of a row -/
def DelM (P : Program) (f : FuncId) (e : TypeId) (K : Nat) : Prop :=
  ∀ (w : World) (S : Value) (n : Nat) (vals : List Value) (i j : Nat), w.ownsRow 0 e K S n vals → i ≤ j → j ≤ n → (∀ v ∈ vals, v.oneCell' = true) →
    Calls P f (List.toArray [S, .int .i64 i, .int .i64 j]) w fun e' w' => ∃ R, e' = .returned R ∧ w'.ownsRow 0 e K R (n - (j - i)) (vals.take (i * K) ++ vals.drop (j * K)) ∧ GrewC w w' (fun b => own1 S b ≠ 0) ∧
      ∀ b, own1 R b ≠ 0 → (w.heap.size ≤ b ∨ own1 S b ≠ 0) ∧ b < w'.heap.size
def M.both : M → M → M
  | .d, .d => .d
  | _, _ => .s
variable [Coding]
open Coding
variable {E : Env} {w w' : World} {F F' : Nat → Prop}
theorem RL.own_inv {m t xs v l vs φ} (hm : m ≠ .v) (h : RL E w F (.sl m t xs :: l) (v :: vs) φ) : ∃ vals φ₁ φ₂, w.ownsRow 0 (E.eid t) t.width v xs.length vals ∧ RL E w F (encRows m.sub t xs) vals φ₁ ∧ (∀ b, own1 v b ≠ 0 → F b) ∧ RL E w F l vs φ₂ ∧ ∀ b, φ b = own1 v b + φ₁ b + φ₂ b := by
  cases h with
  | scal _ _ _ _ _ h => exact h.elim
  | view => exact absurd rfl hm
  | own m t xs v vals φ₁ l vs φ₂ φ h1 h2 h3 h4 h5 h6 => exact ⟨vals, φ₁, φ₂, h2, h3, h4, h5, h6⟩
theorem RL.len_inv {a l Vs φ} (h : RL E w F (a :: l) Vs φ) : ∃ v vs, Vs = v :: vs := by
  obtain ⟨v, vs, _, _, h, _⟩ := RL.uncons h
  exact ⟨v, vs, h⟩
/-- a row that came out of one that was handed over, and what lies in it -/
theorem row_back [CodingOk] {φ : Nat → Nat} (h1 : ∀ b, φ b ≤ 1) (low : ∀ b, φ b ≠ 0 → F b ∧ b < w.heap.size) {S : Value} (hSF : ∀ b, own1 S b ≠ 0 → F b) {t : TC} {zs : List (El t)} {vals : List Value} {ψ : Nat → Nat}
    (hz : RL E w F (encRows .d t zs) vals ψ) (eφ : ∀ b, own1 S b + ψ b ≤ φ b) {R : Value} (hR : w'.ownsRow 0 (E.eid t) t.width R zs.length vals) (hg : GrewC w w' (fun b => own1 S b ≠ 0))
    (hRb : ∀ b, own1 R b ≠ 0 → (w.heap.size ≤ b ∨ own1 S b ≠ 0) ∧ b < w'.heap.size) :
    ∃ φ', RL E w' (fun b => (F b ∧ φ b = 0) ∨ φ' b ≠ 0) [.sl .d t zs] [R] φ' ∧ (∀ b, φ' b ≤ 1) ∧ (∀ b, φ' b ≠ 0 → φ b ≠ 0 ∨ w.heap.size ≤ b) ∧
      w'.os = w.os ∧ w'.tape = w.tape ∧ w'.output = w.output ∧ w.heap.size ≤ w'.heap.size ∧ ∀ b, b < w.heap.size → φ b = 0 → w'.heap[b]? = w.heap[b]? := by
  have key : ∀ b, own1 R b ≠ 0 → own1 S b ≠ 0 ∨ w.heap.size ≤ b := fun b hb => (hRb b hb).1.symm
  have elt : ∀ b, ψ b ≠ 0 → own1 R b = 0 ∧ own1 S b = 0 := fun b hb => by
    have q1 := eφ b; have q2 := h1 b
    have s0 : own1 S b = 0 := by omega
    refine ⟨Classical.byContradiction fun hr => ?_, s0⟩
    rcases key b hr with hs | hs
    · exact hs s0
    · have := (low b (by omega)).2; omega
  refine ⟨fun b => own1 R b + ψ b, ?_, fun b => ?_, fun b hb => ?_, hg.os, hg.tape, hg.output, hg.size, fun b hb h0 => hg.heap b hb fun hc => hc (by have := eφ b; omega)⟩
  · refine .own .d t zs R vals ψ [] _ (fun _ => 0) _ (by decide) hR ?_ (fun b hb => .inr (by show own1 R b + _ ≠ 0; omega)) (.nil _ fun _ => rfl) (fun b => rfl)
    refine hz.frame hg.size (fun b hb => ⟨hg.heap b (hz.low b hb).2 fun hc => hc (elt b hb).2, .inr (by show own1 R b + ψ b ≠ 0; omega)⟩) fun b hb hn => ⟨hg.heap b hb fun hc => hn (hSF b hc), fun hc => ?_⟩
    rcases hc with ⟨hf, -⟩ | hc
    · exact hn hf
    · have hc : own1 R b + ψ b ≠ 0 := hc
      by_cases hr0 : own1 R b = 0
      · exact hn (hz.low b (by omega)).1
      · rcases key b hr0 with hs | hs
        · exact hn (hSF b hs)
        · omega
  · show own1 R b + ψ b ≤ 1
    have q1 := eφ b; have q2 := h1 b; have := own1_le R b
    by_cases h0 : ψ b = 0
    · omega
    · have := elt b h0; omega
  · have hb : own1 R b + ψ b ≠ 0 := hb
    by_cases h0 : ψ b = 0
    · rcases key b (by omega) with hs | hs
      · exact .inl (by have := eφ b; omega)
      · exact .inr hs
    · exact .inl (by have := eφ b; omega)
/-- the same of a row whose elements are seen from then on -/
theorem row_back_s [CodingOk] {φ : Nat → Nat} (h1 : ∀ b, φ b ≤ 1) (low : ∀ b, φ b ≠ 0 → F b ∧ b < w.heap.size) {S : Value} (hSF : ∀ b, own1 S b ≠ 0 → F b) {t : TC} {zs : List (El t)} {L : List AV} {vals : List Value} {ψ : Nat → Nat}
    (hz : RL E w F L vals ψ) (hL : L.map AV.asView = encRows .v t zs) (eφ : ∀ b, own1 S b + ψ b ≤ φ b) {R : Value} (hR : w'.ownsRow 0 (E.eid t) t.width R zs.length vals) (hg : GrewC w w' (fun b => own1 S b ≠ 0))
    (hRb : ∀ b, own1 R b ≠ 0 → (w.heap.size ≤ b ∨ own1 S b ≠ 0) ∧ b < w'.heap.size) :
    ∃ φ', RL E w' (fun b => (F b ∧ φ b = 0) ∨ φ' b ≠ 0) [.sl .s t zs] [R] φ' ∧ (∀ b, φ' b ≤ 1) ∧ (∀ b, φ' b ≠ 0 → φ b ≠ 0 ∨ w.heap.size ≤ b) ∧
      w'.os = w.os ∧ w'.tape = w.tape ∧ w'.output = w.output ∧ w.heap.size ≤ w'.heap.size ∧ ∀ b, b < w.heap.size → φ b = 0 → w'.heap[b]? = w.heap[b]? := by
  have key : ∀ b, own1 R b ≠ 0 → own1 S b ≠ 0 ∨ w.heap.size ≤ b := fun b hb => (hRb b hb).1.symm
  have hv := hz.seen (F' := fun b => F b ∧ ψ b = 0) (fun b hb hc => hb hc.2) (fun b _ hn hc => hn hc.1)
  rw [hL] at hv
  refine ⟨own1 R, ?_, own1_le R, fun b hb => ?_, hg.os, hg.tape, hg.output, hg.size, fun b hb h0 => hg.heap b hb fun hc => hc (by have := eφ b; omega)⟩
  · refine .own .s t zs R vals (fun _ => 0) [] _ (fun _ => 0) _ (by decide) hR ?_ (fun b hb => .inr hb) (.nil _ fun _ => rfl) (fun b => rfl)
    refine hv.frame hg.size (fun b hb => absurd rfl hb) fun b hb hn => ⟨hg.heap b hb fun hc => hn ⟨hSF b hc, by have := eφ b; have := h1 b; omega⟩, fun hc => ?_⟩
    rcases hc with ⟨hf, h0⟩ | hc
    · exact hn ⟨hf, by have := eφ b; omega⟩
    · rcases key b hc with hs | hs
      · exact hn ⟨hSF b hs, by have := eφ b; have := h1 b; omega⟩
      · omega
  · rcases key b hb with hs | hs
    · exact .inl (by have := eφ b; omega)
    · exact .inr hs
theorem RL.int_inv {k n l v vs φ} (h : RL E w F (.i k n :: l) (v :: vs) φ) : v = .int k n ∧ RL E w F l vs φ := by
  cases h with
  | scal _ _ _ _ _ h1 h2 => exact ⟨h1, h2⟩
theorem codedD [CodingOk] {m : M} {t : TC} (zs : List (El t)) : ∀ a ∈ encRows m t zs, ∃ m, a.coded m := fun a ha => ⟨m, rows_coded a ha⟩
theorem ins_callOk [CodingOk] {f : FuncId} {t : TC} {m1 m2 : M} (hm1 : m1 ≠ .v) (hm2 : m2 ≠ .v) (h : InsM E.P f (E.eid t) t.width t.bytes) {xs ys : List (El t)} {i : Nat} (hi : i ≤ xs.length) (hb : (xs.length + ys.length) * t.bytes ≤ 140737488355328) :
    CallOk E f [.sl m1 t xs, .i .i64 i, .sl m2 t ys] (.sl (M.both m1 m2) t (xs.take i ++ ys ++ xs.drop i)) [] [.o, .v, .o] := by
  intro w F Vs φ hrl h1 hlow _
  have low : ∀ b, φ b ≠ 0 → F b ∧ b < w.heap.size := hrl.low
  obtain ⟨S, _, rfl⟩ := hrl.len_inv
  replace hrl := hrl.own_inv hm1
  obtain ⟨vals, φx, φ2, hS, hx, hSF, hrl, e1⟩ := hrl
  obtain ⟨I, _, rfl⟩ := hrl.len_inv
  replace hrl := hrl.int_inv
  obtain ⟨rfl, hrl⟩ := hrl
  obtain ⟨U, _, rfl⟩ := hrl.len_inv
  replace hrl := hrl.own_inv hm2
  obtain ⟨us, φy, φ4, hU, hy, hUF, hrl, e3⟩ := hrl
  obtain ⟨rfl, e4⟩ := RL.nil_inv hrl
  have eφ : ∀ b, φ b = own1 S b + φx b + (own1 U b + φy b) := fun b => by rw [e1, e3, e4]; omega
  refine (h w S xs.length vals U ys.length us i hS hU (fun b hb => by have := h1 b; have := eφ b; omega) hi (hx.one (codedD _)) (hy.one (codedD _)) hb).mono ?_
  rintro e' w' ⟨R, rfl, hR, hg, hRb⟩
  have hx' : RL E w F (encRows m1.sub t (xs.take i) ++ encRows m1.sub t (xs.drop i)) vals φx := by rw [← encRows_append, List.take_append_drop]; exact hx
  obtain ⟨va, vb, φa, φb, rfl, ha, hb', e6⟩ := hx'.split
  have hla : va.length = i * t.width := by rw [← ha.length, encRows_length, List.length_take, Nat.min_eq_left hi]
  rw [← hla, List.take_left, List.drop_left] at hR
  have hz : RL E w F (encRows m1.sub t (xs.take i) ++ encRows m2.sub t ys ++ encRows m1.sub t (xs.drop i)) (va ++ us ++ vb) (fun b => φa b + φy b + φb b) :=
    (ha.append hy (ψ := fun b => φa b + φy b) (fun b => rfl)).append hb' (fun b => rfl)
  have hl : (xs.take i ++ ys ++ xs.drop i).length = xs.length + ys.length := by simp; omega
  have he : ∀ b, own1 S b + (φa b + φy b + φb b) ≤ φ b := fun b => by have := eφ b; have := e6 b; omega
  by_cases hd : m1 = .d ∧ m2 = .d
  · obtain ⟨rfl, rfl⟩ := hd
    have hz' : RL E w F (encRows .d t (xs.take i ++ ys ++ xs.drop i)) (va ++ us ++ vb) (fun b => φa b + φy b + φb b) := by
      rw [encRows_append, encRows_append]; exact hz
    obtain ⟨φ', k1, k2⟩ := row_back (S := S) (R := R) h1 low hSF hz' he (by rw [hl]; exact hR) hg hRb
    exact ⟨R, φ', rfl, k1, k2⟩
  · have hb2 : M.both m1 m2 = .s := by cases m1 <;> cases m2 <;> first | rfl | exact absurd rfl hm1 | exact absurd rfl hm2 | exact absurd ⟨rfl, rfl⟩ hd
    rw [hb2]
    obtain ⟨φ', k1, k2⟩ := row_back_s (S := S) (R := R) (t := t) (zs := xs.take i ++ ys ++ xs.drop i) h1 low hSF hz (by rw [List.map_append, List.map_append, asView_rows, asView_rows, asView_rows, encRows_append, encRows_append]) he (by rw [hl]; exact hR) hg hRb
    exact ⟨R, φ', rfl, k1, k2⟩
theorem del_callOk [CodingOk] {f : FuncId} {t : TC} {m : M} (hm0 : m ≠ .v) (h : DelM E.P f (E.eid t) t.width) {xs : List (El t)} {i j : Nat} (hij : i ≤ j) (hj : j ≤ xs.length) :
    CallOk E f [.sl m t xs, .i .i64 i, .i .i64 j] (.sl (M.both m m) t (xs.take i ++ xs.drop j)) [] [.o, .v, .v] := by
  intro w F Vs φ hrl h1 hlow _
  have low : ∀ b, φ b ≠ 0 → F b ∧ b < w.heap.size := hrl.low
  obtain ⟨S, _, rfl⟩ := hrl.len_inv
  replace hrl := hrl.own_inv hm0
  obtain ⟨vals, φx, φ2, hS, hx, hSF, hrl, e1⟩ := hrl
  obtain ⟨I, _, rfl⟩ := hrl.len_inv
  replace hrl := hrl.int_inv
  obtain ⟨rfl, hrl⟩ := hrl
  obtain ⟨J, _, rfl⟩ := hrl.len_inv
  replace hrl := hrl.int_inv
  obtain ⟨rfl, hrl⟩ := hrl
  obtain ⟨rfl, e4⟩ := RL.nil_inv hrl
  have eφ : ∀ b, φ b = own1 S b + φx b := fun b => by rw [e1, e4]; omega
  refine (h w S xs.length vals i j hS hij hj (hx.one (codedD _))).mono ?_
  rintro e' w' ⟨R, rfl, hR, hg, hRb⟩
  have hx' : RL E w F (encRows m.sub t (xs.take i) ++ (encRows m.sub t ((xs.drop i).take (j - i)) ++ encRows m.sub t (xs.drop j))) vals φx := by
    rw [← encRows_append, ← encRows_append]
    have : xs.drop j = (xs.drop i).drop (j - i) := by rw [List.drop_drop]; congr 1; omega
    rw [this, List.take_append_drop, List.take_append_drop]; exact hx
  obtain ⟨va, vc, φa, φc, rfl, ha, hc, e6⟩ := hx'.split
  obtain ⟨vm, vb, φm, φb, rfl, hm, hb', e7⟩ := hc.split
  have hla : va.length = i * t.width := by rw [← ha.length, encRows_length, List.length_take, Nat.min_eq_left (by omega)]
  have hlm : vm.length = (j - i) * t.width := by rw [← hm.length, encRows_length, List.length_take, List.length_drop, Nat.min_eq_left (by omega)]
  have hlj : (va ++ vm).length = j * t.width := by rw [List.length_append, hla, hlm, ← Nat.add_mul]; congr 1; omega
  rw [← hla, List.take_left, ← hlj, ← List.append_assoc, List.drop_left] at hR
  have hz : RL E w F (encRows m.sub t (xs.take i) ++ encRows m.sub t (xs.drop j)) (va ++ vb) (fun b => φa b + φb b) := ha.append hb' (fun b => rfl)
  have hl : (xs.take i ++ xs.drop j).length = xs.length - (j - i) := by simp; omega
  have he : ∀ b, own1 S b + (φa b + φb b) ≤ φ b := fun b => by have := eφ b; have := e6 b; have := e7 b; omega
  cases m with
  | v => exact absurd rfl hm0
  | d =>
    have hz' : RL E w F (encRows .d t (xs.take i ++ xs.drop j)) (va ++ vb) (fun b => φa b + φb b) := by
      rw [encRows_append]; exact hz
    obtain ⟨φ', k1, k2⟩ := row_back (S := S) (R := R) h1 low hSF hz' he (by rw [hl]; exact hR) hg hRb
    exact ⟨R, φ', rfl, k1, k2⟩
  | s =>
    obtain ⟨φ', k1, k2⟩ := row_back_s (S := S) (R := R) (t := t) (zs := xs.take i ++ xs.drop j) h1 low hSF hz (by rw [List.map_append, asView_rows, asView_rows, encRows_append]) he (by rw [hl]; exact hR) hg hRb
    exact ⟨R, φ', rfl, k1, k2⟩
theorem nDel_ok [CodingOk] {f : FuncId} {t : TC} {m : M} (hm0 : m ≠ .v) (h : DelM E.P f (E.eid t) t.width) {xs r : List (El t)} {i j : Int} (hr : nDelete xs i j = some r) :
    CallOk E f [.sl m t xs, .i .i64 i, .i .i64 j] (.sl (M.both m m) t r) [] [.o, .v, .v] := by
  unfold nDelete at hr
  by_cases hc : 0 ≤ i ∧ i ≤ j ∧ j ≤ (xs.length : Int)
  · obtain ⟨h1, h2, h3⟩ := hc
    obtain ⟨i, rfl⟩ := Int.eq_ofNat_of_zero_le h1
    obtain ⟨j, rfl⟩ := Int.eq_ofNat_of_zero_le (Int.le_trans h1 h2)
    simp only [h1, h2, h3, decide_true, Bool.and_true, cond_true, Option.some.injEq] at hr
    subst hr
    exact del_callOk hm0 h (by omega) (by omega)
  · have : (decide (0 ≤ i) && (decide (i ≤ j) && decide (j ≤ (xs.length : Int)))) = false := by
      rw [Bool.eq_false_iff]; intro h; simp only [Bool.and_eq_true, decide_eq_true_eq] at h; exact hc h
    rw [this] at hr; cases hr
theorem nIns_ok [CodingOk] {f : FuncId} {t : TC} {m1 m2 : M} (hm1 : m1 ≠ .v) (hm2 : m2 ≠ .v) (h : InsM E.P f (E.eid t) t.width t.bytes) {xs ys r : List (El t)} {i : Int} (hr : nInsert t.bytes xs i ys = some r) :
    CallOk E f [.sl m1 t xs, .i .i64 i, .sl m2 t ys] (.sl (M.both m1 m2) t r) [] [.o, .v, .o] := by
  unfold nInsert at hr
  by_cases hc : 0 ≤ i ∧ i ≤ (xs.length : Int)
  · obtain ⟨h1, h2⟩ := hc
    obtain ⟨i, rfl⟩ := Int.eq_ofNat_of_zero_le h1
    by_cases hb : (xs.length + ys.length) * t.bytes ≤ 140737488355328
    · simp only [h1, h2, hb, decide_true, Bool.and_true, cond_true, Option.some.injEq] at hr
      subst hr
      exact ins_callOk hm1 hm2 h (by omega) hb
    · simp [h1, h2, hb] at hr
  · have : (decide (0 ≤ i) && decide (i ≤ (xs.length : Int))) = false := by
      rw [Bool.eq_false_iff]; intro h; simp only [Bool.and_eq_true, decide_eq_true_eq] at h; exact hc h
    rw [this] at hr; cases hr
end Go.Pi
end
section
set_option linter.unusedVariables false
set_option linter.unusedSimpArgs false
namespace Go.Proofs
open Go.Shelf Go.RowKit Go.Lib Go.Pi
section
variable {P : Program}
theorem step_append_runI {ops : Array Oper} {o : Oper} {a : Act} {w : World} {K : Act → World → Prop} {Q : Exit → Act → World → Prop} {E : Prop}
    (hg : o.guard = none) (d x : Operand) (dT sT : TypeId) (hop : o.op = Op.call { callee := Callee.builtin Builtin.append, args := #[d, x], argTypes := #[dT, sT] })
    (v u : Value) (hd : a.eval d = v) (hx : a.eval x = u) {v' : Value} {w' : World} (hr : (Builtin.append_ #[dT, sT] o.type #[v, u]).run P w = .ok v' w') (hK : K (a.put o.dst v') w') :
    if Region.wanted o (yielded ops a.tmps) = true then Oper.wp P o a w K Q else E := by
  have hw : Region.wanted o (yielded ops a.tmps) = true := by simp [Region.wanted, hg]
  rw [if_pos hw]
  unfold Oper.wp
  simp [execOp, hop, resolve, invoke, builtin, hd, hx, hr, Result.andThen]
  exact hK
theorem wpList_clear_runI (w : World) {ops : Array Oper} {rest : List Oper} {o : Oper} {a : Act} {Q : Exit → Act → World → Prop} (hgd : o.guard = none) (d : Operand) (t : TypeId)
    (ho : o.op = .call { callee := .builtin .clear, args := #[d], argTypes := #[t] }) (v : Value) (hd : a.eval d = v) {v' : Value} {w' : World}
    (hr : (Builtin.clear_ #[t] o.type #[v]).run P w = .ok v' w') (h : wpList P ops Q rest (a.put o.dst v') w') : wpList P ops Q (o :: rest) a w :=
  wpList_plain hgd fun _ hK => by
    unfold Oper.wp execOp
    simp only [ho, resolve, invoke, builtin, Sem.run_bind, Sem.run_pure, Result.andThen_ok, List.map_toArray, List.map_cons, List.map_nil, hd, hr]
    exact hK _ _ h
theorem run_clear_k (w : World) (t e ty : TypeId) (z : Value) (ht : P.underlying t = some (.slice e)) (hv : ∀ w, (zeroValue e).run P w = .ok z w) (g o n c : Nat) (hn : 0 < n) (cur : Array Value) (T : TypeId) (hg : w.heap[g]? = some (.cells cur T (0, 0)))
    (hfit : o + (Builtin.zeroCells z.cells n).toList.length ≤ cur.size) (h1 : ∀ v ∈ (Builtin.zeroCells z.cells n).toList, v.oneCell' = true) :
    (Builtin.clear_ #[t] ty #[.slice (some ⟨g, o, none⟩) n c]).run P w = .ok (.tuple #[]) (w.setRow g (cur.toList.take o ++ (Builtin.zeroCells z.cells n).toList ++ cur.toList.drop (o + (Builtin.zeroCells z.cells n).toList.length)).toArray) := by
  have hst := run_storeCells_at P g o T (Builtin.zeroCells z.cells n).toList 0 cur w hg (by simpa using hfit) h1
  obtain ⟨m, rfl⟩ : ∃ m, n = m + 1 := ⟨n - 1, by omega⟩
  simp only [Builtin.clear_, run_underlying ht, Sem.run_bind, Result.andThen_ok, hv]
  simp only [List.getElem?_toArray, List.getElem?_cons_zero, Sem.run_bind, run_underlying ht, Result.andThen_ok, hv, hst, Nat.add_zero, Sem.run_pure]
end
theorem wpList_copy_runI (w : World) {P : Program} {ops : Array Oper} {rest : List Oper} {o : Oper} {a : Act} {Q : Exit → Act → World → Prop} (hgd : o.guard = none) (d s : Operand) (t t' : TypeId)
    (ho : o.op = .call { callee := .builtin .copy, args := #[d, s], argTypes := #[t, t'] }) (v u : Value) (hd : a.eval d = v) (hs : a.eval s = u) {v' : Value} {w' : World}
    (hr : (Builtin.copy_ #[t, t'] o.type #[v, u]).run P w = .ok v' w') (h : wpList P ops Q rest (a.put o.dst v') w') : wpList P ops Q (o :: rest) a w :=
  wpList_plain hgd fun _ hK => by
    unfold Oper.wp execOp
    simp only [ho, resolve, invoke, builtin, Sem.run_bind, Sem.run_pure, Result.andThen_ok, List.map_toArray, List.map_cons, List.map_nil, hd, hs, hr]
    exact hK _ _ h
theorem step_copy_runI {P : Program} {ops : Array Oper} {o : Oper} {a : Act} {w : World} {K : Act → World → Prop} {Q : Exit → Act → World → Prop} {E : Prop}
    (hg : o.guard = none) (d x : Operand) (dT sT : TypeId) (hop : o.op = Op.call { callee := Callee.builtin Builtin.copy, args := #[d, x], argTypes := #[dT, sT] })
    (v u : Value) (hd : a.eval d = v) (hx : a.eval x = u) {v' : Value} {w' : World} (hr : (Builtin.copy_ #[dT, sT] o.type #[v, u]).run P w = .ok v' w') (hK : K (a.put o.dst v') w') :
    if Region.wanted o (yielded ops a.tmps) = true then Oper.wp P o a w K Q else E := by
  have hw : Region.wanted o (yielded ops a.tmps) = true := by simp [Region.wanted, hg]
  rw [if_pos hw]
  unfold Oper.wp
  simp [execOp, hop, resolve, invoke, builtin, hd, hx, hr, Result.andThen]
  exact hK
theorem run_copy_rowK {P : Program} (w : World) (dT sT ty elem : TypeId) (k : Nat) (g o dLen dCap : Nat) (a : Addr) (sLen sCap : Nat) (cur : Array Value) (t : TypeId) (cs : List Value)
    (hu : P.underlying dT = some (.slice elem)) (hs : (P.info? elem).map (·.size) = some k)
    (hg : w.heap[g]? = some (.cells cur t (0, 0))) (hn : cs.length = Nat.min sLen dLen * k)
    (hsrc : ∀ j v, cs[j]? = some v → w.cell? (a.add j) = some v) (hfit : o + cs.length ≤ cur.size) (h1 : ∀ v ∈ cs, v.oneCell' = true) :
    (Builtin.copy_ #[dT, sT] ty #[.slice (some ⟨g, o, none⟩) dLen dCap, .slice (some a) sLen sCap]).run P w =
      .ok (goInt (Nat.min sLen dLen)) (w.setRow g (cur.toList.take o ++ cs ++ cur.toList.drop (o + cs.length)).toArray) := by
  have hl := run_loadCells_list (P := P) w a cs hsrc
  have hst := run_storeCells_at P g o t cs 0 cur w hg (by simpa using hfit) h1
  cases hq : P.info? elem with
  | none => simp [hq] at hs
  | some i =>
    have hi : i.size = k := by simpa [hq] using hs
    simp [Builtin.copy_, run_underlying hu, Builtin.lenOf, Builtin.firstCells, sizeOf, typeInfo, hq, hi, ← hn, hl, hst]
theorem zc_one (cs : Array Value) (h : cs.toList.all Value.oneCell' = true) (n : Nat) : ∀ v ∈ (Builtin.zeroCells cs n).toList, v.oneCell' = true := by
  intro v hv
  simp only [Builtin.zeroCells, Array.toList_map, List.mem_map, Array.toList_range, List.mem_range] at hv
  obtain ⟨x, hx, rfl⟩ := hv
  have h0 : 0 < cs.size := Nat.pos_of_mul_pos_left (by omega : 0 < n * cs.size)
  have : x % cs.size < cs.size := Nat.mod_lt _ h0
  rw [getElem!_pos cs _ this]
  exact List.all_eq_true.1 h _ (by simp)
theorem own_low {w : World} {e : TypeId} {K : Nat} {S : Value} {n : Nat} {vals : List Value} (h : w.ownsRow 0 e K S n vals) : ∀ b, own1 S b ≠ 0 → b < w.heap.size := by
  intro b hb
  rcases h.2 with ⟨rfl, _⟩ | ⟨g, cap, cur, rfl, _, hg, _⟩
  · simp [own1] at hb
  · have : g = b := by simp only [own1] at hb; exact Classical.byContradiction fun h => hb (if_neg h)
    subst this
    exact (Array.getElem?_eq_some_iff.1 hg).1
theorem drow_size (w : World) (g : Nat) (A : Array Value) : w.heap.size ≤ (w.drew.setRow g A).heap.size := by
  have : (w.drew.setRow g A).heap.size = w.drew.heap.size := by simp [World.setRow]
  rw [this]; exact Nat.le_refl _
theorem owns1_iff {w : World} {e : TypeId} {v : Value} {n : Nat} {xs : List Value} : w.ownsRow 0 e 1 v n xs ↔
    (xs.length = n ∧ (v = .slice none 0 0 ∧ n = 0 ∨ ∃ g cap cur, v = .slice (some ⟨g, 0, none⟩) n cap ∧ 0 ≤ g ∧ w.heap[g]? = some (.cells cur e (0, 0)) ∧ n ≤ cap ∧ cap ≤ maxLen ∧ cur.size = cap ∧ cur.toList.take n = xs)) := by
  unfold World.ownsRow
  simp only [Nat.mul_one]
end Go.Proofs
end
section
set_option linter.unusedVariables false
set_option linter.unusedSimpArgs false
namespace Go.Proofs
open Go.Shelf
def Tryd.laysM171_ren : Go.Shelf.Ren := ⟨fun | 171 => 44 | 243 => 56 | 246 => 68 | 283 => 76 | 284 => 77 | 285 => 78 | 286 => 79 | 129 => 84 | 317 => 83 | 318 => 85 | 319 => 86 | 320 => 87 | 337 => 91 | 338 => 92 | n => n, fun | 3 => 3 | 9 => 9 | 2 => 2 | 4 => 4 | 171 => 92 | 0 => 0 | 53 => 93 | 37 => 69 | 5 => 5 | 173 => 96 | 212 => 104 | 51 => 105 | 20 => 20 | 213 => 106 | 46 => 107 | 232 => 115 | 233 => 116 | n => n, fun | 17 => 0 | 18 => 2 | 19 => 3 | n => n⟩
theorem Tryd.laysM171 : Go.Proofs.LaysM.n171 Tryd.prog Tryd.laysM171_ren := {
  mixed := by kernel_rfl
  f129 := Tryd.func84.trans (congrArg some (by kernel_rfl))
  f171 := Tryd.func44.trans (congrArg some (by kernel_rfl))
  f243 := Tryd.func56.trans (congrArg some (by kernel_rfl))
  f246 := Tryd.func68.trans (congrArg some (by kernel_rfl))
  f283 := Tryd.func76.trans (congrArg some (by kernel_rfl))
  f284 := Tryd.func77.trans (congrArg some (by kernel_rfl))
  f285 := Tryd.func78.trans (congrArg some (by kernel_rfl))
  f286 := Tryd.func79.trans (congrArg some (by kernel_rfl))
  f317 := Tryd.func83.trans (congrArg some (by kernel_rfl))
  f318 := Tryd.func85.trans (congrArg some (by kernel_rfl))
  f319 := Tryd.func86.trans (congrArg some (by kernel_rfl))
  f320 := Tryd.func87.trans (congrArg some (by kernel_rfl))
  f337 := Tryd.func91.trans (congrArg some (by kernel_rfl))
  f338 := Tryd.func92.trans (congrArg some (by kernel_rfl))
  t0 := Tryd.underlying0
  a0 := Tryd.isAgg0
  z0 := Tryd.sizeOf0
  v0 := Tryd.zeroValue0
  t2 := Tryd.underlying2
  a2 := Tryd.isAgg2
  z2 := Tryd.sizeOf2
  v2 := Tryd.zeroValue2
  t3 := Tryd.underlying3
  a3 := Tryd.isAgg3
  z3 := Tryd.sizeOf3
  v3 := Tryd.zeroValue3
  t4 := Tryd.underlying4
  a4 := Tryd.isAgg4
  z4 := Tryd.sizeOf4
  v4 := Tryd.zeroValue4
  t5 := Tryd.underlying5
  a5 := Tryd.isAgg5
  z5 := Tryd.sizeOf5
  v5 := Tryd.zeroValue5
  t9 := Tryd.underlying9
  a9 := Tryd.isAgg9
  z9 := Tryd.sizeOf9
  v9 := Tryd.zeroValue9
  t20 := Tryd.underlying20
  a20 := Tryd.isAgg20
  z20 := Tryd.sizeOf20
  v20 := Tryd.zeroValue20
  t37 := Tryd.underlying69
  a37 := Tryd.isAgg69
  z37 := Tryd.sizeOf69
  v37 := Tryd.zeroValue69
  t46 := Tryd.underlying107
  a46 := Tryd.isAgg107
  z46 := Tryd.sizeOf107
  v46 := Tryd.zeroValue107
  t51 := Tryd.underlying105
  a51 := Tryd.isAgg105
  z51 := Tryd.sizeOf105
  v51 := Tryd.zeroValue105
  t53 := Tryd.underlying93
  a53 := Tryd.isAgg93
  z53 := Tryd.sizeOf93
  v53 := Tryd.zeroValue93
  t171 := Tryd.underlying92
  a171 := Tryd.isAgg92
  z171 := Tryd.sizeOf92
  v171 := Tryd.zeroValue92
  t173 := Tryd.underlying96
  a173 := Tryd.isAgg96
  z173 := Tryd.sizeOf96
  v173 := Tryd.zeroValue96
  t212 := Tryd.underlying104
  a212 := Tryd.isAgg104
  z212 := Tryd.sizeOf104
  v212 := Tryd.zeroValue104
  t213 := Tryd.underlying106
  a213 := Tryd.isAgg106
  z213 := Tryd.sizeOf106
  t232 := Tryd.underlying115
  a232 := Tryd.isAgg115
  z232 := Tryd.sizeOf115
  v232 := Tryd.zeroValue115
  t233 := Tryd.underlying116
  a233 := Tryd.isAgg116
  z233 := Tryd.sizeOf116
  v233 := Tryd.zeroValue116
  g17 := by kernel_rfl
  g18 := by kernel_rfl
  g19 := by kernel_rfl
  i0 := by kernel_rfl
  i2 := by kernel_rfl
  i3 := by kernel_rfl
  i4 := by kernel_rfl
  i5 := by kernel_rfl
  i9 := by kernel_rfl
  i20 := by kernel_rfl
  i37 := by kernel_rfl
  i46 := by kernel_rfl
  i51 := by kernel_rfl
  i53 := by kernel_rfl
  i171 := by kernel_rfl
  i173 := by kernel_rfl
  i212 := by kernel_rfl
  i232 := by kernel_rfl
  i233 := by kernel_rfl
  m17 := by kernel_rfl
  m18 := by kernel_rfl
  m19 := by kernel_rfl }
open Go.RowKit Go.Sort Go.Lib in
theorem Tryd.strconv_Itoa (n : Int) (h0 : -9223372036854775808 ≤ n) (h1 : n ≤ 9223372036854775807) (w : World) (htab : Lib.TabIs Tryd.prog w "internal/strconv.uint64pow10" .u64 Lib.pow10Tab) :
    Calls Tryd.prog 44 #[.int .i64 n] w fun e w' => e = .returned (.string ⟨(Lib.itoa n).toArray⟩) ∧ ∃ k os, w' = grow (w.drewN k) os := Any.strconv_Itoa Tryd.laysM171 n h0 h1 w htab
end Go.Proofs
namespace Go.Pi
open Go.Proofs
theorem globNamed : E.P.globalNamed "internal/strconv.uint64pow10" = some 0 := by kernel_rfl
theorem strconv_Itoa.ok (n : Nat) (_ : CxOk E (cx n strconv_Itoa.d.nt)) (_ : KPar (cx n strconv_Itoa.d.nt)) : strconv_Itoa.d.Ok E (strconv_Itoa.F (n + 1)) := fun _ _ h => nItoa_ok (fun n h0 h1 w ht => Tryd.strconv_Itoa n h0 h1 w ht) (.head _) globNamed h
end Go.Pi
end
section
set_option linter.unusedVariables false
namespace Go.Pi
open Go.RowKit
/-- strings.Join, strings.ReplaceAll, az the shelf's contracts tell them -/
def JoinM (P : Program) (f : FuncId) : Prop :=
  (∀ (a : Option Addr) (c : Nat) (sep : ByteArray) (w : World), Calls P f #[.slice a 0 c, .string sep] w fun e w' => e = .returned (.string ⟨#[]⟩) ∧ w' = w) ∧
  ∀ (bk o c : Nat) (xs : List ByteArray) (sep : ByteArray) (w : World), (∀ (j : Nat) x, xs[j]? = some x → w.cell? ⟨bk, o + j, none⟩ = some (.string x)) → bk < w.heap.size → xs.length ≤ 140737488355328 → xs.length ≤ c →
    (Lib.join (xs.map (·.data.toList)) sep.data.toList).length ≤ 140737488355328 → Calls P f #[.slice (some ⟨bk, o, none⟩) xs.length c, .string sep] w fun e w' => e = .returned (.string ⟨(Lib.join (xs.map (·.data.toList)) sep.data.toList).toArray⟩) ∧ Below w.heap.size w w'
def ReplM (P : Program) (f : FuncId) (g : Nat) : Prop := ∀ (s old new : ByteArray) (m : Int) (w : World), s.size < 4294967281 → w.cell? ⟨g, 0, none⟩ = some (.int .i64 m) → 1 ≤ old.size → s.size + Lib.count s.data.toList old.data.toList * new.size ≤ 140737488355328 →
  Calls P f #[.string s, .string old, .string new] w fun e w' => e = .returned (.string ⟨(Lib.replaceAll s.data.toList old.data.toList new.data.toList).toArray⟩) ∧ Below w.heap.size w w'
variable [Coding]
open Coding
variable {E : Env}
theorem strs_vals {w : World} {F : Nat → Prop} (hs : ∀ x : El .str, enc .v .str x = [.s x]) : ∀ (xs : List (El .str)) (vals : List Value) (z : Nat → Nat), RL E w F (encRows .v .str xs) vals z → vals = List.map (fun x : Bs => Value.string ⟨x.toArray⟩) xs
  | [], vals, z, h => (RL.nil_inv (show RL E w F [] vals z from h)).1
  | x :: xs, vals, z, h => by
    have h : RL E w F (enc .v .str x ++ encRows .v .str xs) vals z := by simpa [encRows] using h
    rw [hs, List.singleton_append] at h
    obtain ⟨v, vs, φ₁, φ₂, rfl, k1, k2, _⟩ := RL.uncons h
    have e := strs_vals hs xs vs φ₂ k2
    have e1 : v = .string ⟨x.toArray⟩ := by
      cases k1 with
      | scal _ _ _ _ _ h1 h2 => exact h1
    subst e1
    exact congrArg (List.cons _) e
omit [Coding] in
theorem data_toList (x : Bs) : (⟨x.toArray⟩ : ByteArray).data.toList = x := rfl
/-- what is behind a call that makes blocks only -/
theorem ok_below [CodingOk] {w w' : World} {F : Nat → Prop} {φ : Nat → Nat} {r : Bs} {ps : List PS} {Vs : List Value} (hp : PS.outsAll ps Vs = []) (h : Below w.heap.size w w') :
    ∃ V φ', Ending.returned (.string ⟨r.toArray⟩) = .returned V ∧ RL E w' (fun b => (F b ∧ φ b = 0) ∨ φ' b ≠ 0) (.s r :: []) (V :: PS.outsAll ps Vs) φ' ∧ (∀ b, φ' b ≤ 1) ∧ (∀ b, φ' b ≠ 0 → φ b ≠ 0 ∨ w.heap.size ≤ b) ∧
      w'.os = w.os ∧ w'.tape = w.tape ∧ w'.output = w.output ∧ w.heap.size ≤ w'.heap.size ∧ ∀ b, b < w.heap.size → φ b = 0 → w'.heap[b]? = w.heap[b]? :=
  ⟨_, fun _ => 0, rfl, by rw [hp]; exact .scal _ _ _ _ _ rfl (.nil _ fun _ => rfl), fun _ => Nat.zero_le _, fun b hb => absurd rfl hb, h.os, h.tape, h.output, h.size, fun b hb _ => h.block b hb⟩
omit [Coding] in
theorem nJoin_some {xs : List Bs} {sep r : Bs} (hr : nJoin xs sep = some r) : xs.length ≤ 140737488355328 ∧ (Lib.join xs sep).length ≤ 140737488355328 ∧ r = Lib.join xs sep := by
  unfold nJoin at hr
  by_cases h1 : xs.length ≤ 140737488355328
  · by_cases h2 : (Lib.join xs sep).length ≤ 140737488355328
    · rw [decide_eq_true h1, decide_eq_true h2] at hr
      exact ⟨h1, h2, (Option.some.inj hr).symm⟩
    · rw [decide_eq_false h2, Bool.and_false] at hr; cases hr
  · rw [decide_eq_false h1, Bool.false_and] at hr; cases hr
omit [Coding] in
theorem join_view {P : Program} {f : FuncId} (h : JoinM P f) {xs : List Bs} {sep : Bs} {w : World} {b o cap : Nat} (hra : w.rangeAt b o (xs.map fun x => Value.string ⟨x.toArray⟩)) (hlt : b < w.heap.size) (h1 : xs.length ≤ 140737488355328) (hcap : xs.length ≤ cap) (h2 : (Lib.join xs sep).length ≤ 140737488355328) :
    Calls P f #[.slice (some ⟨b, o, none⟩) xs.length cap, .string ⟨sep.toArray⟩] w fun e w' => e = .returned (.string ⟨(Lib.join xs sep).toArray⟩) ∧ Below w.heap.size w w' := by
  have hm : (xs.map (fun x : Bs => (⟨x.toArray⟩ : ByteArray))).map (·.data.toList) = xs := by
    rw [List.map_map]; exact List.map_id _
  have hlen : (xs.map (fun x : Bs => (⟨x.toArray⟩ : ByteArray))).length = xs.length := List.length_map _
  have := h.2 b o cap (xs.map (fun x : Bs => (⟨x.toArray⟩ : ByteArray))) ⟨sep.toArray⟩ w (fun j x hj => hra j _ (by
    rw [List.getElem?_map]
    rw [List.getElem?_map] at hj
    cases hx : xs[j]? with
    | none => rw [hx] at hj; cases hj
    | some y => rw [hx] at hj; cases hj; rfl)) hlt (by rw [hlen]; exact h1) (by rw [hlen]; exact hcap) (by rw [hm]; exact h2)
  rw [hm, hlen] at this
  exact this
theorem nJoin_ok [CodingOk] {f : FuncId} (h : JoinM E.P f) (hs : ∀ x : El .str, enc .v .str x = [.s x]) {xs : List (El .str)} {sep r : Bs} (hr : nJoin xs sep = some r) : CallOk E f [.sl .v .str xs, .s sep] (.s r) [] [.v, .v] := by
  obtain ⟨hc1, hc2, rfl⟩ := nJoin_some hr
  intro w F Vs φ hrl h1 hlow hgl
  obtain ⟨v, vs, φ₁, φ₂, rfl, k1, k2, e⟩ := RL.uncons hrl
  obtain ⟨v2, vs2, φ₃, φ₄, rfl, k3, k4, e'⟩ := RL.uncons k2
  obtain ⟨rfl, e2⟩ := RL.nil_inv k4
  have e3 : v2 = .string ⟨sep.toArray⟩ := by
    cases k3 with
    | scal _ _ _ _ _ h1 h2 => exact h1
  subst e3
  cases k1 with
  | scal _ _ _ _ _ hsc _ => exact hsc.elim
  | own m t xs v vals φ₁ l vs φ₂ φ hm => exact absurd rfl hm
  | view t xs a n cap vals z l vs φ hn hel hz hb _ =>
    obtain ⟨rfl, hcap⟩ := hn
    by_cases h0 : 0 < xs.length
    · obtain ⟨b, o, rfl, hra, hlt, hF⟩ := hb h0
      have hv := strs_vals hs xs vals z hel
      subst hv
      have := join_view h (xs := xs) (sep := sep) hra hlt hc1 hcap hc2
      refine this.mono ?_
      rintro e w' ⟨rfl, hbel⟩
      exact ok_below rfl hbel
    · have hx : xs = [] := List.eq_nil_of_length_eq_zero (by omega)
      subst hx
      refine (h.1 a cap ⟨sep.toArray⟩ w).mono ?_
      rintro e w' ⟨rfl, rfl⟩
      exact ok_below rfl (Below.refl _ _)
omit [Coding] in
theorem glob_int {w : World} {F : Nat → Prop} (h : Glob E w F) {g : Nat} (hm : (g, fun cs => ∃ m, cs[0]? = some (Value.int .i64 m)) ∈ E.globs) : ∃ m, w.cell? ⟨g, 0, none⟩ = some (.int .i64 m) := by
  obtain ⟨⟨cs, T, fr, h1, hc⟩, _⟩ := h _ hm
  obtain ⟨m, hm⟩ : ∃ m, cs[0]? = some (Value.int .i64 m) := hc
  refine ⟨m, ?_⟩
  unfold World.cell?
  simp only [h1]
  exact hm
omit [Coding] in
theorem int_glob {w : World} {g : Nat} {m : Int} (h : w.cell? ⟨g, 0, none⟩ = some (.int .i64 m)) : ∃ cs T fr, w.heap[g]? = some (.cells cs T fr) ∧ ∃ m, cs[0]? = some (Value.int .i64 m) := by
  unfold World.cell? at h
  split at h
  · rename_i cs T fr hh
    exact ⟨cs, T, fr, hh, m, h⟩
  · cases h
theorem nRepl_ok [CodingOk] {f : FuncId} {g : Nat} (h : ReplM E.P f g) (hm : (g, fun cs => ∃ m, cs[0]? = some (Value.int .i64 m)) ∈ E.globs) {s old new r : Bs} (hr : nReplaceAll s old new = some r) : CallOk E f [.s s, .s old, .s new] (.s r) [] [.v, .v, .v] := by
  unfold nReplaceAll at hr
  by_cases hc : s.length < 4294967281 ∧ 1 ≤ old.length ∧ s.length + Lib.count s old * new.length ≤ 140737488355328
  · rw [decide_eq_true hc.1, decide_eq_true hc.2.1, decide_eq_true hc.2.2] at hr
    simp only [Bool.and_self, cond_true, Option.some.injEq] at hr
    subst hr
    intro w F Vs φ hrl h1 hlow hgl
    obtain ⟨v, vs, φ₁, φ₂, rfl, k1, k2, e⟩ := RL.uncons hrl
    obtain ⟨v2, vs2, φ₃, φ₄, rfl, k3, k4, e'⟩ := RL.uncons k2
    obtain ⟨v3, vs3, φ₅, φ₆, rfl, k5, k6, e''⟩ := RL.uncons k4
    obtain ⟨rfl, e2⟩ := RL.nil_inv k6
    have e1 : v = .string ⟨s.toArray⟩ := by
      cases k1 with
      | scal _ _ _ _ _ h1 h2 => exact h1
    have e3 : v2 = .string ⟨old.toArray⟩ := by
      cases k3 with
      | scal _ _ _ _ _ h1 h2 => exact h1
    have e4 : v3 = .string ⟨new.toArray⟩ := by
      cases k5 with
      | scal _ _ _ _ _ h1 h2 => exact h1
    subst e1 e3 e4
    obtain ⟨m, hmv⟩ := glob_int hgl hm
    refine (h ⟨s.toArray⟩ ⟨old.toArray⟩ ⟨new.toArray⟩ m w hc.1 hmv hc.2.1 hc.2.2).mono ?_
    rintro e w' ⟨rfl, hbel⟩
    exact ok_below rfl hbel
  · have : (decide (s.length < 4294967281) && (decide (1 ≤ old.length) && decide (s.length + Lib.count s old * new.length ≤ 140737488355328))) = false := by
      rw [Bool.eq_false_iff]; intro h; simp only [Bool.and_eq_true, decide_eq_true_eq] at h; exact hc h
    rw [this] at hr; cases hr
end Go.Pi
end
section
set_option linter.unusedVariables false
set_option linter.unusedSimpArgs false
namespace Go.Proofs
open Go.Shelf
def Tryd.lays156_ren : Go.Shelf.Ren := ⟨fun | 156 => 55 | 165 => 65 | 166 => 66 | 169 => 67 | 240 => 74 | 241 => 75 | 276 => 81 | 277 => 82 | n => n, fun | 31 => 23 | 9 => 9 | 3 => 3 | 4 => 4 | 0 => 0 | 20 => 20 | 72 => 81 | 76 => 85 | 70 => 79 | 37 => 69 | 75 => 84 | 127 => 91 | 164 => 99 | 5 => 5 | 80 => 87 | n => n, fun | n => n⟩
theorem Tryd.lays156 : Go.Proofs.Lays.n156 Tryd.prog Tryd.lays156_ren := {
  mixed := by kernel_rfl
  f156 := Tryd.func55.trans (congrArg some (by kernel_rfl))
  f165 := Tryd.func65.trans (congrArg some (by kernel_rfl))
  f166 := Tryd.func66.trans (congrArg some (by kernel_rfl))
  f169 := Tryd.func67.trans (congrArg some (by kernel_rfl))
  f240 := Tryd.func74.trans (congrArg some (by kernel_rfl))
  f241 := Tryd.func75.trans (congrArg some (by kernel_rfl))
  f276 := Tryd.func81.trans (congrArg some (by kernel_rfl))
  f277 := Tryd.func82.trans (congrArg some (by kernel_rfl))
  t0 := Tryd.underlying0
  a0 := Tryd.isAgg0
  z0 := Tryd.sizeOf0
  v0 := Tryd.zeroValue0
  t3 := Tryd.underlying3
  a3 := Tryd.isAgg3
  z3 := Tryd.sizeOf3
  v3 := Tryd.zeroValue3
  t4 := Tryd.underlying4
  a4 := Tryd.isAgg4
  z4 := Tryd.sizeOf4
  v4 := Tryd.zeroValue4
  t9 := Tryd.underlying9
  a9 := Tryd.isAgg9
  z9 := Tryd.sizeOf9
  v9 := Tryd.zeroValue9
  t20 := Tryd.underlying20
  a20 := Tryd.isAgg20
  z20 := Tryd.sizeOf20
  v20 := Tryd.zeroValue20
  t31 := Tryd.underlying23
  a31 := Tryd.isAgg23
  z31 := Tryd.sizeOf23
  v31 := Tryd.zeroValue23
  t37 := Tryd.underlying69
  a37 := Tryd.isAgg69
  z37 := Tryd.sizeOf69
  v37 := Tryd.zeroValue69
  t70 := Tryd.underlying79
  a70 := Tryd.isAgg79
  z70 := Tryd.sizeOf79
  v70 := Tryd.zeroValue79
  t72 := Tryd.underlying81
  a72 := Tryd.isAgg81
  z72 := Tryd.sizeOf81
  v72 := Tryd.zeroValue81
  t75 := Tryd.underlying84
  a75 := Tryd.isAgg84
  z75 := Tryd.sizeOf84
  v75 := Tryd.zeroValue84
  t76 := Tryd.underlying85
  a76 := Tryd.isAgg85
  z76 := Tryd.sizeOf85
  v76 := Tryd.zeroValue85
  t127 := Tryd.underlying91
  a127 := Tryd.isAgg91
  z127 := Tryd.sizeOf91
  v127 := Tryd.zeroValue91
  t164 := Tryd.underlying99
  a164 := Tryd.isAgg99
  z164 := Tryd.sizeOf99
  v164 := Tryd.zeroValue99 }
theorem Tryd.Builder_Extra_156 : Builder.Extra Tryd.prog Tryd.lays156_ren := {
  sizeBuilder := by kernel_rfl
  liesBuilder := by kernel_rfl
  t5 := Tryd.underlying5
  a5 := Tryd.isAgg5
  z5 := Tryd.sizeOf5
  v5 := Tryd.zeroValue5
  infoByte := by kernel_rfl
  cellsByte := by kernel_rfl
  sizeByte := by kernel_rfl
  neB5 := by decide }
open Go.RowKit Go.Sort Go.Lib in
theorem Tryd.strings_Join_none (a : Option Addr) (c : Nat) (sep : ByteArray) (w : World) :
    Calls Tryd.prog 55 #[.slice a 0 c, .string sep] w fun e w' => e = .returned (.string ⟨#[]⟩) ∧ w' = w := Any.strings_Join_none Tryd.lays156 Tryd.Builder_Extra_156 a c sep w
open Go.RowKit Go.Sort Go.Lib in
theorem Tryd.strings_Join (bk o c : Nat) (xs : List ByteArray) (sep : ByteArray) (w : World) (hcells : ∀ (j : Nat) x, xs[j]? = some x → w.cell? ⟨bk, o + j, none⟩ = some (.string x)) (hbk : bk < w.heap.size) (hN : xs.length ≤ 140737488355328) (hcap : xs.length ≤ c) (hlen : (Lib.join (xs.map (·.data.toList)) sep.data.toList).length ≤ 140737488355328) :
    Calls Tryd.prog 55 #[.slice (some ⟨bk, o, none⟩) xs.length c, .string sep] w fun e w' => e = .returned (.string ⟨(Lib.join (xs.map (·.data.toList)) sep.data.toList).toArray⟩) ∧ Below w.heap.size w w' := Any.strings_Join Tryd.lays156 Tryd.Builder_Extra_156 bk o c xs sep w hcells hbk hN hcap hlen
end Go.Proofs
namespace Go.Pi
open Go.Proofs
theorem strings_Join.ok (n : Nat) (_ : CxOk E (cx n strings_Join.d.nt)) (_ : KPar (cx n strings_Join.d.nt)) : strings_Join.d.Ok E (strings_Join.F (n + 1)) := fun _ _ h => nJoin_ok ⟨fun a c sep w => Tryd.strings_Join_none a c sep w, fun bk o c xs sep w h1 h2 h3 h4 h5 => Tryd.strings_Join bk o c xs sep w h1 h2 h3 h4 h5⟩ (fun _ => rfl) h
end Go.Pi
end
section
set_option linter.unusedVariables false
set_option linter.unusedSimpArgs false
namespace Go.Proofs
open Go.Shelf
def Tryd.lays155_ren : Go.Shelf.Ren := ⟨fun | 155 => 70 | 154 => 80 | 138 => 88 | 165 => 65 | 143 => 89 | 166 => 66 | 197 => 90 | 169 => 67 | 195 => 93 | 218 => 94 | 240 => 74 | 241 => 75 | 219 => 95 | 260 => 96 | 276 => 81 | 277 => 82 | 217 => 97 | 225 => 98 | 224 => 99 | 267 => 100 | 266 => 101 | 314 => 102 | n => n, fun | 9 => 9 | 3 => 3 | 4 => 4 | 72 => 81 | 0 => 0 | 76 => 85 | 105 => 110 | 21 => 21 | 5 => 5 | 70 => 79 | 20 => 20 | 37 => 69 | 75 => 84 | 127 => 91 | 164 => 99 | 46 => 107 | 119 => 117 | 139 => 120 | 138 => 119 | 146 => 121 | 51 => 105 | 80 => 87 | n => n, fun | 1 => 1 | 3 => 4 | 4 => 5 | n => n⟩
theorem Tryd.lays155 : Go.Proofs.Lays.n155 Tryd.prog Tryd.lays155_ren := {
  mixed := by kernel_rfl
  f138 := Tryd.func88.trans (congrArg some (by kernel_rfl))
  f143 := Tryd.func89.trans (congrArg some (by kernel_rfl))
  f154 := Tryd.func80.trans (congrArg some (by kernel_rfl))
  f155 := Tryd.func70.trans (congrArg some (by kernel_rfl))
  f165 := Tryd.func65.trans (congrArg some (by kernel_rfl))
  f166 := Tryd.func66.trans (congrArg some (by kernel_rfl))
  f169 := Tryd.func67.trans (congrArg some (by kernel_rfl))
  f195 := Tryd.func93.trans (congrArg some (by kernel_rfl))
  f197 := Tryd.func90.trans (congrArg some (by kernel_rfl))
  f217 := Tryd.func97.trans (congrArg some (by kernel_rfl))
  f218 := Tryd.func94.trans (congrArg some (by kernel_rfl))
  f219 := Tryd.func95.trans (congrArg some (by kernel_rfl))
  f224 := Tryd.func99.trans (congrArg some (by kernel_rfl))
  f225 := Tryd.func98.trans (congrArg some (by kernel_rfl))
  f240 := Tryd.func74.trans (congrArg some (by kernel_rfl))
  f241 := Tryd.func75.trans (congrArg some (by kernel_rfl))
  f260 := Tryd.func96.trans (congrArg some (by kernel_rfl))
  f266 := Tryd.func101.trans (congrArg some (by kernel_rfl))
  f267 := Tryd.func100.trans (congrArg some (by kernel_rfl))
  f276 := Tryd.func81.trans (congrArg some (by kernel_rfl))
  f277 := Tryd.func82.trans (congrArg some (by kernel_rfl))
  f314 := Tryd.func102.trans (congrArg some (by kernel_rfl))
  t0 := Tryd.underlying0
  a0 := Tryd.isAgg0
  z0 := Tryd.sizeOf0
  v0 := Tryd.zeroValue0
  t3 := Tryd.underlying3
  a3 := Tryd.isAgg3
  z3 := Tryd.sizeOf3
  v3 := Tryd.zeroValue3
  t4 := Tryd.underlying4
  a4 := Tryd.isAgg4
  z4 := Tryd.sizeOf4
  v4 := Tryd.zeroValue4
  t5 := Tryd.underlying5
  a5 := Tryd.isAgg5
  z5 := Tryd.sizeOf5
  v5 := Tryd.zeroValue5
  t9 := Tryd.underlying9
  a9 := Tryd.isAgg9
  z9 := Tryd.sizeOf9
  v9 := Tryd.zeroValue9
  t20 := Tryd.underlying20
  a20 := Tryd.isAgg20
  z20 := Tryd.sizeOf20
  v20 := Tryd.zeroValue20
  t21 := Tryd.underlying21
  a21 := Tryd.isAgg21
  z21 := Tryd.sizeOf21
  v21 := Tryd.zeroValue21
  t37 := Tryd.underlying69
  a37 := Tryd.isAgg69
  z37 := Tryd.sizeOf69
  v37 := Tryd.zeroValue69
  t46 := Tryd.underlying107
  a46 := Tryd.isAgg107
  z46 := Tryd.sizeOf107
  v46 := Tryd.zeroValue107
  t51 := Tryd.underlying105
  a51 := Tryd.isAgg105
  z51 := Tryd.sizeOf105
  v51 := Tryd.zeroValue105
  t70 := Tryd.underlying79
  a70 := Tryd.isAgg79
  z70 := Tryd.sizeOf79
  v70 := Tryd.zeroValue79
  t72 := Tryd.underlying81
  a72 := Tryd.isAgg81
  z72 := Tryd.sizeOf81
  v72 := Tryd.zeroValue81
  t75 := Tryd.underlying84
  a75 := Tryd.isAgg84
  z75 := Tryd.sizeOf84
  v75 := Tryd.zeroValue84
  t76 := Tryd.underlying85
  a76 := Tryd.isAgg85
  z76 := Tryd.sizeOf85
  v76 := Tryd.zeroValue85
  t105 := Tryd.underlying110
  a105 := Tryd.isAgg110
  z105 := Tryd.sizeOf110
  v105 := Tryd.zeroValue110
  t119 := Tryd.underlying117
  a119 := Tryd.isAgg117
  z119 := Tryd.sizeOf117
  t127 := Tryd.underlying91
  a127 := Tryd.isAgg91
  z127 := Tryd.sizeOf91
  v127 := Tryd.zeroValue91
  t138 := Tryd.underlying119
  a138 := Tryd.isAgg119
  z138 := Tryd.sizeOf119
  v138 := Tryd.zeroValue119
  t139 := Tryd.underlying120
  a139 := Tryd.isAgg120
  z139 := Tryd.sizeOf120
  v139 := Tryd.zeroValue120
  t146 := Tryd.underlying121
  a146 := Tryd.isAgg121
  z146 := Tryd.sizeOf121
  v146 := Tryd.zeroValue121
  t164 := Tryd.underlying99
  a164 := Tryd.isAgg99
  z164 := Tryd.sizeOf99
  v164 := Tryd.zeroValue99
  g1 := by kernel_rfl
  g3 := by kernel_rfl
  g4 := by kernel_rfl }
theorem Tryd.Builder_Extra_155 : Builder.Extra Tryd.prog Tryd.lays155_ren := {
  sizeBuilder := by kernel_rfl
  liesBuilder := by kernel_rfl
  t5 := Tryd.underlying5
  a5 := Tryd.isAgg5
  z5 := Tryd.sizeOf5
  v5 := Tryd.zeroValue5
  infoByte := by kernel_rfl
  cellsByte := by kernel_rfl
  sizeByte := by kernel_rfl
  neB5 := by decide }
open Go.RowKit Go.Sort Go.Lib in
theorem Tryd.strings_ReplaceAll (s old new : ByteArray) (m : Int) (w : World) (hs : s.size < 4294967281) (hm : w.cell? ⟨1, 0, none⟩ = some (.int .i64 m)) (h1 : 1 ≤ old.size) (hlen : s.size + Lib.countB s old * new.size ≤ 140737488355328) :
    Calls Tryd.prog 70 #[.string s, .string old, .string new] w fun e w' =>
      e = .returned (.string ⟨(Lib.replaceAll s.data.toList old.data.toList new.data.toList).toArray⟩) ∧ Below w.heap.size w w' := Any.strings_ReplaceAll Tryd.lays155 Tryd.Builder_Extra_155 s old new m w hs hm h1 hlen
end Go.Proofs
namespace Go.Pi
open Go.Proofs
theorem strings_ReplaceAll.ok (n : Nat) (_ : CxOk E (cx n strings_ReplaceAll.d.nt)) (_ : KPar (cx n strings_ReplaceAll.d.nt)) : strings_ReplaceAll.d.Ok E (strings_ReplaceAll.F (n + 1)) := fun _ _ h => nRepl_ok (g := 1) (fun s old new m w h1 h2 h3 h4 => Tryd.strings_ReplaceAll s old new m w h1 h2 h3 h4) (.tail _ (.head _)) h
end Go.Pi
end
section
set_option linter.unusedVariables false
set_option maxRecDepth 100000
namespace Go.Pi
open Go.Proofs
theorem kpar (n nt : Nat) : KPar (cx n nt) := KH_par (l := KL n) ⟨FD.kp, FD.kp, FD.kp, FD.kp, FD.kp, FD.kp, FD.kp, FD.kp, FD.kp, FD.kp, FD.kp, FD.kp, FD.kp, FD.kp, FD.kp, FD.kp, FD.kp, FD.kp, FD.kp, FD.kp, FD.kp, FD.kp, FD.kp, FD.kp, FD.kp, FD.kp, FD.kp, FD.kp, FD.kp, FD.kp, FD.kp, FD.kp, FD.kp, FD.kp, FD.kp, FD.kp, FD.kp, FD.kp, FD.kp, FD.kp, FD.kp, FD.kp, FD.kp, FD.kp, FD.kp, FD.kp, FD.kp, FD.kp, FD.kp, FD.kp, FD.kp, FD.kp, FD.kp, FD.kp, FD.kp, FD.kp, FD.kp, FD.kp, FD.kp, FD.kp, FD.kp, FD.kp, FD.kp, FD.kp, FD.kp, trivial⟩
structure AllOk (n : Nat) : Prop where
  h0 : laws_szJsonS.d.Ok E (laws_szJsonS.F n)
  h1 : laws_szStringS.d.Ok E (laws_szStringS.F n)
  h2 : laws_szJson.d.Ok E (laws_szJson.F n)
  h3 : laws_szOp.d.Ok E (laws_szOp.F n)
  h4 : laws_szOpS.d.Ok E (laws_szOpS.F n)
  h5 : laws_szEvent.d.Ok E (laws_szEvent.F n)
  h6 : laws_toJsonS.d.Ok E (laws_toJsonS.F n)
  h7 : laws_toStringS.d.Ok E (laws_toStringS.F n)
  h8 : laws_toJson.d.Ok E (laws_toJson.F n)
  h9 : laws_toOp.d.Ok E (laws_toOp.F n)
  h10 : laws_toOpS.d.Ok E (laws_toOpS.F n)
  h11 : laws_toEvent.d.Ok E (laws_toEvent.F n)
  h12 : spec_l1In.d.Ok E (spec_l1In.F n)
  h13 : spec_l1Text.d.Ok E (spec_l1Text.F n)
  h14 : spec_l1Names.d.Ok E (spec_l1Names.F n)
  h15 : spec_l1Great.d.Ok E (spec_l1Great.F n)
  h16 : spec_JsonOk.d.Ok E (spec_JsonOk.F n)
  h17 : spec_l2Digits.d.Ok E (spec_l2Digits.F n)
  h18 : spec_l2Quote.d.Ok E (spec_l2Quote.F n)
  h19 : spec_l2Encode.d.Ok E (spec_l2Encode.F n)
  h20 : spec_Encode.d.Ok E (spec_Encode.F n)
  h21 : spec_l1Same.d.Ok E (spec_l1Same.F n)
  h22 : spec_OpOk.d.Ok E (spec_OpOk.F n)
  h23 : spec_l4Names.d.Ok E (spec_l4Names.F n)
  h24 : spec_WayText.d.Ok E (spec_WayText.F n)
  h25 : spec_l1Copy.d.Ok E (spec_l1Copy.F n)
  h26 : spec_l1Put.d.Ok E (spec_l1Put.F n)
  h27 : spec_OpJson.d.Ok E (spec_OpJson.F n)
  h28 : spec_l17Ops.d.Ok E (spec_l17Ops.F n)
  h29 : spec_EventOk.d.Ok E (spec_EventOk.F n)
  h30 : spec_EventText.d.Ok E (spec_EventText.F n)
  h31 : impl_within.d.Ok E (impl_within.F n)
  h32 : impl_isVersion.d.Ok E (impl_isVersion.F n)
  h33 : impl_isNum.d.Ok E (impl_isNum.F n)
  h34 : impl_textOk.d.Ok E (impl_textOk.F n)
  h35 : impl_namesOk.d.Ok E (impl_namesOk.F n)
  h36 : impl_ownOk.d.Ok E (impl_ownOk.F n)
  h37 : impl_sizeIn.d.Ok E (impl_sizeIn.F n)
  h38 : impl_JsonOk.d.Ok E (impl_JsonOk.F n)
  h39 : impl_quoted.d.Ok E (impl_quoted.F n)
  h40 : strconv_Itoa.d.Ok E (strconv_Itoa.F n)
  h41 : strings_Join.d.Ok E (strings_Join.F n)
  h42 : impl_written.d.Ok E (impl_written.F n)
  h43 : impl_Encode.d.Ok E (impl_Encode.F n)
  h44 : impl_isZero.d.Ok E (impl_isZero.F n)
  h45 : impl_OpOk.d.Ok E (impl_OpOk.F n)
  h46 : impl_opNames.d.Ok E (impl_opNames.F n)
  h47 : strings_ReplaceAll.d.Ok E (strings_ReplaceAll.F n)
  h48 : impl_WayText.d.Ok E (impl_WayText.F n)
  h49 : impl_copyTexts.d.Ok E (impl_copyTexts.F n)
  h50 : impl_copyJson.d.Ok E (impl_copyJson.F n)
  h51 : impl_orNull.d.Ok E (impl_orNull.F n)
  h52 : impl_OpJson.d.Ok E (impl_OpJson.F n)
  h53 : impl_opsJson.d.Ok E (impl_opsJson.F n)
  h54 : impl_PatchSize.d.Ok E (impl_PatchSize.F n)
  h55 : impl_EventOk.d.Ok E (impl_EventOk.F n)
  h56 : impl_digits.d.Ok E (impl_digits.F n)
  h57 : impl_EventText.d.Ok E (impl_EventText.F n)
  h58 : laws_eqJsonS.d.Ok E (laws_eqJsonS.F n)
  h59 : laws_eqStringS.d.Ok E (laws_eqStringS.F n)
  h60 : laws_eqJson.d.Ok E (laws_eqJson.F n)
  h61 : laws_eqOp.d.Ok E (laws_eqOp.F n)
  h62 : laws_eqOpS.d.Ok E (laws_eqOpS.F n)
  h63 : laws_eqEvent.d.Ok E (laws_eqEvent.F n)
  h64 : laws_FnExactEventText.d.Ok E (laws_FnExactEventText.F n)
theorem kok (n nt : Nat) (a : AllOk n) : KOk E (cx n nt) := KH_ok (l := KL n) ⟨FD.kf (d := laws_FnExactEventText.d) Tryd.func4 (by kernel_rfl) (by kernel_rfl) (by kernel_rfl) a.h64, FD.kf (d := laws_szEvent.d) Tryd.func5 (by kernel_rfl) (by kernel_rfl) (by kernel_rfl) a.h5, FD.kf (d := spec_EventOk.d) Tryd.func6 (by kernel_rfl) (by kernel_rfl) (by kernel_rfl) a.h29, FD.kf (d := laws_toEvent.d) Tryd.func7 (by kernel_rfl) (by kernel_rfl) (by kernel_rfl) a.h11, FD.kf (d := impl_EventOk.d) Tryd.func8 (by kernel_rfl) (by kernel_rfl) (by kernel_rfl) a.h55, FD.kf (d := laws_eqEvent.d) Tryd.func9 (by kernel_rfl) (by kernel_rfl) (by kernel_rfl) a.h63, FD.kf (d := spec_EventText.d) Tryd.func10 (by kernel_rfl) (by kernel_rfl) (by kernel_rfl) a.h30, FD.kf (d := impl_EventText.d) Tryd.func11 (by kernel_rfl) (by kernel_rfl) (by kernel_rfl) a.h57, FD.kf (d := laws_szJson.d) Tryd.func12 (by kernel_rfl) (by kernel_rfl) (by kernel_rfl) a.h2, FD.kf (d := laws_szOpS.d) Tryd.func13 (by kernel_rfl) (by kernel_rfl) (by kernel_rfl) a.h4, FD.kf (d := spec_l1In.d) Tryd.func14 (by kernel_rfl) (by kernel_rfl) (by kernel_rfl) a.h12, FD.kf (d := spec_Encode.d) Tryd.func15 (by kernel_rfl) (by kernel_rfl) (by kernel_rfl) a.h20, FD.kf (d := spec_l17Ops.d) Tryd.func16 (by kernel_rfl) (by kernel_rfl) (by kernel_rfl) a.h28, FD.kf (d := spec_l1Same.d) Tryd.func17 (by kernel_rfl) (by kernel_rfl) (by kernel_rfl) a.h21, FD.kf (d := laws_toJson.d) Tryd.func18 (by kernel_rfl) (by kernel_rfl) (by kernel_rfl) a.h8, FD.kf (d := laws_toOpS.d) Tryd.func19 (by kernel_rfl) (by kernel_rfl) (by kernel_rfl) a.h10, FD.kf (d := impl_isVersion.d) Tryd.func20 (by kernel_rfl) (by kernel_rfl) (by kernel_rfl) a.h32, FD.kf (d := impl_Encode.d) Tryd.func21 (by kernel_rfl) (by kernel_rfl) (by kernel_rfl) a.h43, FD.kf (d := impl_within.d) Tryd.func22 (by kernel_rfl) (by kernel_rfl) (by kernel_rfl) a.h31, FD.kf (d := impl_isZero.d) Tryd.func23 (by kernel_rfl) (by kernel_rfl) (by kernel_rfl) a.h44, FD.kf (d := impl_PatchSize.d) Tryd.func24 (by kernel_rfl) (by kernel_rfl) (by kernel_rfl) a.h54, FD.kf (d := laws_eqJson.d) Tryd.func25 (by kernel_rfl) (by kernel_rfl) (by kernel_rfl) a.h60, FD.kf (d := laws_eqOpS.d) Tryd.func26 (by kernel_rfl) (by kernel_rfl) (by kernel_rfl) a.h62, FD.kf (d := spec_l2Digits.d) Tryd.func27 (by kernel_rfl) (by kernel_rfl) (by kernel_rfl) a.h17, FD.kf (d := impl_digits.d) Tryd.func28 (by kernel_rfl) (by kernel_rfl) (by kernel_rfl) a.h56, FD.kf (d := impl_opsJson.d) Tryd.func29 (by kernel_rfl) (by kernel_rfl) (by kernel_rfl) a.h53, FD.kf (d := laws_szJsonS.d) Tryd.func30 (by kernel_rfl) (by kernel_rfl) (by kernel_rfl) a.h0, FD.kf (d := laws_szStringS.d) Tryd.func31 (by kernel_rfl) (by kernel_rfl) (by kernel_rfl) a.h1, FD.kf (d := laws_szOp.d) Tryd.func32 (by kernel_rfl) (by kernel_rfl) (by kernel_rfl) a.h3, FD.kf (d := spec_JsonOk.d) Tryd.func33 (by kernel_rfl) (by kernel_rfl) (by kernel_rfl) a.h16, FD.kf (d := spec_l2Encode.d) Tryd.func34 (by kernel_rfl) (by kernel_rfl) (by kernel_rfl) a.h19, FD.kf (d := spec_OpJson.d) Tryd.func35 (by kernel_rfl) (by kernel_rfl) (by kernel_rfl) a.h27, FD.kf (d := laws_toJsonS.d) Tryd.func36 (by kernel_rfl) (by kernel_rfl) (by kernel_rfl) a.h6, FD.kf (d := laws_toStringS.d) Tryd.func37 (by kernel_rfl) (by kernel_rfl) (by kernel_rfl) a.h7, FD.kf (d := laws_toOp.d) Tryd.func38 (by kernel_rfl) (by kernel_rfl) (by kernel_rfl) a.h9, FD.kf (d := impl_JsonOk.d) Tryd.func39 (by kernel_rfl) (by kernel_rfl) (by kernel_rfl) a.h38, FD.kf (d := impl_written.d) Tryd.func40 (by kernel_rfl) (by kernel_rfl) (by kernel_rfl) a.h42, FD.kf (d := laws_eqJsonS.d) Tryd.func41 (by kernel_rfl) (by kernel_rfl) (by kernel_rfl) a.h58, FD.kf (d := laws_eqStringS.d) Tryd.func42 (by kernel_rfl) (by kernel_rfl) (by kernel_rfl) a.h59, FD.kf (d := laws_eqOp.d) Tryd.func43 (by kernel_rfl) (by kernel_rfl) (by kernel_rfl) a.h61, FD.kf (d := strconv_Itoa.d) Tryd.func44 (by kernel_rfl) (by kernel_rfl) (by kernel_rfl) a.h40, FD.kf (d := impl_OpJson.d) Tryd.func45 (by kernel_rfl) (by kernel_rfl) (by kernel_rfl) a.h52, FD.kf (d := spec_l1Great.d) Tryd.func46 (by kernel_rfl) (by kernel_rfl) (by kernel_rfl) a.h15, FD.kf (d := spec_l2Quote.d) Tryd.func47 (by kernel_rfl) (by kernel_rfl) (by kernel_rfl) a.h18, FD.kf (d := spec_OpOk.d) Tryd.func48 (by kernel_rfl) (by kernel_rfl) (by kernel_rfl) a.h22, FD.kf (d := spec_l4Names.d) Tryd.func49 (by kernel_rfl) (by kernel_rfl) (by kernel_rfl) a.h23, FD.kf (d := spec_WayText.d) Tryd.func50 (by kernel_rfl) (by kernel_rfl) (by kernel_rfl) a.h24, FD.kf (d := spec_l1Put.d) Tryd.func51 (by kernel_rfl) (by kernel_rfl) (by kernel_rfl) a.h26, FD.kf (d := spec_l1Copy.d) Tryd.func52 (by kernel_rfl) (by kernel_rfl) (by kernel_rfl) a.h25, FD.kf (d := impl_sizeIn.d) Tryd.func53 (by kernel_rfl) (by kernel_rfl) (by kernel_rfl) a.h37, FD.kf (d := impl_quoted.d) Tryd.func54 (by kernel_rfl) (by kernel_rfl) (by kernel_rfl) a.h39, FD.kf (d := strings_Join.d) Tryd.func55 (by kernel_rfl) (by kernel_rfl) (by kernel_rfl) a.h41, FD.kf (d := impl_OpOk.d) Tryd.func57 (by kernel_rfl) (by kernel_rfl) (by kernel_rfl) a.h45, FD.kf (d := impl_opNames.d) Tryd.func58 (by kernel_rfl) (by kernel_rfl) (by kernel_rfl) a.h46, FD.kf (d := impl_WayText.d) Tryd.func59 (by kernel_rfl) (by kernel_rfl) (by kernel_rfl) a.h48, FD.kf (d := impl_copyJson.d) Tryd.func60 (by kernel_rfl) (by kernel_rfl) (by kernel_rfl) a.h50, FD.kf (d := impl_orNull.d) Tryd.func61 (by kernel_rfl) (by kernel_rfl) (by kernel_rfl) a.h51, FD.kf (d := spec_l1Text.d) Tryd.func62 (by kernel_rfl) (by kernel_rfl) (by kernel_rfl) a.h13, FD.kf (d := spec_l1Names.d) Tryd.func63 (by kernel_rfl) (by kernel_rfl) (by kernel_rfl) a.h14, FD.kf (d := impl_ownOk.d) Tryd.func64 (by kernel_rfl) (by kernel_rfl) (by kernel_rfl) a.h36, FD.kf (d := impl_textOk.d) Tryd.func69 (by kernel_rfl) (by kernel_rfl) (by kernel_rfl) a.h34, FD.kf (d := strings_ReplaceAll.d) Tryd.func70 (by kernel_rfl) (by kernel_rfl) (by kernel_rfl) a.h47, FD.kf (d := impl_copyTexts.d) Tryd.func71 (by kernel_rfl) (by kernel_rfl) (by kernel_rfl) a.h49, FD.kf (d := impl_isNum.d) Tryd.func72 (by kernel_rfl) (by kernel_rfl) (by kernel_rfl) a.h33, FD.kf (d := impl_namesOk.d) Tryd.func73 (by kernel_rfl) (by kernel_rfl) (by kernel_rfl) a.h35, trivial⟩
theorem cxok (n nt : Nat) (a : AllOk n) : CxOk E (cx n nt) := ⟨ttOk, tcOk, u8Ok, kok n nt a⟩
theorem allOk : ∀ n, AllOk n
  | 0 => ⟨fun _ _ h => (by cases h), fun _ _ h => (by cases h), fun _ _ h => (by cases h), fun _ _ h => (by cases h), fun _ _ h => (by cases h), fun _ _ h => (by cases h), fun _ _ h => (by cases h), fun _ _ h => (by cases h), fun _ _ h => (by cases h), fun _ _ h => (by cases h), fun _ _ h => (by cases h), fun _ _ h => (by cases h), fun _ _ h => (by cases h), fun _ _ h => (by cases h), fun _ _ h => (by cases h), fun _ _ h => (by cases h), fun _ _ h => (by cases h), fun _ _ h => (by cases h), fun _ _ h => (by cases h), fun _ _ h => (by cases h), fun _ _ h => (by cases h), fun _ _ h => (by cases h), fun _ _ h => (by cases h), fun _ _ h => (by cases h), fun _ _ h => (by cases h), fun _ _ h => (by cases h), fun _ _ h => (by cases h), fun _ _ h => (by cases h), fun _ _ h => (by cases h), fun _ _ h => (by cases h), fun _ _ h => (by cases h), fun _ _ h => (by cases h), fun _ _ h => (by cases h), fun _ _ h => (by cases h), fun _ _ h => (by cases h), fun _ _ h => (by cases h), fun _ _ h => (by cases h), fun _ _ h => (by cases h), fun _ _ h => (by cases h), fun _ _ h => (by cases h), fun _ _ h => (by cases h), fun _ _ h => (by cases h), fun _ _ h => (by cases h), fun _ _ h => (by cases h), fun _ _ h => (by cases h), fun _ _ h => (by cases h), fun _ _ h => (by cases h), fun _ _ h => (by cases h), fun _ _ h => (by cases h), fun _ _ h => (by cases h), fun _ _ h => (by cases h), fun _ _ h => (by cases h), fun _ _ h => (by cases h), fun _ _ h => (by cases h), fun _ _ h => (by cases h), fun _ _ h => (by cases h), fun _ _ h => (by cases h), fun _ _ h => (by cases h), fun _ _ h => (by cases h), fun _ _ h => (by cases h), fun _ _ h => (by cases h), fun _ _ h => (by cases h), fun _ _ h => (by cases h), fun _ _ h => (by cases h), fun _ _ h => (by cases h)⟩
  | n + 1 => ⟨laws_szJsonS.ok n (cxok n _ (allOk n)) (kpar n _), laws_szStringS.ok n (cxok n _ (allOk n)) (kpar n _), laws_szJson.ok n (cxok n _ (allOk n)) (kpar n _), laws_szOp.ok n (cxok n _ (allOk n)) (kpar n _), laws_szOpS.ok n (cxok n _ (allOk n)) (kpar n _), laws_szEvent.ok n (cxok n _ (allOk n)) (kpar n _), laws_toJsonS.ok n (cxok n _ (allOk n)) (kpar n _), laws_toStringS.ok n (cxok n _ (allOk n)) (kpar n _), laws_toJson.ok n (cxok n _ (allOk n)) (kpar n _), laws_toOp.ok n (cxok n _ (allOk n)) (kpar n _), laws_toOpS.ok n (cxok n _ (allOk n)) (kpar n _), laws_toEvent.ok n (cxok n _ (allOk n)) (kpar n _), spec_l1In.ok n (cxok n _ (allOk n)) (kpar n _), spec_l1Text.ok n (cxok n _ (allOk n)) (kpar n _), spec_l1Names.ok n (cxok n _ (allOk n)) (kpar n _), spec_l1Great.ok n (cxok n _ (allOk n)) (kpar n _), spec_JsonOk.ok n (cxok n _ (allOk n)) (kpar n _), spec_l2Digits.ok n (cxok n _ (allOk n)) (kpar n _), spec_l2Quote.ok n (cxok n _ (allOk n)) (kpar n _), spec_l2Encode.ok n (cxok n _ (allOk n)) (kpar n _), spec_Encode.ok n (cxok n _ (allOk n)) (kpar n _), spec_l1Same.ok n (cxok n _ (allOk n)) (kpar n _), spec_OpOk.ok n (cxok n _ (allOk n)) (kpar n _), spec_l4Names.ok n (cxok n _ (allOk n)) (kpar n _), spec_WayText.ok n (cxok n _ (allOk n)) (kpar n _), spec_l1Copy.ok n (cxok n _ (allOk n)) (kpar n _), spec_l1Put.ok n (cxok n _ (allOk n)) (kpar n _), spec_OpJson.ok n (cxok n _ (allOk n)) (kpar n _), spec_l17Ops.ok n (cxok n _ (allOk n)) (kpar n _), spec_EventOk.ok n (cxok n _ (allOk n)) (kpar n _), spec_EventText.ok n (cxok n _ (allOk n)) (kpar n _), impl_within.ok n (cxok n _ (allOk n)) (kpar n _), impl_isVersion.ok n (cxok n _ (allOk n)) (kpar n _), impl_isNum.ok n (cxok n _ (allOk n)) (kpar n _), impl_textOk.ok n (cxok n _ (allOk n)) (kpar n _), impl_namesOk.ok n (cxok n _ (allOk n)) (kpar n _), impl_ownOk.ok n (cxok n _ (allOk n)) (kpar n _), impl_sizeIn.ok n (cxok n _ (allOk n)) (kpar n _), impl_JsonOk.ok n (cxok n _ (allOk n)) (kpar n _), impl_quoted.ok n (cxok n _ (allOk n)) (kpar n _), strconv_Itoa.ok n (cxok n _ (allOk n)) (kpar n _), strings_Join.ok n (cxok n _ (allOk n)) (kpar n _), impl_written.ok n (cxok n _ (allOk n)) (kpar n _), impl_Encode.ok n (cxok n _ (allOk n)) (kpar n _), impl_isZero.ok n (cxok n _ (allOk n)) (kpar n _), impl_OpOk.ok n (cxok n _ (allOk n)) (kpar n _), impl_opNames.ok n (cxok n _ (allOk n)) (kpar n _), strings_ReplaceAll.ok n (cxok n _ (allOk n)) (kpar n _), impl_WayText.ok n (cxok n _ (allOk n)) (kpar n _), impl_copyTexts.ok n (cxok n _ (allOk n)) (kpar n _), impl_copyJson.ok n (cxok n _ (allOk n)) (kpar n _), impl_orNull.ok n (cxok n _ (allOk n)) (kpar n _), impl_OpJson.ok n (cxok n _ (allOk n)) (kpar n _), impl_opsJson.ok n (cxok n _ (allOk n)) (kpar n _), impl_PatchSize.ok n (cxok n _ (allOk n)) (kpar n _), impl_EventOk.ok n (cxok n _ (allOk n)) (kpar n _), impl_digits.ok n (cxok n _ (allOk n)) (kpar n _), impl_EventText.ok n (cxok n _ (allOk n)) (kpar n _), laws_eqJsonS.ok n (cxok n _ (allOk n)) (kpar n _), laws_eqStringS.ok n (cxok n _ (allOk n)) (kpar n _), laws_eqJson.ok n (cxok n _ (allOk n)) (kpar n _), laws_eqOp.ok n (cxok n _ (allOk n)) (kpar n _), laws_eqOpS.ok n (cxok n _ (allOk n)) (kpar n _), laws_eqEvent.ok n (cxok n _ (allOk n)) (kpar n _), laws_FnExactEventText.ok n (cxok n _ (allOk n)) (kpar n _)⟩
end Go.Pi
end
section
set_option linter.unusedVariables false
namespace Go.Pi
/-! ### What a law is handed: data that anybody may read -/
inductive Kd where
  | i (k : IntKind)
  | b
  | s
  | sl (t : TC)
def kdsL (P : Program) (rec_ : TypeId → Option (List Kd)) : List Field → Nat → Option (List Kd)
  | [], _ => some []
  | f :: fs, off => cond (Nat.beq f.offset off) (match rec_ f.type with
    | some ks => cond (Nat.beq (P.cellsOf f.type) ks.length) (match kdsL P rec_ fs (off + ks.length) with
      | some r => some (ks ++ r)
      | none => none) none
    | none => none) none
def kds (P : Program) (code : TypeId → Option TC) : Nat → TypeId → Option (List Kd)
  | 0, _ => none
  | d + 1, T => match P.underlying T with
    | some (.int k) => some [.i k]
    | some .bool => some [.b]
    | some .string => some [.s]
    | some (.slice e) => match code e with
      | some t => some [.sl t]
      | none => none
    | some (.struct fs) => match kdsL P (kds P code d) fs.toList 0 with
      | some ks => cond (Nat.beq (P.cellsOf T) ks.length) (some ks) none
      | none => none
    | _ => none
/-- the lengths and ranges of what is read -/
inductive Good [Coding] : AV → Prop
  | i (k n) : (Lit.int k n).wf = true → Good (.i k n)
  | b (q) : Good (.b q)
  | s (l) : l.length ≤ maxLen → Good (.s l)
  | sl (t xs) : xs.length ≤ maxLen → (∀ x ∈ xs, ∀ c ∈ Coding.enc .v t x, Good c) → Good (.sl .v t xs)
def KindOk : Kd → AV → Prop
  | .i k, a => ∃ n, a = .i k n
  | .b, a => ∃ q, a = .b q
  | .s, a => ∃ l, a = .s l
  | .sl t, a => ∃ xs, a = .sl .v t xs
def Kinded : List Kd → List AV → Prop
  | [], [] => True
  | k :: ks, a :: l => KindOk k a ∧ Kinded ks l
  | _, _ => False
section
variable {H : Type} {enc : TypeId × Value → H} {P : Program} {w : World} {spare : Nat → Bool}
/-- a cell of a kind, whose rows are read with less -/
def CellOk (enc : TypeId × Value → H) (P : Program) (w : World) (spare : Nat → Bool) (eid : TC → TypeId) (F : Nat) : Kd → Value → Prop
  | .i k, v => ∃ n, v = .int k n ∧ (Lit.int k n).wf = true
  | .b, v => ∃ q, v = .bool q
  | .s, v => ∃ s : ByteArray, v = .string s ∧ s.size ≤ maxLen
  | .sl t, v => v = .slice none 0 0 ∨ ∃ (a : Addr) (len cap N : Nat), v = .slice (some a) len cap ∧ len ≤ cap ∧ cap ≤ maxLen ∧ N < F ∧
      ∀ i, i < len → ∃ cs x, w.cells? 0 (a.add (i * P.cellsOf (eid t))) (P.cellsOf (eid t)) = some cs ∧ DataW.trod enc P w 0 spare true N (eid t) cs = some x
def CellsOk (enc : TypeId × Value → H) (P : Program) (w : World) (spare : Nat → Bool) (eid : TC → TypeId) (F : Nat) : List Kd → List Value → Prop
  | [], [] => True
  | k :: ks, v :: vs => CellOk enc P w spare eid F k v ∧ CellsOk enc P w spare eid F ks vs
  | _, _ => False
theorem CellOk.mono {eid : TC → TypeId} {F F' : Nat} (hF : F ≤ F') {k : Kd} {v : Value} (h : CellOk enc P w spare eid F k v) : CellOk enc P w spare eid F' k v := by
  cases k with
  | sl t =>
    rcases h with h | ⟨a, len, cap, N, h1, h2, h3, h4, h5⟩
    · exact .inl h
    · exact .inr ⟨a, len, cap, N, h1, h2, h3, Nat.lt_of_lt_of_le h4 hF, h5⟩
  | _ => exact h
theorem CellsOk.mono {eid : TC → TypeId} {F F' : Nat} (hF : F ≤ F') : ∀ {ks : List Kd} {vs : List Value}, CellsOk enc P w spare eid F ks vs → CellsOk enc P w spare eid F' ks vs
  | [], [], _ => trivial
  | k :: ks, v :: vs, h => ⟨h.1.mono hF, CellsOk.mono hF h.2⟩
  | [], _ :: _, h => h.elim
  | _ :: _, [], h => h.elim
theorem CellsOk.append {eid : TC → TypeId} {F : Nat} : ∀ {ks : List Kd} {vs : List Value} {ks' : List Kd} {vs' : List Value}, CellsOk enc P w spare eid F ks vs → CellsOk enc P w spare eid F ks' vs' → CellsOk enc P w spare eid F (ks ++ ks') (vs ++ vs')
  | [], [], _, _, _, h => h
  | k :: ks, v :: vs, _, _, h, h' => ⟨h.1, CellsOk.append h.2 h'⟩
  | [], _ :: _, _, _, h, _ => h.elim
  | _ :: _, [], _, _, h, _ => h.elim
theorem fields_kds {code : TypeId → Option TC} {eid : TC → TypeId} {n : Nat} {rec_ : TypeId → Option (List Kd)} {cs : List Value} (hrec : ∀ T ks cs x, rec_ T = some ks → DataW.trod enc P w 0 spare true n T cs = some x → CellsOk enc P w spare eid n ks cs) :
    ∀ (fs : List Field) (off : Nat) (ks : List Kd), kdsL P rec_ fs off = some ks → (∀ f ∈ fs, ∃ x, DataW.trod enc P w 0 spare true n f.type ((cs.drop f.offset).take (P.cellsOf f.type)) = some x) → off + ks.length = cs.length → CellsOk enc P w spare eid n ks (cs.drop off)
  | [], off, ks, h, _, hl => by
    simp only [kdsL, Option.some.injEq] at h
    subst h
    rw [List.drop_eq_nil_of_le (by simp at hl; omega)]
    trivial
  | f :: fs, off, ks, h, hx, hl => by
    simp only [kdsL] at h
    obtain ⟨h1, h2⟩ := cond_some h
    have h1 := beq_iff.1 h1
    cases hr : rec_ f.type with
    | none => rw [hr] at h2; cases h2
    | some k1 =>
      rw [hr] at h2
      obtain ⟨h3, h4⟩ := cond_some h2
      have h3 := beq_iff.1 h3
      cases hk : kdsL P rec_ fs (off + k1.length) with
      | none => rw [hk] at h4; cases h4
      | some r =>
        rw [hk] at h4
        simp only [Option.some.injEq] at h4
        subst h4
        obtain ⟨x, hx1⟩ := hx f (List.mem_cons_self ..)
        have h5 := hrec _ _ _ _ hr hx1
        have h6 := fields_kds (code := code) hrec fs (off + k1.length) r hk (fun g hg => hx g (List.mem_cons_of_mem _ hg)) (by simp at hl; omega)
        rw [h1, h3] at h5
        have : cs.drop off = (cs.drop off).take k1.length ++ cs.drop (off + k1.length) := by rw [← List.drop_drop, List.take_append_drop]
        rw [this]
        exact h5.append h6
theorem trod_kds {code : TypeId → Option TC} {eid : TC → TypeId} (hcode : ∀ e t, code e = some t → eid t = e) : ∀ (d F : Nat) (T : TypeId) (ks : List Kd) (cs : List Value) (x : DataW H × List MemPlace), kds P code d T = some ks → DataW.trod enc P w 0 spare true F T cs = some x → CellsOk enc P w spare eid F ks cs
  | 0, F, T, ks, cs, x, hk, h => by cases hk
  | d + 1, F, T, ks, cs, x, hk, h => by
    simp only [kds] at hk
    cases hu : P.underlying T with
    | none => rw [hu] at hk; cases hk
    | some u =>
      rw [hu] at hk
      cases u <;> simp only at hk <;> (try (cases hk; done))
      case bool =>
        cases hk
        obtain ⟨q, rfl, _⟩ := DataW.trod_bool hu h
        exact ⟨⟨q, rfl⟩, trivial⟩
      case int k =>
        cases hk
        obtain ⟨n, rfl, _, hw⟩ := DataW.trod_int hu h
        exact ⟨⟨n, rfl, hw⟩, trivial⟩
      case string =>
        cases hk
        obtain ⟨s, rfl, _, hs⟩ := DataW.trod_string hu h
        exact ⟨⟨s, rfl, hs⟩, trivial⟩
      case slice e =>
        cases hc : code e with
        | none => rw [hc] at hk; cases hk
        | some t =>
          rw [hc] at hk
          cases hk
          have he := hcode e t hc
          rcases DataW.trod_slice hu h with ⟨rfl, _⟩ | ⟨a, len, cap, elems, rest, n, hF, rfl, _, _, hl, hm, hlen, hel, _, _⟩
          · exact ⟨.inl rfl, trivial⟩
          · refine ⟨.inr ⟨a, len, cap, n, rfl, hl, hm, by omega, fun i hi => ?_⟩, trivial⟩
            have h1 := hel i hi
            rw [List.getElem?_eq_getElem (by omega)] at h1
            rw [Option.bind_eq_some_iff] at h1
            obtain ⟨cs, k1, k2⟩ := h1
            exact ⟨cs, _, by rw [he]; exact k1, by rw [he]; exact k2⟩
      case struct fs =>
        obtain ⟨xs, n, hF, _, hcl, hxl, hx⟩ := DataW.trod_struct hu h
        cases hks : kdsL P (kds P code d) fs.toList 0 with
        | none => rw [hks] at hk; cases hk
        | some ks' =>
          rw [hks] at hk
          obtain ⟨h1, h2⟩ := cond_some hk
          have h1 := beq_iff.1 h1
          cases h2
          subst hF
          have := fields_kds (code := code) (eid := eid) (n := n) (cs := cs) (fun T ks cs x k1 k2 => trod_kds hcode d n T ks cs x k1 k2) fs.toList 0 ks hks (fun f hf => by
            obtain ⟨i, hi⟩ := List.getElem?_of_mem hf
            have hi' : fs[i]? = some f := by simpa using hi
            have h3 := hx i f hi'
            have hlt : i < xs.length := by rw [hxl]; exact (Array.getElem?_eq_some_iff.1 hi').1
            rw [List.getElem?_eq_getElem hlt] at h3
            exact ⟨_, h3⟩) (by omega)
          exact (this.mono (Nat.le_succ n))
end
end Go.Pi
end
section
set_option linter.unusedVariables false
namespace Go.Pi
variable [Coding]
open Coding
variable {H : Type} {enc' : TypeId × Value → H} {E : Env} {w : World} {spare : Nat → Bool}
abbrev NoF : Nat → Prop := fun _ => False
omit [Coding] in
theorem sims_kinded : ∀ {ks : List Kd} {l c : List AV}, Kinded ks l → sims .v l c → c = l
  | [], [], [], _, _ => rfl
  | k :: ks, a :: l, b :: c, h, hs => by
    have e := sims_kinded h.2 hs.2
    subst e
    have h1 := h.1
    have h2 := hs.1
    cases k <;> obtain ⟨x, rfl⟩ := h1 <;> simp only [AV.sim] at h2 <;> rw [h2]
  | [], [], _ :: _, _, h => h.elim
  | [], _ :: _, _, h, _ => h.elim
  | _ :: _, [], _, h, _ => h.elim
  | _ :: _, _ :: _, [], _, h => h.elim
/-- what is asked of the table of kinds -/
structure KindsOk (E : Env) (code : TypeId → Option TC) (kinds : TC → List Kd) (d : Nat) : Prop where
  codeOk : ∀ e t, code e = some t → E.eid t = e
  kdsOk : ∀ t, kds E.P code d (E.eid t) = some (kinds t)
  dec : ∀ t l, Kinded (kinds t) l → ∃ y, dec t l = some y
  cells : ∀ t, E.P.cellsOf (E.eid t) = t.width
theorem rows_open [CodingOk] {t : TC} {N : Nat} (hel : ∀ cs x, DataW.trod enc' E.P w 0 spare true N (E.eid t) cs = some x → ∃ y : El t, RL E w NoF (enc .v t y) cs (fun _ => 0) ∧ ∀ c ∈ enc .v t y, Good c) {b o : Nat} (hW : E.P.cellsOf (E.eid t) = t.width) :
    ∀ len, (∀ i, i < len → ∃ cs x, w.cells? 0 ((⟨b, o, none⟩ : Addr).add (i * E.P.cellsOf (E.eid t))) (E.P.cellsOf (E.eid t)) = some cs ∧ DataW.trod enc' E.P w 0 spare true N (E.eid t) cs = some x) →
    ∃ (xs : List (El t)) (vals : List Value), xs.length = len ∧ vals.length = len * t.width ∧ RL E w NoF (encRows .v t xs) vals (fun _ => 0) ∧ w.rangeAt b o vals ∧ ∀ x ∈ xs, ∀ c ∈ enc .v t x, Good c
  | 0, _ => ⟨[], [], rfl, by simp, RL.nil (fun _ => 0) fun _ => rfl, fun j v h => by simp at h, fun x hx => by cases hx⟩
  | len + 1, h => by
    obtain ⟨xs, vals, h1, h2, h3, h4, h5⟩ := rows_open hel hW len fun i hi => h i (by omega)
    obtain ⟨cs, x, k1, k2⟩ := h len (Nat.lt_succ_self _)
    obtain ⟨y, j1, j2⟩ := hel cs x k2
    obtain ⟨_, hl, hc⟩ := World.cells?_some k1
    rw [hW] at hl hc
    refine ⟨xs ++ [y], vals ++ cs, by simp [h1], by rw [List.length_append, h2, hl]; exact (Nat.succ_mul _ _).symm, ?_, fun j v hj => ?_, fun x hx => ?_⟩
    · rw [encRows_append]
      refine RL.append h3 (φ' := fun _ => 0) ?_ (fun b => rfl)
      simpa [encRows] using j1
    · by_cases hlt : j < vals.length
      · rw [List.getElem?_append_left hlt] at hj
        exact h4 j v hj
      · rw [List.getElem?_append_right (by omega)] at hj
        have hjl : j - vals.length < t.width := by rw [← hl]; exact (List.getElem?_eq_some_iff.1 hj).1
        have := hc (j - vals.length) hjl
        rw [Addr.add_mid, Addr.add_mid, hj] at this
        rw [← this]
        congr 2
        omega
    · rcases List.mem_append.1 hx with hx | hx
      · exact h5 x hx
      · rw [List.mem_singleton] at hx; subst hx; exact j2
theorem cell_open [CodingOk] {code : TypeId → Option TC} {kinds : TC → List Kd} {d : Nat} (hk : KindsOk E code kinds d) {F : Nat} (ih : ∀ N, N < F → ∀ t cs x, DataW.trod enc' E.P w 0 spare true N (E.eid t) cs = some x → ∃ y : El t, RL E w NoF (enc .v t y) cs (fun _ => 0) ∧ ∀ c ∈ enc .v t y, Good c) {k : Kd} {v : Value} (h : CellOk enc' E.P w spare E.eid F k v) :
    ∃ a, KindOk k a ∧ RL E w NoF [a] [v] (fun _ => 0) ∧ Good a := by
  cases k with
  | i k => obtain ⟨n, rfl, hw⟩ := h; exact ⟨.i k n, ⟨n, rfl⟩, .scal _ _ _ _ _ rfl (.nil _ fun _ => rfl), .i _ _ hw⟩
  | b => obtain ⟨q, rfl⟩ := h; exact ⟨.b q, ⟨q, rfl⟩, .scal _ _ _ _ _ rfl (.nil _ fun _ => rfl), .b _⟩
  | s =>
    obtain ⟨s, rfl, hs⟩ := h
    refine ⟨.s s.data.toList, ⟨_, rfl⟩, .scal _ _ _ _ _ ?_ (.nil _ fun _ => rfl), .s _ ?_⟩
    · show Value.string s = .string ⟨s.data.toList.toArray⟩
      simp
    · rw [Array.length_toList]; exact hs
  | sl t =>
    rcases h with rfl | ⟨a, len, cap, N, rfl, hl, hm, hN, hel⟩
    · exact ⟨.sl .v t [], ⟨_, rfl⟩, .view t [] none 0 0 [] (fun _ => 0) _ _ _ ⟨rfl, Nat.le_refl _⟩ (.nil _ fun _ => rfl) (fun _ => rfl) (fun hp => by omega) (.nil _ fun _ => rfl), .sl _ _ (Nat.zero_le _) (fun x hx => by cases hx)⟩
    · cases len with
      | zero => exact ⟨.sl .v t [], ⟨_, rfl⟩, .view t [] (some a) 0 cap [] (fun _ => 0) _ _ _ ⟨rfl, hl⟩ (.nil _ fun _ => rfl) (fun _ => rfl) (fun hp => by omega) (.nil _ fun _ => rfl), .sl _ _ (Nat.zero_le _) (fun x hx => by cases hx)⟩
      | succ len =>
        have hW := hk.cells t
        have hpos : 0 < t.width := CodingOk.pos t
        obtain ⟨cs0, x0, k1, _⟩ := hel 0 (Nat.succ_pos _)
        obtain ⟨_, hl0, hc0⟩ := World.cells?_some k1
        have hcell := hc0 0 (by rw [hW]; exact hpos)
        rw [List.getElem?_eq_getElem (by rw [hl0, hW]; exact hpos)] at hcell
        have ha : a.spot = none := by
          have h0 : (a.add (0 * E.P.cellsOf (E.eid t))).add 0 = a := by simp [Addr.add]
          rw [h0] at hcell
          unfold World.cell? at hcell
          split at hcell
          · cases hs : a.spot with
            | none => rfl
            | some q => simp [hs] at hcell
          · cases hcell
        obtain ⟨b, o, sp⟩ := a
        simp only at ha
        subst ha
        have hb : b < w.heap.size := World.cells?_block k1 (by rw [hW]; exact hpos) |> fun h => by simpa [Addr.add] using h
        obtain ⟨xs, vals, e1, e2, e3, e4, e5⟩ := rows_open (ih N hN t) hW (len + 1) hel
        refine ⟨.sl .v t xs, ⟨_, rfl⟩, ?_, .sl _ _ (by omega) e5⟩
        exact .view t xs (some ⟨b, o, none⟩) (len + 1) cap vals (fun _ => 0) _ _ _ ⟨e1.symm, hl⟩ e3 (fun _ => rfl) (fun _ => ⟨b, o, rfl, e4, hb, fun h => h⟩) (.nil _ fun _ => rfl)
theorem cells_open [CodingOk] {code : TypeId → Option TC} {kinds : TC → List Kd} {d : Nat} (hk : KindsOk E code kinds d) {F : Nat} (ih : ∀ N, N < F → ∀ t cs x, DataW.trod enc' E.P w 0 spare true N (E.eid t) cs = some x → ∃ y : El t, RL E w NoF (enc .v t y) cs (fun _ => 0) ∧ ∀ c ∈ enc .v t y, Good c) :
    ∀ {ks : List Kd} {vs : List Value}, CellsOk enc' E.P w spare E.eid F ks vs → ∃ l, Kinded ks l ∧ RL E w NoF l vs (fun _ => 0) ∧ ∀ c ∈ l, Good c
  | [], [], _ => ⟨[], trivial, .nil _ fun _ => rfl, fun c hc => by cases hc⟩
  | k :: ks, v :: vs, h => by
    obtain ⟨a, h1, h2, h3⟩ := cell_open hk ih h.1
    obtain ⟨l, k1, k2, k3⟩ := cells_open hk ih h.2
    refine ⟨a :: l, ⟨h1, k1⟩, RL.cons h2 k2 (fun b => rfl), fun c hc => ?_⟩
    rcases List.mem_cons.1 hc with rfl | hc
    · exact h3
    · exact k3 c hc
  | [], _ :: _, h => h.elim
  | _ :: _, [], h => h.elim
theorem el_open [CodingOk] {code : TypeId → Option TC} {kinds : TC → List Kd} {d : Nat} (hk : KindsOk E code kinds d) : ∀ (F : Nat) (t : TC) (cs : List Value) (x : DataW H × List MemPlace), DataW.trod enc' E.P w 0 spare true F (E.eid t) cs = some x →
    ∃ y : El t, RL E w NoF (enc .v t y) cs (fun _ => 0) ∧ ∀ c ∈ enc .v t y, Good c := by
  intro F
  induction F using Nat.strongRecOn with
  | _ F ih =>
    intro t cs x h
    have h1 := trod_kds hk.codeOk d F _ _ _ _ (hk.kdsOk t) h
    obtain ⟨l, h2, h3, h4⟩ := cells_open hk ih h1
    obtain ⟨y, hy⟩ := hk.dec t l h2
    have h5 := CodingOk.dec .v t l y hy
    have h6 := sims_kinded h2 h5
    exact ⟨y, by rw [h6]; exact h3, by rw [h6]; exact h4⟩
/-- an argument of any of the types -/
theorem arg_open [CodingOk] {code : TypeId → Option TC} {kinds : TC → List Kd} {d : Nat} (hk : KindsOk E code kinds d) {T : TypeId} {ks : List Kd} (hT : kds E.P code d T = some ks) {v : Value} {dd : DataW H} {ps : List MemPlace} (h : DataW.Trod enc' E.P w 0 spare true T v dd ps) :
    ∃ l, Kinded ks l ∧ RL E w NoF l v.cells.toList (fun _ => 0) ∧ ∀ c ∈ l, Good c := by
  obtain ⟨F, hF⟩ := h
  exact cells_open hk (fun N _ => el_open hk N) (trod_kds hk.codeOk d F T ks _ _ hT hF)
end Go.Pi
end
section
set_option linter.unusedVariables false
namespace Go.Pi
open Go.RowKit
variable [Coding]
open Coding
omit [Coding] in
theorem kinded_cons {k : Kd} {ks : List Kd} {l : List AV} (h : Kinded (k :: ks) l) : ∃ a l', l = a :: l' ∧ KindOk k a ∧ Kinded ks l' := by
  cases l with
  | nil => exact h.elim
  | cons a l => exact ⟨a, l, rfl, h.1, h.2⟩
omit [Coding] in
theorem kinded_nil {l : List AV} (h : Kinded [] l) : l = [] := by
  cases l with
  | nil => rfl
  | cons a l => exact h.elim
def codeL (eid : TC → TypeId) : List TC → TypeId → Option TC
  | [], _ => none
  | t :: ts, e => cond (Nat.beq (eid t) e) (some t) (codeL eid ts e)
omit [Coding] in
theorem codeL_ok {eid : TC → TypeId} {e : TypeId} {t : TC} : ∀ ts, codeL eid ts e = some t → eid t = e
  | [], h => by cases h
  | u :: ts, h => by
    simp only [codeL] at h
    cases hb : Nat.beq (eid u) e with
    | true => rw [hb] at h; cases h; exact beq_iff.1 hb
    | false => rw [hb] at h; exact codeL_ok ts h
/-- a law that answers true -/
theorem law_true [CodingOk] {E : Env} {f : FuncId} {avs : List AV} {outs : List AV} {ps : List PS} (h : CallOk E f avs (.b true) outs ps) {w : World} (hgl : Glob E w NoF) {Vs : List Value} (hr : RL E w NoF avs Vs (fun _ => 0)) :
    Calls E.P f Vs.toArray w fun e W' => e = .returned (.bool true) ∧ Below w.heap.size w W' := by
  refine (h w NoF Vs _ hr (fun _ => Nat.zero_le _) (fun b hb => hb.elim) hgl).mono fun e W' ⟨V, φ', he, h1, _, _, e1, e2, e3, e4, e5⟩ => ⟨?_, e1, e2, e3, e4, fun k hk => e5 k hk rfl⟩
  cases h1 with
  | scal a v l vs φ hs _ => rw [he, show V = .bool true from hs]
theorem ag_open {E : Env} {w : World} {l : List AV} {cs : Array Value} (h : RL E w NoF l (Value.agg cs).cells.toList (fun _ => 0)) {l' : List AV} {vs : List Value} (h' : RL E w NoF l' vs (fun _ => 0)) :
    RL E w NoF (.ag l :: l') (.agg cs :: vs) (fun _ => 0) := by
  have := RL.ag (E := E) (w := w) (F := NoF) l cs.toList (fun _ => 0) l' vs (fun _ => 0) (fun _ => 0) h h' (fun b => rfl)
  simpa using this
end Go.Pi
end
section
set_option linter.unusedVariables false
set_option maxRecDepth 100000
namespace Go.Pi
open Go.Proofs Go.Proofs.YthfipmaaojdmnaaDoor
open Go.ChangeShapes Go.WideShapes Go.ChangeAt Go.RowKit
def code : TypeId → Option TC := codeL eid [.str, .u8, .lJson, .lOp, .iJson, .iOp]
def kinds : TC → List Kd
  | .str => [.s]
  | .u8 => [.i .u8]
  | .lJson => [.i .i64, .i .i64, .s, .sl .lJson, .sl .str]
  | .lOp => [.i .i64, .sl .str, .i .i64, .i .i64, .s, .sl .lJson, .sl .str]
  | .iJson => [.i .i64, .i .i64, .s, .sl .iJson, .sl .str]
  | .iOp => [.i .i64, .sl .str, .i .i64, .i .i64, .s, .sl .iJson, .sl .str]
theorem kindsOk : KindsOk E code kinds 12 where
  codeOk := fun e t h => codeL_ok _ h
  kdsOk := by intro t; cases t <;> kernel_rfl
  cells := by intro t; cases t <;> kernel_rfl
  dec := by
    intro t l h
    cases t with
    | str =>
      iterate 1 (replace h := kinded_cons h; obtain ⟨_, _, rfl, ⟨_, rfl⟩, h⟩ := h)
      replace h := kinded_nil h; subst h; exact ⟨_, rfl⟩
    | u8 =>
      iterate 1 (replace h := kinded_cons h; obtain ⟨_, _, rfl, ⟨_, rfl⟩, h⟩ := h)
      replace h := kinded_nil h; subst h; exact ⟨_, rfl⟩
    | lJson =>
      iterate 5 (replace h := kinded_cons h; obtain ⟨_, _, rfl, ⟨_, rfl⟩, h⟩ := h)
      replace h := kinded_nil h; subst h; exact ⟨_, rfl⟩
    | lOp =>
      iterate 7 (replace h := kinded_cons h; obtain ⟨_, _, rfl, ⟨_, rfl⟩, h⟩ := h)
      replace h := kinded_nil h; subst h; exact ⟨_, rfl⟩
    | iJson =>
      iterate 5 (replace h := kinded_cons h; obtain ⟨_, _, rfl, ⟨_, rfl⟩, h⟩ := h)
      replace h := kinded_nil h; subst h; exact ⟨_, rfl⟩
    | iOp =>
      iterate 7 (replace h := kinded_cons h; obtain ⟨_, _, rfl, ⟨_, rfl⟩, h⟩ := h)
      replace h := kinded_nil h; subst h; exact ⟨_, rfl⟩
namespace laws_FnExactEventText
theorem own : ownKnob Tryd.prog.godebug = none := by kernel_rfl
theorem laidOut : laidOutB Tryd.prog = true := by kernel_rfl
def tab1 : DataW Unit → List Value
  | .lit (.int k n) => [Value.int k n]
  | _ => []
def tab2 : DataW Unit → List Value
  | .agg l => l.flatMap tab1
  | d => tab1 d
def tabOf : DataW Unit → Array Value
  | .agg l => (l.flatMap tab2).toArray
  | _ => #[]
def Pure : Prop := ∀ (aE : TEvent), (∀ c ∈ ([.i .i64 aE.kind, .i .i64 aE.version, .i .i64 aE.base, .i .i64 aE.doc.kind, .i .i64 aE.doc.n_, .s aE.doc.s, .sl .v .lJson aE.doc.list, .sl .v .str aE.doc.names, .sl .v .lOp aE.ops] : List AV), Good c) → ∃ n, Go.Pi.laws_FnExactEventText n aE = some true
/-- a start that fits: the tables az they are laid -/
noncomputable def laidWorld (os : Os) : World :=
  let w0 := World.holding Tryd.prog os ⟨#[], #[], []⟩
  let put := fun (h : Array Obj) (g : Nat) (cs : Array Value) => h.modify g fun
    | .cells _ t frozen => .cells cs t frozen
    | o => o
  { w0 with heap := put (put (put (put (put (w0.heap) 2 (tabOf Rows.laid_math_bits_deBruijn32tab)) 3 (tabOf Rows.laid_math_bits_deBruijn64tab)) 0 (tabOf Rows.laid_internal_strconv_uint64pow10)) 5 (tabOf Rows.laid_unicode_utf8_acceptRanges)) 4 (tabOf Rows.laid_unicode_utf8_first) }
theorem laidWorld_met (os : Os) (args : Array Value) : laidMet Tryd.prog Rows.fnExactEventTextRow.laid ((laidWorld os).forCall (fun _ _ => 0) ⟨#[], args, []⟩).memory :=
  laidMet_of_run' 8 (by kernel_rfl) (by kernel_rfl)
theorem lifted (hp : Pure) (os : Os) (started : os.Started) (H : Type) (enc : TypeId × Value → H) :
    ReturnsInHanded {} Tryd.checked os 4 .any (fun w args => (Rows.fnExactEventTextSpec.pre enc Tryd.prog Tryd.f4 Rows.fnExactEventTextRow.domain false w args ∧ laidMet Tryd.prog Rows.fnExactEventTextRow.laid w) ∧ sizedMet enc Tryd.prog Tryd.f4 (OpenSpec.ofChange Rows.fnExactEventTextSpec) false w args) (Rows.fnExactEventTextSpec.post enc Tryd.prog Tryd.f4 false true false false) := by
  refine returnsInHanded_of_calls own started (by kernel_rfl) (ChangeSpec.witness_at (enc := enc) (C := Tryd.checked) (os := os) (X := fun w _ => laidMet Tryd.prog Rows.fnExactEventTextRow.laid w) false (laidWorld os) #[.agg #[.int .i64 0, .int .i64 0, .int .i64 0, .int .i64 0, .int .i64 0, .string ByteArray.empty, .slice none 0 0, .slice none 0 0, .slice none 0 0]] 8 rfl (by kernel_rfl) (by kernel_rfl) (by kernel_rfl) (by kernel_rfl) (by kernel_rfl) (laidWorld_met os _)) ?_
  intro w0 tape inp _ hsh _ hok hpre _
  obtain ⟨_, _, _, fn', hfn', _, _, _, _, hval0⟩ := hok
  obtain rfl : fn' = Tryd.f4 := Option.some.inj (hfn'.symm.trans Tryd.func4)
  obtain ⟨⟨⟨ds, gs, before, hw0, hcnd⟩, hL0⟩, hz⟩ := hpre
  have hW := DataW.Whole.of_heap (w' := w0.forCall tape inp) (by rfl) hw0
  have hL : laidMet Tryd.prog Rows.fnExactEventTextRow.laid (w0.forCall tape inp) := hL0.of_heap (by rfl)
  clear hw0 hL0 hz hfn' hcnd
  generalize w0.forCall tape inp = W at hsh hval0 hW hL ⊢
  generalize inp.args = args at hval0 hW ⊢
  generalize w0.heap.size = base at hval0
  suffices hgo : Calls Tryd.prog 4 args W fun e W' => ∃ v, e = .returned v ∧ Rows.fnExactEventTextSpec.post enc Tryd.prog Tryd.f4 false true false false W args v W' from hgo.mono fun e W' ⟨v, he, hp⟩ => by subst he; exact ChangeSpec.post_blind hp
  have hval : ∀ (j : Nat) t v, Tryd.f4.params[j]? = some t → args[j]? = some v → Value.okWide Tryd.prog W .any base t v := hval0
  have hW' := hW
  obtain ⟨p, q, hA0, hV, rfl, hfz, hnd⟩ := hW
  have hA : DataW.TrodAll enc Tryd.prog W 0 (fun _ => true) true Tryd.f4.params.toList args.toList ds p := hA0
  rw [Tryd.params4] at hA hval
  obtain ⟨v0, vs0, d0, ds0, p0, q0, hargs, rfl, rfl, h0, r0⟩ := trodAll_cons hA
  obtain ⟨rfl, rfl, rfl⟩ := trodAll_nil r0
  obtain rfl : args = #[v0] := by cases args; simp_all
  obtain ⟨rfl, rfl⟩ := trodVars_none hV
  obtain ⟨c0, rfl, -⟩ := okWide_struct Tryd.underlying28 (hval 0 28 v0 rfl rfl)
  have lt0 : ∀ x ∈ p0, x.block < W.heap.size := by obtain ⟨m, hm⟩ := h0; exact DataW.trod_lt m _ _ _ hm
  obtain ⟨l0, k0, e0, g0⟩ := arg_open kindsOk (T := 28) (ks := [.i .i64, .i .i64, .i .i64, .i .i64, .i .i64, .s, .sl .lJson, .sl .str, .sl .lOp]) (by kernel_rfl) h0
  replace k0 := kinded_cons k0; obtain ⟨_, _, rfl, ⟨z0, rfl⟩, k0⟩ := k0
  replace k0 := kinded_cons k0; obtain ⟨_, _, rfl, ⟨z1, rfl⟩, k0⟩ := k0
  replace k0 := kinded_cons k0; obtain ⟨_, _, rfl, ⟨z2, rfl⟩, k0⟩ := k0
  replace k0 := kinded_cons k0; obtain ⟨_, _, rfl, ⟨z3, rfl⟩, k0⟩ := k0
  replace k0 := kinded_cons k0; obtain ⟨_, _, rfl, ⟨z4, rfl⟩, k0⟩ := k0
  replace k0 := kinded_cons k0; obtain ⟨_, _, rfl, ⟨z5, rfl⟩, k0⟩ := k0
  replace k0 := kinded_cons k0; obtain ⟨_, _, rfl, ⟨z6, rfl⟩, k0⟩ := k0
  replace k0 := kinded_cons k0; obtain ⟨_, _, rfl, ⟨z7, rfl⟩, k0⟩ := k0
  replace k0 := kinded_cons k0; obtain ⟨_, _, rfl, ⟨z8, rfl⟩, k0⟩ := k0
  replace k0 := kinded_nil k0; subst k0
  have hT : Lib.TabIs Tryd.prog W "internal/strconv.uint64pow10" .u64 Lib.pow10Tab := Lib.tabIs_of_head (t := 104) (e := 93) (n := 20) globNamed (by kernel_rfl) (by kernel_rfl) (by kernel_rfl) (by kernel_rfl) (by kernel_rfl) (show laidMet Tryd.prog ((_, Lib.tabData .u64 Lib.pow10Tab) :: _) W from hL.tail.tail)
  obtain ⟨mx, hmx⟩ := cell_of_shapedOpen_int (g := 1) (t := 3) (k := .i64) (zero := #[.int .i64 0]) hsh (by decide +kernel) (by kernel_rfl) rfl (by kernel_rfl) (by kernel_rfl) (by kernel_rfl)
  have hgl : Glob E W NoF := fun p hp => by
    rcases List.mem_cons.1 hp with rfl | hp
    · obtain ⟨T, fr, h⟩ := tab_glob hT globNamed; exact ⟨⟨_, T, fr, h, rfl⟩, fun h => h.elim⟩
    rcases List.mem_singleton.1 hp with rfl
    exact ⟨int_glob hmx, fun h => h.elim⟩
  obtain ⟨n, hn⟩ := hp (TEvent.mk z0 z1 z2 (TJson.mk z3 z4 z5 z6 z7) z8) g0
  refine (law_true ((allOk n).h64 ((z0, z1, z2, z3, z4, z5, z6, z7, z8, ()), ()) _ hn) hgl (ag_open e0 (.nil _ fun _ => rfl))).mono fun e W' ⟨he, bel⟩ => ?_
  subst he
  exact ⟨_, rfl, _, _, _, [], _, [], hW', trodAll_mk1 (shut_bool Tryd.underlying4 _), (trodAll_cons_mk (Below.trod laidOut (by kernel_rfl) (of_decide_eq_true (by kernel_rfl)) h0 bel lt0) trodAll_mk0), rfl, bel.frame _, fun h => by cases h⟩
theorem over (hp : Pure) : Rows.fnExactEventTextRow.holds Tryd.pinned (OpenSpec.ofChange Rows.fnExactEventTextSpec) :=
  OpenClaim.holds_of_wide 4 Tryd.f4 rfl rfl rfl rfl rfl rfl rfl ⟨rfl, rfl, rfl, rfl, rfl⟩ rfl rfl rfl rfl rfl (by kernel_rfl) Tryd.func4 (by kernel_rfl)
    (of_decide_eq_true (by kernel_rfl)) (by unfold Func.isWrapper; first | (rw [if_pos (by decide +kernel)]; kernel_rfl) | (rw [if_neg (by decide +kernel)]; exact ⟨rfl, rfl⟩))
    (fun os started H enc _ => lifted hp os started H enc)
end laws_FnExactEventText
theorem laws_FnExactEventText.card (hp : laws_FnExactEventText.Pure) : Rows.FnExactEventTextCardSaid :=
  Claim7.holds_tied_plain_at .later [] [.data, .data, .data, .data, .pinned] true (true, "c094ac20c659c9ae3455662aace2640d9082b5d4b76776d2fc9532b06c00f742") false
    (laws_FnExactEventText.over hp) (fun _ h => by cases h) (by kernel_rfl) (fun _ h => by cases h) fnExactEventText_row_tie rfl ⟨rfl, rfl⟩ (by kernel_rfl) rfl
    (fun f fn hf hfn => by
      obtain rfl : f = 4 := Option.some.inj ((show Tryd.prog.funcNamed "loop.example/g00198/laws.FnExactEventText" = some 4 by kernel_rfl).symm.trans hf) |>.symm
      obtain rfl : fn = Tryd.f4 := (Option.some.inj (Tryd.func4.symm.trans hfn)).symm
      exact ⟨by kernel_rfl, fun j t ht => by
        rw [Tryd.params4] at ht
        have hm : t ∈ ([28] : List TypeId) := List.mem_of_getElem? (show ([28] : List TypeId)[j]? = some t by simpa using ht)
        have := List.all_eq_true.1 (show ([28] : List TypeId).all (fun t => !Tryd.prog.wantsStandIn t) = true by kernel_rfl) t hm
        exact (by simpa using this : Tryd.prog.wantsStandIn t = false)⟩)
    (by kernel_rfl)
end Go.Pi
end
section
set_option linter.unusedVariables false
/-! What the functions compute, for all sizes of fuel that are large enough. -/
namespace Go.Pi
section
variable {α β : Type}
def Ev (f : Nat → Nat → Option α) (v : α) : Prop := ∃ M, ∀ n N, M ≤ n → M ≤ N → f n N = some v
theorem ev_some {v w : α} : Ev (fun _ _ => some v) w ↔ v = w :=
  ⟨fun ⟨M, h⟩ => Option.some.inj (h M M (Nat.le_refl _) (Nat.le_refl _)), fun h => ⟨0, fun _ _ _ _ => by rw [h]⟩⟩
theorem ev_iff {f : Nat → Nat → Option α} {v w : α} (h : Ev f v) : Ev f w ↔ v = w := by
  constructor
  · rintro ⟨M', h'⟩
    obtain ⟨M, h⟩ := h
    have a := h (max M M') (max M M') (by omega) (by omega)
    have b := h' (max M M') (max M M') (by omega) (by omega)
    rw [a] at b
    exact Option.some.inj b
  · rintro rfl; exact h
theorem ev_bind {f : Nat → Nat → Option α} {a : α} (h : Ev f a) {g : Nat → Nat → α → Option β} {v : β} : Ev (fun n N => (f n N).bind (g n N)) v ↔ Ev (fun n N => g n N a) v := by
  obtain ⟨M, h⟩ := h
  constructor
  · rintro ⟨M', h'⟩
    refine ⟨max M M', fun n N h1 h2 => ?_⟩
    have := h' n N (by omega) (by omega)
    simp only [h n N (by omega) (by omega), Option.bind_some] at this
    exact this
  · rintro ⟨M', h'⟩
    refine ⟨max M M', fun n N h1 h2 => ?_⟩
    simp only [h n N (by omega) (by omega), Option.bind_some]
    exact h' n N (by omega) (by omega)
theorem ev_none {v : α} : Ev (fun _ _ => none) v ↔ False := by
  simp only [iff_false]
  rintro ⟨M, h⟩
  cases h M M (Nat.le_refl _) (Nat.le_refl _)
theorem ev_cond {c : Bool} {f g : Nat → Nat → Option α} {v : α} : Ev (fun n N => cond c (f n N) (g n N)) v ↔ (c = true → Ev f v) ∧ (c = false → Ev g v) := by
  cases c <;> simp
theorem ev_inB {i : Int} {len : Nat} {f : Nat → Nat → Option α} {v : α} : Ev (fun n N => inB i len (f n N)) v ↔ (0 ≤ i ∧ i < (len : Int)) ∧ Ev f v := by
  unfold inB
  rw [ev_cond, ev_cond]
  by_cases h1 : 0 ≤ i <;> by_cases h2 : i < (len : Int) <;> simp [h1, h2, ev_none]
theorem ev_succ {f : Nat → Nat → Option α} {v : α} (h : Ev (fun n N => f (n + 1) N) v) : Ev f v := by
  obtain ⟨M, h⟩ := h
  refine ⟨M + 1, fun n N h1 h2 => ?_⟩
  obtain ⟨m, rfl⟩ : ∃ m, n = m + 1 := ⟨n - 1, by omega⟩
  exact h m N (by omega) (by omega)
theorem ev_diag {f : Nat → Nat → Option α} {v : α} (h : Ev f v) : Ev (fun n _ => f n n) v := by
  obtain ⟨M, h⟩ := h
  exact ⟨M, fun n N h1 h2 => h n n h1 h1⟩
theorem ev_round {f : Nat → Nat → Option α} {v : α} (h : Ev (fun n N => f n (N + 1)) v) : Ev f v := by
  obtain ⟨M, h⟩ := h
  refine ⟨M + 1, fun n N h1 h2 => ?_⟩
  obtain ⟨m, rfl⟩ : ∃ m, N = m + 1 := ⟨N - 1, by omega⟩
  exact h n m (by omega) (by omega)
theorem ev_ex {f : Nat → Option α} {v : α} (h : Ev (fun n _ => f n) v) : ∃ n, f n = some v := by
  obtain ⟨M, h⟩ := h
  exact ⟨M, h M M (Nat.le_refl _) (Nat.le_refl _)⟩
/-- a loop that counts up to an end -/
theorem ev_up {σ : Type} (L : Nat → Nat → Nat → σ → Option α) (F : Nat → σ → α) (I : Nat → σ → Prop) (len : Nat)
    (h : ∀ i s, I i s → i ≤ len → (∀ s', I (i + 1) s' → i < len → Ev (fun n N => L n N (i + 1) s') (F (i + 1) s')) → Ev (fun n N => L n (N + 1) i s) (F i s)) :
    ∀ s, I 0 s → Ev (fun n _ => L n n 0 s) (F 0 s) := by
  have key : ∀ d i s, d + i = len → I i s → Ev (fun n N => L n N i s) (F i s) := by
    intro d
    induction d with
    | zero => exact fun i s hd hI => ev_round (h i s hI (by omega) fun s' _ hl => absurd hl (by omega))
    | succ d ih => exact fun i s hd hI => ev_round (h i s hI (by omega) fun s' hI' _ => ih (i + 1) s' (by omega) hI')
  exact fun s hI => ev_diag (f := fun n N => L n N 0 s) (key len 0 s (by omega) hI)
/-- a loop of which only the number moves -/
theorem ev_up1 (L : Nat → Nat → Nat → Option α) (F : Nat → α) (len : Nat)
    (h : ∀ i, i ≤ len → (i < len → Ev (fun n N => L n N (i + 1)) (F (i + 1))) → Ev (fun n N => L n (N + 1) i) (F i)) :
    Ev (fun n _ => L n n 0) (F 0) :=
  ev_up (σ := Unit) (fun n N i _ => L n N i) (fun i _ => F i) (fun _ _ => True) len (fun i s _ hi k => h i hi fun hl => k () trivial hl) () trivial
end
/-- the most that a list holds -/
abbrev topN : Nat := 9223372036854775807
theorem W_id {n : Int} (h : -9223372036854775808 ≤ n) (h' : n < 9223372036854775808) : W n = n := by
  show IntKind.i64.wrap n = n
  rw [IntKind.wrap_i64]; omega
theorem W_up {i : Nat} {len : Nat} (h : i < len) (hl : len ≤ topN) : W ((i : Int) + 1) = ((i + 1 : Nat) : Int) := by
  rw [W_id (by omega) (by simp only [topN] at hl; omega)]; omega
theorem drop_step {α : Type} (d : α) {a : List α} {i : Nat} (h : i < a.length) : a.drop i = a.getD i d :: a.drop (i + 1) := by
  rw [List.drop_eq_getElem_cons h, List.getD_eq_getElem?_getD, List.getElem?_eq_getElem h]; rfl
theorem drop_end {α : Type} {a : List α} {i : Nat} (h : a.length ≤ i) : a.drop i = [] := List.drop_eq_nil_of_le h
theorem getD_mem {α : Type} (d : α) {a : List α} {i : Nat} (h : i < a.length) : a.getD i d ∈ a := by
  rw [List.getD_eq_getElem?_getD, List.getElem?_eq_getElem h]; exact List.getElem_mem h
end Go.Pi
end
section
set_option linter.unusedVariables false
set_option maxRecDepth 100000
namespace Go.Pi
abbrev laws_szStringS.K7 : Type := Int → Option Int
theorem laws_szStringS.turn7 {n N : Nat} {k : Int → Option Int} {x0 x1 x2} : laws_szStringS.loop7 n k (N + 1) x0 x1 x2 = laws_szStringS.step7 n k (laws_szStringS.loop7 n k N) x0 x1 x2 := rfl
abbrev laws_szJsonS.K7_1 : Type := Int → Option Int
theorem laws_szJsonS.turn7 {n N : Nat} {k0 : TJson → Int → Option Int} {k1 : Int → Option Int} {x0 x1 x2} : laws_szJsonS.loop7 n k0 k1 (N + 1) x0 x1 x2 = laws_szJsonS.step7 n k0 k1 (laws_szJsonS.loop7 n k0 k1 N) x0 x1 x2 := rfl
abbrev laws_szOpS.K7 : Type := Int → Option Int
theorem laws_szOpS.turn7 {n N : Nat} {k : Int → Option Int} {x0 x1 x2} : laws_szOpS.loop7 n k (N + 1) x0 x1 x2 = laws_szOpS.step7 n k (laws_szOpS.loop7 n k N) x0 x1 x2 := rfl
abbrev laws_toStringS.K4 : Type := (List Bs) → Option (List Bs)
theorem laws_toStringS.turn4 {n N : Nat} {k : (List Bs) → Option (List Bs)} {x0 x1 x2} : laws_toStringS.loop4 n k (N + 1) x0 x1 x2 = laws_toStringS.step4 n k (laws_toStringS.loop4 n k N) x0 x1 x2 := rfl
abbrev laws_toJsonS.K4_1 : Type := (List TJson) → Option (List TJson)
theorem laws_toJsonS.turn4 {n N : Nat} {k0 : TJson → Option TJson} {k1 : (List TJson) → Option (List TJson)} {x0 x1 x2} : laws_toJsonS.loop4 n k0 k1 (N + 1) x0 x1 x2 = laws_toJsonS.step4 n k0 k1 (laws_toJsonS.loop4 n k0 k1 N) x0 x1 x2 := rfl
abbrev laws_toOpS.K4 : Type := (List TOp) → Option (List TOp)
theorem laws_toOpS.turn4 {n N : Nat} {k : (List TOp) → Option (List TOp)} {x0 x1 x2} : laws_toOpS.loop4 n k (N + 1) x0 x1 x2 = laws_toOpS.step4 n k (laws_toOpS.loop4 n k N) x0 x1 x2 := rfl
abbrev spec_l1Text.K3 : Type := Bs → Option Bool
theorem spec_l1Text.turn3 {n N : Nat} {k : Bs → Option Bool} {x0 x1} : spec_l1Text.loop3 n k (N + 1) x0 x1 = spec_l1Text.step3 n k (spec_l1Text.loop3 n k N) x0 x1 := rfl
abbrev spec_l1Names.K6 : Type := Int → Int → Bs → (List TJson) → (List Bs) → Option Bool
theorem spec_l1Names.turn6 {n N : Nat} {k : Int → Int → Bs → (List TJson) → (List Bs) → Option Bool} {x0 x1 x2 x3 x4 x5} : spec_l1Names.loop6 n k (N + 1) x0 x1 x2 x3 x4 x5 = spec_l1Names.step6 n k (spec_l1Names.loop6 n k N) x0 x1 x2 x3 x4 x5 := rfl
abbrev spec_l1Great.K23_1 : Type := Int → Int → Int → Int → Bs → (List TJson) → (List Bs) → Option Int
theorem spec_l1Great.turn23 {n N : Nat} {k0 : TJson → Int → Option Int} {k1 : Int → Int → Int → Int → Bs → (List TJson) → (List Bs) → Option Int} {x0 x1 x2 x3 x4 x5 x6 x7 x8} : spec_l1Great.loop23 n k0 k1 (N + 1) x0 x1 x2 x3 x4 x5 x6 x7 x8 = spec_l1Great.step23 n k0 k1 (spec_l1Great.loop23 n k0 k1 N) x0 x1 x2 x3 x4 x5 x6 x7 x8 := rfl
abbrev spec_l2Digits.K7 : Type := Bool → Bs → Option Bs
theorem spec_l2Digits.turn7 {n N : Nat} {k : Bool → Bs → Option Bs} {x0 x1 x2} : spec_l2Digits.loop7 n k (N + 1) x0 x1 x2 = spec_l2Digits.step7 n k (spec_l2Digits.loop7 n k N) x0 x1 x2 := rfl
abbrev spec_l2Quote.K4 : Type := (List Int) → Option Bs
theorem spec_l2Quote.turn4 {n N : Nat} {k : (List Int) → Option Bs} {x0 x1 x2} : spec_l2Quote.loop4 n k (N + 1) x0 x1 x2 = spec_l2Quote.step4 n k (spec_l2Quote.loop4 n k N) x0 x1 x2 := rfl
abbrev spec_l2Encode.K17_1 : Type := Bs → Int → Int → Bs → (List TJson) → (List Bs) → Option Bs
theorem spec_l2Encode.turn17 {n N : Nat} {k0 : TJson → Option Bs} {k1 : Bs → Int → Int → Bs → (List TJson) → (List Bs) → Option Bs} {x0 x1 x2 x3 x4 x5 x6} : spec_l2Encode.loop17 n k0 k1 (N + 1) x0 x1 x2 x3 x4 x5 x6 = spec_l2Encode.step17 n k0 k1 (spec_l2Encode.loop17 n k0 k1 N) x0 x1 x2 x3 x4 x5 x6 := rfl
abbrev spec_l1Same.K6_1 : Type := Int → Int → Bs → (List TJson) → (List Bs) → Int → Int → Bs → (List TJson) → (List Bs) → Option Bool
theorem spec_l1Same.turn6 {n N : Nat} {k0 : TJson → TJson → Option Bool} {k1 : Int → Int → Bs → (List TJson) → (List Bs) → Int → Int → Bs → (List TJson) → (List Bs) → Option Bool} {x0 x1 x2 x3 x4 x5 x6 x7 x8 x9 x10} : spec_l1Same.loop6 n k0 k1 (N + 1) x0 x1 x2 x3 x4 x5 x6 x7 x8 x9 x10 = spec_l1Same.step6 n k0 k1 (spec_l1Same.loop6 n k0 k1 N) x0 x1 x2 x3 x4 x5 x6 x7 x8 x9 x10 := rfl
abbrev spec_l1Same.K14_1 : Type := Option Bool
theorem spec_l1Same.turn14 {n N : Nat} {k0 : TJson → TJson → Option Bool} {k1 : Option Bool} {x0 x1 x2 x3 x4 x5 x6 x7 x8 x9 x10} : spec_l1Same.loop14 n k0 k1 (N + 1) x0 x1 x2 x3 x4 x5 x6 x7 x8 x9 x10 = spec_l1Same.step14 n k0 k1 (spec_l1Same.loop14 n k0 k1 N) x0 x1 x2 x3 x4 x5 x6 x7 x8 x9 x10 := rfl
abbrev spec_OpOk.K6 : Type := Int → (List Bs) → Int → Int → Bs → (List TJson) → (List Bs) → Option Bool
theorem spec_OpOk.turn6 {n N : Nat} {k : Int → (List Bs) → Int → Int → Bs → (List TJson) → (List Bs) → Option Bool} {x0 x1 x2 x3 x4 x5 x6 x7} : spec_OpOk.loop6 n k (N + 1) x0 x1 x2 x3 x4 x5 x6 x7 = spec_OpOk.step6 n k (spec_OpOk.loop6 n k N) x0 x1 x2 x3 x4 x5 x6 x7 := rfl
abbrev spec_WayText.K10 : Type := (List Bs) → Int → (List Int) → Option Bs
theorem spec_WayText.turn10 {n N : Nat} {k : (List Bs) → Int → (List Int) → Option Bs} {x0 x1 x2 x3} : spec_WayText.loop10 n k (N + 1) x0 x1 x2 x3 = spec_WayText.step10 n k (spec_WayText.loop10 n k N) x0 x1 x2 x3 := rfl
abbrev spec_WayText.K4 : Type := (List Int) → Option Bs
theorem spec_WayText.turn4 {n N : Nat} {k : (List Int) → Option Bs} {x0 x1 x2} : spec_WayText.loop4 n k (N + 1) x0 x1 x2 = spec_WayText.step4 n k (spec_WayText.loop4 n k N) x0 x1 x2 := rfl
abbrev spec_l1Copy.K4_1 : Type := Int → Int → Bs → Int → Int → Bs → (List TJson) → (List Bs) → Option TJson
theorem spec_l1Copy.turn4 {n N : Nat} {k0 : TJson → Option TJson} {k1 : Int → Int → Bs → Int → Int → Bs → (List TJson) → (List Bs) → Option TJson} {x0 x1 x2 x3 x4 x5 x6 x7 x8 x9 x10 x11 x12 x13} : spec_l1Copy.loop4 n k0 k1 (N + 1) x0 x1 x2 x3 x4 x5 x6 x7 x8 x9 x10 x11 x12 x13 = spec_l1Copy.step4 n k0 k1 (spec_l1Copy.loop4 n k0 k1 N) x0 x1 x2 x3 x4 x5 x6 x7 x8 x9 x10 x11 x12 x13 := rfl
abbrev spec_l1Put.K5 : Type := Bs → Bool → Int → Int → Bs → (List TJson) → (List Bs) → Int → Int → Bs → Int → Int → Bs → (List TJson) → (List Bs) → Option TJson
theorem spec_l1Put.turn5 {n N : Nat} {k : Bs → Bool → Int → Int → Bs → (List TJson) → (List Bs) → Int → Int → Bs → Int → Int → Bs → (List TJson) → (List Bs) → Option TJson} {x0 x1 x2 x3 x4 x5 x6 x7 x8 x9 x10 x11 x12 x13 x14 x15 x16 x17 x18 x19 x20} : spec_l1Put.loop5 n k (N + 1) x0 x1 x2 x3 x4 x5 x6 x7 x8 x9 x10 x11 x12 x13 x14 x15 x16 x17 x18 x19 x20 = spec_l1Put.step5 n k (spec_l1Put.loop5 n k N) x0 x1 x2 x3 x4 x5 x6 x7 x8 x9 x10 x11 x12 x13 x14 x15 x16 x17 x18 x19 x20 := rfl
abbrev spec_l17Ops.K4 : Type := (List TOp) → Int → Int → Bs → Int → Int → Bs → (List TJson) → Option (TJson × Bool)
theorem spec_l17Ops.turn4 {n N : Nat} {k : (List TOp) → Int → Int → Bs → Int → Int → Bs → (List TJson) → Option (TJson × Bool)} {x0 x1 x2 x3 x4 x5 x6 x7 x8} : spec_l17Ops.loop4 n k (N + 1) x0 x1 x2 x3 x4 x5 x6 x7 x8 = spec_l17Ops.step4 n k (spec_l17Ops.loop4 n k N) x0 x1 x2 x3 x4 x5 x6 x7 x8 := rfl
abbrev impl_textOk.K3 : Type := Bs → Option Bool
theorem impl_textOk.turn3 {n N : Nat} {k : Bs → Option Bool} {x0 x1 x2} : impl_textOk.loop3 n k (N + 1) x0 x1 x2 = impl_textOk.step3 n k (impl_textOk.loop3 n k N) x0 x1 x2 := rfl
abbrev impl_namesOk.K3 : Type := Option Bool
theorem impl_namesOk.turn3 {n N : Nat} {k : Option Bool} {x0 x1 x2 x3} : impl_namesOk.loop3 n k (N + 1) x0 x1 x2 x3 = impl_namesOk.step3 n k (impl_namesOk.loop3 n k N) x0 x1 x2 x3 := rfl
abbrev impl_sizeIn.K7_1 : Type := Int → Option Int
theorem impl_sizeIn.turn7 {n N : Nat} {k0 : TJson → Int → Option Int} {k1 : Int → Option Int} {x0 x1 x2 x3 x4} : impl_sizeIn.loop7 n k0 k1 (N + 1) x0 x1 x2 x3 x4 = impl_sizeIn.step7 n k0 k1 (impl_sizeIn.loop7 n k0 k1 N) x0 x1 x2 x3 x4 := rfl
abbrev impl_quoted.K4 : Type := (List Int) → Option Bs
theorem impl_quoted.turn4 {n N : Nat} {k : (List Int) → Option Bs} {x0 x1 x2 x3} : impl_quoted.loop4 n k (N + 1) x0 x1 x2 x3 = impl_quoted.step4 n k (impl_quoted.loop4 n k N) x0 x1 x2 x3 := rfl
abbrev impl_written.K4_1 : Type := Int → Int → Bs → (List TJson) → (List Bs) → (List Bs) → Option Bs
theorem impl_written.turn4 {n N : Nat} {k0 : TJson → Option Bs} {k1 : Int → Int → Bs → (List TJson) → (List Bs) → (List Bs) → Option Bs} {x0 x1 x2 x3 x4 x5 x6 x7 x8} : impl_written.loop4 n k0 k1 (N + 1) x0 x1 x2 x3 x4 x5 x6 x7 x8 = impl_written.step4 n k0 k1 (impl_written.loop4 n k0 k1 N) x0 x1 x2 x3 x4 x5 x6 x7 x8 := rfl
abbrev impl_OpOk.K3 : Type := Int → (List Bs) → Int → Int → Bs → (List TJson) → (List Bs) → Option Bool
theorem impl_OpOk.turn3 {n N : Nat} {k : Int → (List Bs) → Int → Int → Bs → (List TJson) → (List Bs) → Option Bool} {x0 x1 x2 x3 x4 x5 x6 x7 x8 x9} : impl_OpOk.loop3 n k (N + 1) x0 x1 x2 x3 x4 x5 x6 x7 x8 x9 = impl_OpOk.step3 n k (impl_OpOk.loop3 n k N) x0 x1 x2 x3 x4 x5 x6 x7 x8 x9 := rfl
abbrev impl_WayText.K4 : Type := Bs → Option Bs
theorem impl_WayText.turn4 {n N : Nat} {k : Bs → Option Bs} {x0 x1 x2 x3} : impl_WayText.loop4 n k (N + 1) x0 x1 x2 x3 = impl_WayText.step4 n k (impl_WayText.loop4 n k N) x0 x1 x2 x3 := rfl
abbrev impl_copyJson.K4_1 : Type := Int → Int → Bs → Int → Int → Bs → (List TJson) → (List Bs) → Option TJson
theorem impl_copyJson.turn4 {n N : Nat} {k0 : TJson → Option TJson} {k1 : Int → Int → Bs → Int → Int → Bs → (List TJson) → (List Bs) → Option TJson} {x0 x1 x2 x3 x4 x5 x6 x7 x8 x9 x10} : impl_copyJson.loop4 n k0 k1 (N + 1) x0 x1 x2 x3 x4 x5 x6 x7 x8 x9 x10 = impl_copyJson.step4 n k0 k1 (impl_copyJson.loop4 n k0 k1 N) x0 x1 x2 x3 x4 x5 x6 x7 x8 x9 x10 := rfl
abbrev impl_opsJson.K4 : Type := Int → Int → Bs → Int → Int → Bs → (List TJson) → Option (TJson × Bool)
theorem impl_opsJson.turn4 {n N : Nat} {k : Int → Int → Bs → Int → Int → Bs → (List TJson) → Option (TJson × Bool)} {x0 x1 x2 x3 x4 x5 x6 x7 x8 x9} : impl_opsJson.loop4 n k (N + 1) x0 x1 x2 x3 x4 x5 x6 x7 x8 x9 = impl_opsJson.step4 n k (impl_opsJson.loop4 n k N) x0 x1 x2 x3 x4 x5 x6 x7 x8 x9 := rfl
abbrev laws_eqStringS.K6 : Type := Option Bool
theorem laws_eqStringS.turn6 {n N : Nat} {k : Option Bool} {x0 x1 x2} : laws_eqStringS.loop6 n k (N + 1) x0 x1 x2 = laws_eqStringS.step6 n k (laws_eqStringS.loop6 n k N) x0 x1 x2 := rfl
abbrev laws_eqJsonS.K6_1 : Type := Option Bool
theorem laws_eqJsonS.turn6 {n N : Nat} {k0 : TJson → TJson → Option Bool} {k1 : Option Bool} {x0 x1 x2} : laws_eqJsonS.loop6 n k0 k1 (N + 1) x0 x1 x2 = laws_eqJsonS.step6 n k0 k1 (laws_eqJsonS.loop6 n k0 k1 N) x0 x1 x2 := rfl
abbrev laws_eqOpS.K6 : Type := Option Bool
theorem laws_eqOpS.turn6 {n N : Nat} {k : Option Bool} {x0 x1 x2} : laws_eqOpS.loop6 n k (N + 1) x0 x1 x2 = laws_eqOpS.step6 n k (laws_eqOpS.loop6 n k N) x0 x1 x2 := rfl
end Go.Pi
end
section
set_option linter.unusedVariables false
set_option maxRecDepth 100000
set_option linter.unusedSimpArgs false
namespace Go.Pi
def allFrom (p : Nat → Bool) : Nat → Nat → Bool
  | 0, _ => true
  | d + 1, i => p i && allFrom p d (i + 1)
def allN (p : Nat → Bool) (len : Nat) : Bool := allFrom p len 0
theorem ev_all (L : Nat → Nat → Nat → Option Bool) (p : Nat → Bool) {len : Nat} {v : Bool}
    (h : ∀ i w, i < len → Ev (fun n N => L n N (i + 1)) w → Ev (fun n N => L n (N + 1) i) (p i && w)) (h2 : Ev (fun n N => L n (N + 1) len) v) :
    Ev (fun n _ => L n n 0) (allN p len && v) := by
  have key : ∀ d i, d + i = len → Ev (fun n N => L n N i) (allFrom p d i && v) := by
    intro d
    induction d with
    | zero => intro i hd; obtain rfl : i = len := by omega
              simpa [allFrom] using ev_round (f := fun n N => L n N i) h2
    | succ d ih => intro i hd
                   have := h i _ (by omega) (ih (i + 1) (by omega))
                   rw [← Bool.and_assoc] at this
                   exact ev_round (f := fun n N => L n N i) this
  exact ev_diag (f := fun n N => L n N 0) (key len 0 (by omega))
theorem ev_congr {α : Type} {f : Nat → Nat → Option α} {v w : α} (h : Ev f v) (e : v = w) : Ev f w := e ▸ h
def inn (x lo hi : Int) : Bool := decide (lo ≤ x) && decide (x ≤ hi)
theorem inn_iff {x lo hi : Int} : inn x lo hi = true ↔ lo ≤ x ∧ x ≤ hi := by simp [inn]
theorem l1In_ev {x lo hi : Int} : Ev (fun n _ => spec_l1In n x lo hi) (inn x lo hi) := by
  refine ev_succ ?_
  simp only [spec_l1In, ev_cond, ev_some, inn]
  grind
theorem within_ev {x lo hi : Int} : Ev (fun n _ => impl_within n x lo hi) (inn x lo hi) := by
  refine ev_succ ?_
  simp only [impl_within, ev_cond, ev_some, inn]
  grind
section
variable {β : Type} {x lo hi : Int} {g : Nat → Nat → Bool → Option β} {v : β}
theorem l1In_b : Ev (fun n N => (spec_l1In n x lo hi).bind (g n N)) v ↔ Ev (fun n N => g n N (inn x lo hi)) v := ev_bind l1In_ev
theorem within_b : Ev (fun n N => (impl_within n x lo hi).bind (g n N)) v ↔ Ev (fun n N => g n N (inn x lo hi)) v := ev_bind within_ev
theorem isNum_b : Ev (fun n N => (impl_isNum n x).bind (g n N)) v ↔ Ev (fun n N => g n N (inn x (-1000000000) 1000000000)) v :=
  ev_bind (ev_succ (by simp only [impl_isNum, within_b, ev_some]))
end
theorem lt_up {i len : Nat} (h : i < len) : decide ((i : Int) < (len : Int)) = true := by simp; omega
theorem lt_end {len : Nat} : decide ((len : Int) < (len : Int)) = false := by simp
theorem in_up {i len : Nat} (h : i < len) : ((0 : Int) ≤ (i : Int) ∧ (i : Int) < (len : Int)) ↔ True := by simp; omega
end Go.Pi
end
section
set_option linter.unusedVariables false
/-! Lists that are measured, copied, compared, marked and looked at again: each loop once. -/
namespace Go.Pi
abbrev cap : Nat := 1048576
def sumL {α : Type} (f : α → Nat) : List α → Nat
  | [] => 0
  | x :: xs => f x + sumL f xs
def sizeL {α : Type} (f : α → Nat) (l : List α) : Nat := l.length + sumL f l
def lenL {α : Type} (P : α → Prop) (l : List α) : Prop := l.length ≤ topN ∧ ∀ x ∈ l, P x
def szI (_ : Int) : Nat := 0
def szB (s : Bs) : Nat := s.length
def lenI (_ : Int) : Prop := True
def lenB (s : Bs) : Prop := s.length ≤ topN
theorem sumL_drop {α : Type} (f : α → Nat) (d : α) {a : List α} {i : Nat} (h : i < a.length) : sumL f (a.drop i) = f (a.getD i d) + sumL f (a.drop (i + 1)) := by
  rw [drop_step d h]; rfl
theorem sumL_set {α : Type} (f : α → Nat) (x : α) : ∀ (a : List α) (i : Nat), sumL f ((a.set i x).drop (i + 1)) = sumL f (a.drop (i + 1))
  | [], _ => rfl
  | _ :: _, 0 => rfl
  | _ :: a, i + 1 => by simpa using sumL_set f x a i
theorem sumL_le {α : Type} (f : α → Nat) {a : List α} {x : α} (h : x ∈ a) : f x ≤ sumL f a := by
  induction a with
  | nil => cases h
  | cons y a ih =>
    simp only [sumL]
    rcases List.mem_cons.1 h with rfl | h
    · omega
    · have := ih h; omega
theorem sizeL_le {α : Type} (f : α → Nat) {a : List α} {x : α} (h : x ∈ a) : 1 + f x ≤ sizeL f a := by
  unfold sizeL
  have := sumL_le f h
  have := List.length_pos_of_mem h
  omega
theorem sizeL_len {α : Type} (f : α → Nat) (a : List α) : a.length ≤ sizeL f a := by unfold sizeL; omega
theorem sumL_zero {α : Type} (f : α → Nat) (h : ∀ x, f x = 0) : ∀ a : List α, sumL f a = 0
  | [] => rfl
  | x :: a => by simp only [sumL, h, sumL_zero f h a]
theorem take_set {α : Type} (d : α) {a s : List α} {i : Nat} (h : i < a.length) (hs : s.length = a.length) (ht : s.take i = a.take i) : (s.set i (a.getD i d)).take (i + 1) = a.take (i + 1) := by
  rw [List.take_add_one, List.take_add_one, List.take_set_of_le (Nat.le_refl i), ht, List.getElem?_set_self (by omega), List.getD_eq_getElem?_getD, List.getElem?_eq_getElem h]
  rfl
theorem getD_put {α : Type} (d : α) {a : List α} {i : Nat} (h : i < a.length) (x : α) : (a.set i x).getD i d = x := by
  rw [List.getD_eq_getElem?_getD, List.getElem?_set_self h]; rfl
/-- what is left of a size -/
def subS (l : Int) (s : Nat) : Int := if (s : Int) ≤ l then l - s else -1
theorem subS_zero {l : Int} (h : 0 ≤ l) : subS l 0 = l := by unfold subS; rw [if_pos (by omega)]; omega
theorem subS_add {l : Int} {s t : Nat} (h0 : 0 ≤ l) : (subS l s < 0 → subS l (s + t) = -1) ∧ (¬ subS l s < 0 → (0 ≤ subS l s ∧ subS l s ≤ l) ∧ subS (subS l s) t = subS l (s + t)) := by
  unfold subS
  constructor <;> intro h
  · split at h
    · omega
    · rw [if_neg (by omega)]
  · split at h
    · rename_i h1
      rw [if_pos h1]
      refine ⟨by omega, ?_⟩
      by_cases h2 : (t : Int) ≤ l - s
      · rw [if_pos h2, if_pos (by omega)]; omega
      · rw [if_neg h2, if_neg (by omega)]
    · omega
theorem subS_ok {l : Int} {s : Nat} (h : ¬ subS l s < 0) : (s : Int) ≤ l := by
  unfold subS at h; split at h <;> omega
section
variable {α β : Type}
/-- a size behind another -/
theorem ev_sz {f : Nat → Nat → Option Int} {g : Nat → Nat → Int → Option Int} {l : Int} {s t : Nat} (h0 : 0 ≤ l) (h1 : l ≤ 1048576) (h : Ev f (subS l s)) (k : ∀ r, 0 ≤ r → r ≤ 1048576 → Ev (fun n N => g n N r) (subS r t)) :
    Ev (fun n N => (f n N).bind fun x => cond (decide (x < 0)) (some (-1)) (g n N x)) (subS l (s + t)) := by
  rw [ev_bind h, ev_cond]
  obtain ⟨a, b⟩ := subS_add (l := l) (s := s) (t := t) h0
  refine ⟨fun h => ?_, fun h => ?_⟩
  · rw [a (of_decide_eq_true h)]; exact ev_some.2 rfl
  · obtain ⟨⟨b1, b2⟩, b3⟩ := b (of_decide_eq_false h)
    rw [← b3]
    exact k _ b1 (by omega)
theorem ev_szE {l : Int} (h : 0 ≤ l) : Ev (fun _ _ => some l) (subS l 0) := by rw [subS_zero h]; exact ev_some.2 rfl
/-- the length comes off first -/
theorem ev_szL {l : Int} {m t : Nat} (h0 : 0 ≤ l) (h1 : l ≤ 1048576) (hm : m ≤ topN) {g : Nat → Nat → Int → Option Int} (k : ∀ r, 0 ≤ r → r ≤ 1048576 → Ev (fun n N => g n N r) (subS r t)) :
    Ev (fun n N => cond (decide (W (l - (m : Int)) < 0)) (some (-1)) (g n N (W (l - (m : Int))))) (subS l (m + t)) := by
  simp only [topN] at hm
  rw [W_id (by omega) (by omega)]
  have e : l - (m : Int) < 0 ∨ l - m = subS l m := by unfold subS; split <;> omega
  rw [ev_cond]
  refine ⟨fun h => ?_, fun h => ?_⟩
  · have h := of_decide_eq_true h
    rw [(subS_add h0).1 (by unfold subS; rw [if_neg (by omega)]; omega)]
    exact ev_some.2 rfl
  · have h := of_decide_eq_false h
    have e := e.resolve_left h
    have := (subS_add (l := l) (s := m) (t := t) h0).2 (by rw [← e]; exact h)
    rw [← this.2, ← e]
    exact k _ (by omega) (by omega)
theorem ev_szI {l : Int} {m : Nat} (h0 : 0 ≤ l) (h1 : l ≤ 1048576) (hm : m ≤ topN) :
    Ev (fun _ _ => cond (decide (W (l - (m : Int)) < 0)) (some (-1)) (some (W (l - (m : Int))))) (subS l m) :=
  ev_szL (t := 0) (g := fun _ _ x => some x) h0 h1 hm fun r a b => ev_szE a
theorem sz_list (d : α) (f : α → Nat) (L : Nat → Nat → Int → Nat → Option Int) (a : List α)
    (h1 : ∀ i l, i < a.length → 0 ≤ l → l ≤ 1048576 → ∀ t, (∀ r, 0 ≤ r → r ≤ 1048576 → Ev (fun n N => L n N r (i + 1)) (subS r t)) → Ev (fun n N => L n (N + 1) l i) (subS l (f (a.getD i d) + t)))
    (h2 : ∀ l, Ev (fun n N => L n (N + 1) l a.length) l) (l : Int) (hl : 0 ≤ l) (hl' : l ≤ 1048576) : Ev (fun n _ => L n n l 0) (subS l (sumL f a)) := by
  have key : ∀ j i, j + i = a.length → ∀ l, 0 ≤ l → l ≤ 1048576 → Ev (fun n N => L n N l i) (subS l (sumL f (a.drop i))) := by
    intro j
    induction j with
    | zero =>
      intro i hi l h0 _
      rw [drop_end (by omega)]
      refine ev_round ?_
      have : i = a.length := by omega
      subst this
      rw [show sumL f [] = 0 from rfl, subS_zero h0]
      exact h2 l
    | succ j ih =>
      intro i hi l h0 h1'
      rw [sumL_drop f d (by omega)]
      exact ev_round (h1 i l (by omega) h0 h1' _ fun r a b => ih (i + 1) (by omega) r a b)
  have := key a.length 0 (by omega) l hl hl'
  rw [List.drop_zero] at this
  exact ev_diag (f := fun n N => L n N l 0) this
theorem ev_copy (d : α) (a : List α) (L : Nat → Nat → Nat → List α → Option (List α))
    (h1 : ∀ i s, i < a.length → s.length = a.length → Ev (fun n N => L n N (i + 1) (s.set i (a.getD i d))) a → Ev (fun n N => L n (N + 1) i s) a)
    (h2 : Ev (fun n N => L n (N + 1) a.length a) a) (s : List α) (hs : s.length = a.length) : Ev (fun n _ => L n n 0 s) a := by
  refine ev_up L (fun _ _ => a) (fun i s => s.length = a.length ∧ s.take i = a.take i) a.length (fun i s hI hi k => ?_) s ⟨hs, by simp⟩
  by_cases h : i < a.length
  · exact h1 i s h hI.1 (k _ ⟨by simp [hI.1], take_set d h hI.1 hI.2⟩ h)
  · have e : i = a.length := by omega
    subst e
    have : s = a := by
      have := hI.2
      rwa [List.take_of_length_le (by omega), List.take_of_length_le (Nat.le_refl _)] at this
    subst this
    exact h2
/-- a list that is marked, and what is found in it then -/
def Mk (f : Nat → Nat → Option (Int × α)) (g : Nat → Nat → α → Option Int) (k : Int) (m : Nat) (P : α → Prop) : Prop :=
  ∃ k' a', k ≤ k' ∧ k' ≤ k + 32 * m ∧ Ev f (k', a') ∧ Ev (fun n N => g n N a') k' ∧ P a'
theorem mark_list (d : α) (f : α → Nat) (LM : Nat → Nat → Int → Nat → List α → Option (Int × List α)) (LH : Nat → Nat → List α → Int → Nat → Option Int)
    (hm : ∀ i (a : List α) (k : Int), i < a.length → a.length ≤ topN → 0 ≤ k → k + 32 * (1 + f (a.getD i d) : Nat) ≤ topN →
      ∃ k' x', k ≤ k' ∧ k' ≤ k + 32 * (1 + f (a.getD i d) : Nat) ∧ (∀ F, Ev (fun n N => LM n N k' (i + 1) (a.set i x')) F → Ev (fun n N => LM n (N + 1) k i a) F) ∧
        ∀ (b : List α) F, i < b.length → b.length ≤ topN → b.getD i d = x' → Ev (fun n N => LH n N b k' (i + 1)) F → Ev (fun n N => LH n (N + 1) b k i) F)
    (em : ∀ (a : List α) k, Ev (fun n N => LM n (N + 1) k a.length a) (k, a)) (eh : ∀ (a : List α) k, Ev (fun n N => LH n (N + 1) a k a.length) k)
    (a : List α) (k : Int) (ha : a.length ≤ topN) (hk : 0 ≤ k) (hb : k + 32 * (sizeL f a : Nat) ≤ topN) :
    ∃ k' a', k ≤ k' ∧ k' ≤ k + 32 * (sizeL f a : Nat) ∧ a'.length = a.length ∧ Ev (fun n _ => LM n n k 0 a) (k', a') ∧ Ev (fun n _ => LH n n a' k 0) k' := by
  have key : ∀ j i (a : List α) (k : Int), j + i = a.length → a.length ≤ topN → 0 ≤ k → k + 32 * ((j + sumL f (a.drop i) : Nat) : Int) ≤ topN →
      ∃ k' a', k ≤ k' ∧ k' ≤ k + 32 * ((j + sumL f (a.drop i) : Nat) : Int) ∧ a'.length = a.length ∧ a'.take i = a.take i ∧ Ev (fun n N => LM n N k i a) (k', a') ∧ Ev (fun n N => LH n N a' k i) k' := by
    intro j
    induction j with
    | zero =>
      intro i a k hi _ hk _
      have : i = a.length := by omega
      subst this
      exact ⟨k, a, by omega, by omega, rfl, rfl, ev_round (em a k), ev_round (eh a k)⟩
    | succ j ih =>
      intro i a k hi ha hk hb
      rw [sumL_drop f d (by omega)] at hb ⊢
      obtain ⟨k1, x', p1, p2, p3, p4⟩ := hm i a k (by omega) ha hk (by omega)
      obtain ⟨k2, a', q1, q2, q3, q4, q5, q6⟩ := ih (i + 1) (a.set i x') k1 (by rw [List.length_set]; omega) (by rw [List.length_set]; exact ha) (by omega) (by rw [sumL_set]; omega)
      rw [sumL_set] at q2
      rw [List.length_set] at q3
      have hlt : i < a'.length := by omega
      have hx : a'.getD i d = x' := by
        have e := congrArg (fun l => l[i]?) q4
        simp only [List.getElem?_take, if_pos (Nat.lt_succ_self i), List.getElem?_set_self (show i < a.length by omega)] at e
        rw [List.getD_eq_getElem?_getD, e]; rfl
      refine ⟨k2, a', by omega, by omega, q3, ?_, ev_round (p3 _ q5), ev_round (p4 a' k2 hlt (by omega) hx q6)⟩
      have e := congrArg (List.take i) q4
      simp only [List.take_take, Nat.min_eq_left (Nat.le_succ i), List.take_set_of_le (Nat.le_refl i)] at e
      exact e
  obtain ⟨k', a', h1, h2, h3, _, h5, h6⟩ := key a.length 0 a k (by omega) ha hk (by rw [List.drop_zero]; unfold sizeL at hb; omega)
  refine ⟨k', a', h1, by rw [List.drop_zero] at h2; unfold sizeL; omega, h3, ev_diag (f := fun n N => LM n N k 0 a) h5, ev_diag (f := fun n N => LH n N a' k 0) h6⟩
/-- the same of a list at which nobody looks again -/
theorem mark_list1 (d : α) (f : α → Nat) (LM : Nat → Nat → Int → Nat → List α → Option (Int × List α))
    (hm : ∀ i (a : List α) (k : Int), i < a.length → a.length ≤ topN → 0 ≤ k → k + 32 * (1 + f (a.getD i d) : Nat) ≤ topN →
      ∃ k' x', k ≤ k' ∧ k' ≤ k + 32 * (1 + f (a.getD i d) : Nat) ∧ (∀ F, Ev (fun n N => LM n N k' (i + 1) (a.set i x')) F → Ev (fun n N => LM n (N + 1) k i a) F))
    (em : ∀ (a : List α) k, Ev (fun n N => LM n (N + 1) k a.length a) (k, a))
    (a : List α) (k : Int) (ha : a.length ≤ topN) (hk : 0 ≤ k) (hb : k + 32 * (sizeL f a : Nat) ≤ topN) :
    ∃ k' a', k ≤ k' ∧ k' ≤ k + 32 * (sizeL f a : Nat) ∧ a'.length = a.length ∧ Ev (fun n _ => LM n n k 0 a) (k', a') ∧ True := by
  have key : ∀ j i (a : List α) (k : Int), j + i = a.length → a.length ≤ topN → 0 ≤ k → k + 32 * ((j + sumL f (a.drop i) : Nat) : Int) ≤ topN →
      ∃ k' a', k ≤ k' ∧ k' ≤ k + 32 * ((j + sumL f (a.drop i) : Nat) : Int) ∧ a'.length = a.length ∧ Ev (fun n N => LM n N k i a) (k', a') := by
    intro j
    induction j with
    | zero =>
      intro i a k hi _ hk _
      have : i = a.length := by omega
      subst this
      exact ⟨k, a, by omega, by omega, rfl, ev_round (em a k)⟩
    | succ j ih =>
      intro i a k hi ha hk hb
      rw [sumL_drop f d (by omega)] at hb ⊢
      obtain ⟨k1, x', p1, p2, p3⟩ := hm i a k (by omega) ha hk (by omega)
      obtain ⟨k2, a', q1, q2, q3, q5⟩ := ih (i + 1) (a.set i x') k1 (by rw [List.length_set]; omega) (by rw [List.length_set]; exact ha) (by omega) (by rw [sumL_set]; omega)
      rw [sumL_set] at q2
      rw [List.length_set] at q3
      exact ⟨k2, a', by omega, by omega, q3, ev_round (p3 _ q5)⟩
  obtain ⟨k', a', h1, h2, h3, h5⟩ := key a.length 0 a k (by omega) ha hk (by rw [List.drop_zero]; unfold sizeL at hb; omega)
  exact ⟨k', a', h1, by rw [List.drop_zero] at h2; unfold sizeL; omega, h3, ev_diag (f := fun n N => LM n N k 0 a) h5, trivial⟩
end
theorem W_next {k : Int} (h : 0 ≤ k) (h' : k + 1 ≤ topN) : W (k + 1) = k + 1 := W_id (by omega) (by simp only [topN] at h'; omega)
end Go.Pi
end
section
set_option linter.unusedVariables false
set_option maxRecDepth 100000
set_option linter.unusedSimpArgs false
namespace Go.Pi
/-! loops, once and for all -/
theorem W_dn {i : Nat} (h : i ≤ topN) : W ((i : Int) - 1) = (i : Int) - 1 := by
  rw [W_id (by omega) (by simp only [topN] at h; omega)]
theorem toNat_dn {i : Nat} : ((i : Int) - 1).toNat = i - 1 := by omega
theorem inn_true {x lo hi : Int} (h : inn x lo hi = true) : lo ≤ x ∧ x ≤ hi := inn_iff.1 h
def foldFrom {α : Type} (s : Nat → α → α) (v : α) : Nat → Nat → α
  | 0, _ => v
  | d + 1, i => s i (foldFrom s v d (i + 1))
theorem ev_fold {α : Type} (L : Nat → Nat → Nat → Option α) (s : Nat → α → α) {len : Nat} {v : α}
    (h : ∀ i w, i < len → Ev (fun n N => L n N (i + 1)) w → Ev (fun n N => L n (N + 1) i) (s i w)) (h2 : Ev (fun n N => L n (N + 1) len) v) :
    Ev (fun n _ => L n n 0) (foldFrom s v len 0) := by
  have key : ∀ d i, d + i = len → Ev (fun n N => L n N i) (foldFrom s v d i) := by
    intro d
    induction d with
    | zero => intro i hd; obtain rfl : i = len := by omega
              exact ev_round (f := fun n N => L n N i) h2
    | succ d ih => intro i hd
                   exact ev_round (f := fun n N => L n N i) (h i _ (by omega) (ih (i + 1) (by omega)))
  exact ev_diag (f := fun n N => L n N 0) (key len 0 (by omega))
theorem ev_roomB {α : Type} {n b : Nat} {f : Nat → Nat → Option α} {v : α} : Ev (fun m N => roomB n b (f m N)) v ↔ n * b ≤ 140737488355328 ∧ Ev f v := by
  unfold roomB
  rw [ev_cond]
  by_cases h : n * b ≤ 140737488355328 <;> simp [h, ev_none]
theorem ev_map {α β γ : Type} (d : α) (a : List α) (f : α → β) (L : Nat → Nat → Nat → List β → Option γ) (v : γ)
    (h1 : ∀ i s, i < a.length → s.length = i → ∀ F, Ev (fun n N => L n N (i + 1) (s ++ [f (a.getD i d)])) F → Ev (fun n N => L n (N + 1) i s) F)
    (h2 : Ev (fun n N => L n (N + 1) a.length (a.map f)) v) : Ev (fun n _ => L n n 0 []) v := by
  have key : ∀ j i, j + i = a.length → Ev (fun n N => L n N i ((a.take i).map f)) v := by
    intro j
    induction j with
    | zero =>
      intro i hi
      have : i = a.length := by omega
      subst this
      rw [List.take_of_length_le (Nat.le_refl _)]
      exact ev_round h2
    | succ j ih =>
      intro i hi
      refine ev_round (h1 i _ (by omega) (by simp; omega) _ ?_)
      have := ih (i + 1) (by omega)
      rw [List.take_add_one, List.map_append] at this
      have e : a[i]?.toList = [a.getD i d] := by
        rw [List.getD_eq_getElem?_getD, List.getElem?_eq_getElem (by omega)]; rfl
      rw [e] at this
      exact this
  have := key a.length 0 (by omega)
  exact ev_diag (f := fun n N => L n N 0 []) this
abbrev capR : Nat := 1073741824
theorem ev_seq {α γ : Type} (S : Nat → α) (len : Nat) (L : Nat → Nat → Nat → α → Option γ) (v : γ)
    (h1 : ∀ i, i < len → ∀ F, Ev (fun n N => L n N (i + 1) (S (i + 1))) F → Ev (fun n N => L n (N + 1) i (S i)) F)
    (h2 : Ev (fun n N => L n (N + 1) len (S len)) v) : Ev (fun n _ => L n n 0 (S 0)) v := by
  have key : ∀ j i, j + i = len → Ev (fun n N => L n N i (S i)) v := by
    intro j
    induction j with
    | zero =>
      intro i hi
      have : i = len := by omega
      subst this
      exact ev_round h2
    | succ j ih => exact fun i hi => ev_round (h1 i (by omega) _ (ih (i + 1) (by omega)))
  exact ev_diag (f := fun n N => L n N 0 (S 0)) (key len 0 (by omega))
theorem take_next {α : Type} (d : α) {a : List α} {i : Nat} (h : i < a.length) : a.take (i + 1) = a.take i ++ [a.getD i d] := by
  rw [List.take_add_one, List.getD_eq_getElem?_getD, List.getElem?_eq_getElem h]; rfl
theorem foldFrom_idx {α : Type} (d : α) (P : α → Bool) : ∀ (rows : List α), foldFrom (fun i (x : Int) => cond (P (rows.getD i d)) (i : Int) x) (-1) rows.length 0 = if rows.findIdx P < rows.length then (rows.findIdx P : Int) else -1 := by
  intro rows
  have key : ∀ j i, j + i = rows.length → (∀ k, k < i → P (rows.getD k d) = false) → foldFrom (fun i (x : Int) => cond (P (rows.getD i d)) (i : Int) x) (-1) j i = if rows.findIdx P < rows.length then (rows.findIdx P : Int) else -1 := by
    intro j
    induction j with
    | zero =>
      intro i hi hk
      have : ¬ rows.findIdx P < rows.length := by
        intro h
        have h1 := List.findIdx_getElem (w := h)
        have h2 := hk _ (show rows.findIdx P < i by omega)
        rw [List.getD_eq_getElem?_getD, List.getElem?_eq_getElem h] at h2
        simp only [Option.getD_some] at h2
        rw [h1] at h2; cases h2
      rw [if_neg this]; rfl
    | succ j ih =>
      intro i hi hk
      simp only [foldFrom]
      cases hp : P (rows.getD i d) with
      | true =>
        have hlt : i < rows.length := by omega
        rw [List.getD_eq_getElem?_getD, List.getElem?_eq_getElem hlt] at hp
        have e : rows.findIdx P = i := by
          apply Nat.le_antisymm
          · exact Nat.le_of_not_lt fun h => by have := List.not_of_lt_findIdx h; rw [Option.getD_some] at hp; rw [hp] at this; cases this
          · exact Nat.le_of_not_lt fun h => by
              have h2 := hk _ h
              have hl : rows.findIdx P < rows.length := by omega
              rw [List.getD_eq_getElem?_getD, List.getElem?_eq_getElem hl] at h2
              rw [Option.getD_some, List.findIdx_getElem (w := hl)] at h2; cases h2
        rw [e, if_pos hlt]; rfl
      | false =>
        rw [cond_false]
        exact ih (i + 1) (by omega) fun k hk' => by
          by_cases e : k = i
          · subst e; exact hp
          · exact hk k (by omega)
  exact key rows.length 0 (by omega) fun k hk => by omega
theorem ev_cutB {α : Type} {lo hi : Int} {len : Nat} {f : Nat → Nat → Option α} {v : α} : Ev (fun n N => cutB lo hi len (f n N)) v ↔ (0 ≤ lo ∧ lo ≤ hi ∧ hi ≤ (len : Int)) ∧ Ev f v := by
  unfold cutB
  simp only [ev_cond, ev_none]
  by_cases h1 : 0 ≤ lo <;> by_cases h2 : lo ≤ hi <;> by_cases h3 : hi ≤ (len : Int) <;> simp [h1, h2, h3]
theorem allN_iff {p : Nat → Bool} {len : Nat} : allN p len = true ↔ ∀ i, i < len → p i = true := by
  have key : ∀ d i, d + i = len → (allFrom p d i = true ↔ ∀ k, i ≤ k → k < len → p k = true) := by
    intro d
    induction d with
    | zero => intro i hi; simp only [allFrom, true_iff]; intro k h1 h2; omega
    | succ d ih =>
      intro i hi
      simp only [allFrom, Bool.and_eq_true, ih (i + 1) (by omega)]
      constructor
      · rintro ⟨h1, h2⟩ k h3 h4
        by_cases e : k = i
        · subst e; exact h1
        · exact h2 k (by omega) h4
      · exact fun h => ⟨h i (Nat.le_refl _) (by omega), fun k h1 h2 => h k (by omega) h2⟩
  have := key len 0 (by omega)
  unfold allN
  rw [this]
  exact ⟨fun h i hi => h i (Nat.zero_le _) hi, fun h i _ hi => h i hi⟩
end Go.Pi
end
section
set_option linter.unusedVariables false
set_option maxRecDepth 100000
set_option linter.unusedSimpArgs false
namespace Go.Pi
/-! JSON values that are right -/
theorem json_re (j : TJson) : TJson.re j = j := by cases j; rfl
def FText (s : Bs) : Bool := allN (fun i => inn ((s.getD i 0).toNat : Int) 32 126) s.length && decide ((s.length : Int) ≤ 60)
theorem byte_W (b : UInt8) : W ((b.toNat : Int)) = (b.toNat : Int) := W_id (by omega) (by have := b.toNat_lt; omega)
theorem spec_l1Text_ev {s : Bs} (hs : s.length ≤ topN) : Ev (fun n _ => spec_l1Text n s) (FText s) := by
  refine ev_succ ?_
  simp only [spec_l1Text]
  refine ev_all (fun n N i => spec_l1Text.loop3 n (fun xy1 => (some (decide ((xy1.length : Int) ≤ 60)))) N s (i : Int)) _ (fun i w hi ih => ?_) ?_
  · simp only [spec_l1Text.turn3, spec_l1Text.step3, Int.toNat_natCast, ev_cond, ev_inB, ev_some, W_up hi hs, ev_iff ih, lt_up hi, in_up hi]
    clear ih
    simp only [inn]
    by_cases h1 : (((s.getD i 0).toNat : Nat) : Int) < 32 <;> by_cases h2 : (((s.getD i 0).toNat : Nat) : Int) > 126 <;> simp [h1, h2] <;> (intros; omega)
  · simp only [spec_l1Text.turn3, spec_l1Text.step3, lt_end, cond_false, ev_some]
theorem impl_textOk_ev {s : Bs} (hs : s.length ≤ topN) : Ev (fun n _ => impl_textOk n s) (FText s) := by
  refine ev_succ ?_
  simp only [impl_textOk]
  refine ev_all (fun n N i => impl_textOk.loop3 n (fun xy1 => (some (decide ((xy1.length : Int) ≤ 60)))) N s (s.length : Int) (i : Int)) _ (fun i w hi ih => ?_) ?_
  · simp only [impl_textOk.turn3, impl_textOk.step3, Int.toNat_natCast, ev_cond, ev_inB, within_b, byte_W, ev_some, W_up hi hs, ev_iff ih, lt_up hi, in_up hi]
    clear ih
    grind
  · simp only [impl_textOk.turn3, impl_textOk.step3, lt_end, cond_false, ev_some]
def lenNs (c : Nat) (l : List Bs) : Prop := l.length ≤ c ∧ ∀ x ∈ l, x.length ≤ c
theorem getD_text {c : Nat} {l : List Bs} (h : lenNs c l) (i : Nat) : (l.getD i []).length ≤ c := by
  by_cases hi : i < l.length
  · exact h.2 _ (getD_mem [] hi)
  · rw [List.getD_eq_getElem?_getD, List.getElem?_eq_none (by omega)]; exact Nat.zero_le _
def FNames (l : List Bs) : Bool := allN (fun i => FText (l.getD i []) && (decide (i = 0) || Op.bytesLess (l.getD (i - 1) []) (l.getD i []))) l.length
theorem impl_namesOk_ev {l : List Bs} (h : lenNs topN l) : Ev (fun n _ => impl_namesOk n l) (FNames l) := by
  refine ev_succ ?_
  simp only [impl_namesOk]
  refine ev_congr (ev_all (fun n N i => impl_namesOk.loop3 n (some true) N l l (l.length : Int) (i : Int)) (fun i => FText (l.getD i []) && (decide (i = 0) || Op.bytesLess (l.getD (i - 1) []) (l.getD i []))) (len := l.length) (v := true) (fun i w hi ih => ?_) ?_) (by rw [Bool.and_true]; rfl)
  · simp only [impl_namesOk.turn3, impl_namesOk.step3, Int.toNat_natCast, W_up hi h.1, W_dn (i := i) (by have := h.1; omega), toNat_dn, ev_cond, ev_inB, ev_bind (impl_textOk_ev (getD_text h i)), ev_some, ev_iff ih, lt_up hi, in_up hi]
    clear ih
    repeat' (first | apply And.intro | intro _)
    all_goals (try rw [Bool.eq_iff_iff])
    all_goals (try simp only [Bool.not_eq_true', Bool.not_eq_false', decide_eq_true_eq, decide_eq_false_iff_not, Bool.and_eq_true, Bool.or_eq_true, Bool.and_eq_false_iff, Bool.or_eq_false_iff] at *)
    all_goals grind
  · simp only [impl_namesOk.turn3, impl_namesOk.step3, lt_end, cond_false, ev_some]
def FNamesJ (j : TJson) : Bool := cond (j.kind != 5) ((j.names.length : Int) == 0) (FNames j.names && ((j.names.length : Int) == (j.list.length : Int)))
theorem spec_l1Names_ev {j : TJson} (h : lenNs topN j.names) : Ev (fun n _ => spec_l1Names n j) (FNamesJ j) := by
  refine ev_succ ?_
  have hl : Ev (fun n _ => spec_l1Names.loop6 n (fun xy2 xy3 xy4 xy5 xy6 => (some ((xy6.length : Int) == (xy5.length : Int)))) n 0 j.kind j.n_ j.s j.list j.names) (FNames j.names && ((j.names.length : Int) == (j.list.length : Int))) := by
    refine ev_all (fun n N i => spec_l1Names.loop6 n (fun xy2 xy3 xy4 xy5 xy6 => (some ((xy6.length : Int) == (xy5.length : Int)))) N (i : Int) j.kind j.n_ j.s j.list j.names) _ (fun i w hi ih => ?_) ?_
    · simp only [spec_l1Names.turn6, spec_l1Names.step6, Int.toNat_natCast, W_up hi h.1, W_dn (i := i) (by have := h.1; omega), toNat_dn, ev_cond, ev_inB, ev_bind (spec_l1Text_ev (getD_text h i)), ev_some, ev_iff ih, lt_up hi, in_up hi]
      clear ih
      repeat' (first | apply And.intro | intro _)
      all_goals (try rw [Bool.eq_iff_iff])
      all_goals (try simp only [Bool.not_eq_true', Bool.not_eq_false', decide_eq_true_eq, decide_eq_false_iff_not, Bool.and_eq_true, Bool.or_eq_true, Bool.and_eq_false_iff, Bool.or_eq_false_iff] at *)
      all_goals grind
    · simp only [spec_l1Names.turn6, spec_l1Names.step6, lt_end, cond_false, ev_some]
  simp only [spec_l1Names, ev_cond, ev_some, ev_iff hl, FNamesJ]
  cases (j.kind != 5) <;> simp
end Go.Pi
end
section
set_option linter.unusedVariables false
set_option maxRecDepth 100000
set_option linter.unusedSimpArgs false
namespace Go.Pi
/-! texts in marks, ways az texts -/
def bi (l : Bs) : List Int := l.map fun c => ((c.toNat : Nat) : Int)
theorem toBs_bi (l : Bs) : toBs (bi l) = l := by
  unfold toBs bi
  rw [List.map_map]
  refine (List.map_congr_left fun c _ => ?_).trans (List.map_id l)
  simp
theorem bi_len (l : Bs) : (bi l).length = l.length := List.length_map _
theorem bi_app (a b : Bs) : bi (a ++ b) = bi a ++ bi b := List.map_append
theorem byteEq (c : UInt8) (k : Nat) (d : UInt8) (hd : d.toNat = k) : (((c.toNat : Nat) : Int) == (k : Int)) = decide (c = d) := by
  by_cases h : c = d
  · subst h; rw [hd]; simp
  · rw [decide_eq_false h, beq_eq_false_iff_ne]
    intro e
    exact h (UInt8.toNat_inj.1 (by omega))
theorem byte34 (c : UInt8) : (((c.toNat : Nat) : Int) == 34) = decide (c = 34) := byteEq c 34 34 rfl
theorem byte92 (c : UInt8) : (((c.toNat : Nat) : Int) == 92) = decide (c = 92) := byteEq c 92 92 rfl
theorem byte126 (c : UInt8) : (((c.toNat : Nat) : Int) == 126) = decide (c = 126) := byteEq c 126 126 rfl
theorem byte47 (c : UInt8) : (((c.toNat : Nat) : Int) == 47) = decide (c = 47) := byteEq c 47 47 rfl
theorem flat_len (f : UInt8 → Bs) (h : ∀ c, (f c).length ≤ 2) : ∀ s : Bs, (s.flatMap f).length ≤ 2 * s.length
  | [] => Nat.le_refl _
  | c :: s => by
    have := flat_len f h s
    have := h c
    simp only [List.flatMap_cons, List.length_append, List.length_cons]; omega
theorem flat_next (f : UInt8 → Bs) {s : Bs} {i : Nat} (h : i < s.length) : (s.take (i + 1)).flatMap f = (s.take i).flatMap f ++ f (s.getD i 0) := by
  rw [take_next 0 h, List.flatMap_append]; simp
/-- a byte in marks -/
def qesc (c : UInt8) : Bs := if c = 34 ∨ c = 92 then [92, c] else [c]
theorem qesc_len (c : UInt8) : (qesc c).length ≤ 2 := by unfold qesc; split <;> simp
def FQuote (s : Bs) : Bs := 34 :: s.flatMap qesc ++ [34]
theorem FQuote_len (s : Bs) : (FQuote s).length ≤ 2 * s.length + 2 := by
  have := flat_len qesc qesc_len s
  simp only [FQuote, List.cons_append, List.length_cons, List.length_append, List.length_nil]; omega
theorem q2 (o : Bs) (c : UInt8) : bi (34 :: (o ++ [92, c])) = (bi (34 :: o) ++ [92]) ++ [((c.toNat : Nat) : Int)] := by simp [bi]
theorem q1 (o : Bs) (c : UInt8) : bi (34 :: (o ++ [c])) = bi (34 :: o) ++ [((c.toNat : Nat) : Int)] := by simp [bi]
theorem qEnd (o : Bs) : toBs (bi (34 :: o) ++ [34]) = 34 :: o ++ [34] := by
  have : bi (34 :: o) ++ [34] = bi (34 :: o ++ [34]) := by simp [bi]
  rw [this, toBs_bi]
theorem spec_l2Quote_ev {s : Bs} (hs : s.length ≤ 1000000) : Ev (fun n _ => spec_l2Quote n s) (FQuote s) := by
  refine ev_succ ?_
  have ht : s.length ≤ topN := by simp only [topN]; omega
  simp only [spec_l2Quote]
  have := ev_seq (fun i => bi (34 :: (s.take i).flatMap qesc)) s.length (fun n N i (o : List Int) => spec_l2Quote.loop4 n (fun xy1 => (roomB (xy1.length + ([34] : List Int).length) 1 (some (toBs (xy1 ++ ([34] : List Int)))))) N s (i : Int) o) (FQuote s) (fun i hi F hF => ?_) ?_
  · exact this
  · have hl := flat_len qesc qesc_len (s.take i)
    rw [List.length_take] at hl
    rw [flat_next qesc hi] at hF
    generalize (s.take i).flatMap qesc = o at hF hl ⊢
    have hb := bi_len (34 :: o)
    simp only [List.length_cons] at hb
    simp only [spec_l2Quote.turn4, spec_l2Quote.step4, Int.toNat_natCast, W_up hi ht, ev_cond, ev_inB, ev_roomB, lt_up hi, in_up hi, byte34, byte92]
    generalize s.getD i 0 = c at hF ⊢
    unfold qesc at hF
    by_cases h1 : c = 34
    · rw [if_pos (.inl h1), q2] at hF
      simp only [h1, decide_true] at hF ⊢
      repeat' (first | apply And.intro | intro _)
      all_goals (first | contradiction | exact hF | trivial | (simp [hb]; omega))
    · by_cases h2 : c = 92
      · rw [if_pos (.inr h2), q2] at hF
        simp only [h2, decide_true] at hF ⊢
        repeat' (first | apply And.intro | intro _)
        all_goals (first | contradiction | exact hF | trivial | (simp [hb]; omega))
      · rw [if_neg (fun h => h.elim h1 h2), q1] at hF
        simp only [h1, h2, decide_false] at hF ⊢
        repeat' (first | apply And.intro | intro _)
        all_goals (first | contradiction | exact hF | trivial | (simp [hb]; omega))
  · have hl := flat_len qesc qesc_len s
    have hb := bi_len (34 :: s.flatMap qesc)
    simp only [List.length_cons] at hb
    simp only [spec_l2Quote.turn4, spec_l2Quote.step4, lt_end, cond_false, ev_roomB, List.take_length, ev_some, qEnd]
    exact ⟨by simp only [hb, List.length_cons, List.length_nil]; omega, rfl⟩
theorem impl_quoted_ev {s : Bs} (hs : s.length ≤ 1000000) : Ev (fun n _ => impl_quoted n s) (FQuote s) := by
  refine ev_succ ?_
  have ht : s.length ≤ topN := by simp only [topN]; omega
  simp only [impl_quoted]
  have := ev_seq (fun i => bi (34 :: (s.take i).flatMap qesc)) s.length (fun n N i (o : List Int) => impl_quoted.loop4 n (fun xy1 => (roomB (xy1.length + ([34] : List Int).length) 1 (some (toBs (xy1 ++ ([34] : List Int)))))) N s (s.length : Int) (i : Int) o) (FQuote s) (fun i hi F hF => ?_) ?_
  · exact this
  · have hl := flat_len qesc qesc_len (s.take i)
    rw [List.length_take] at hl
    rw [flat_next qesc hi] at hF
    generalize (s.take i).flatMap qesc = o at hF hl ⊢
    have hb := bi_len (34 :: o)
    simp only [List.length_cons] at hb
    simp only [impl_quoted.turn4, impl_quoted.step4, Int.toNat_natCast, W_up hi ht, ev_cond, ev_inB, ev_roomB, lt_up hi, in_up hi, byte34, byte92]
    generalize s.getD i 0 = c at hF ⊢
    unfold qesc at hF
    by_cases h1 : c = 34
    · rw [if_pos (.inl h1), q2] at hF
      simp only [h1, decide_true] at hF ⊢
      repeat' (first | apply And.intro | intro _)
      all_goals (first | contradiction | exact hF | trivial | (simp [hb]; omega))
    · by_cases h2 : c = 92
      · rw [if_pos (.inr h2), q2] at hF
        simp only [h2, decide_true] at hF ⊢
        repeat' (first | apply And.intro | intro _)
        all_goals (first | contradiction | exact hF | trivial | (simp [hb]; omega))
      · rw [if_neg (fun h => h.elim h1 h2), q1] at hF
        simp only [h1, h2, decide_false] at hF ⊢
        repeat' (first | apply And.intro | intro _)
        all_goals (first | contradiction | exact hF | trivial | (simp [hb]; omega))
  · have hl := flat_len qesc qesc_len s
    have hb := bi_len (34 :: s.flatMap qesc)
    simp only [List.length_cons] at hb
    simp only [impl_quoted.turn4, impl_quoted.step4, lt_end, cond_false, ev_roomB, List.take_length, ev_some, qEnd]
    exact ⟨by simp only [hb, List.length_cons, List.length_nil]; omega, rfl⟩
end Go.Pi
end
section
set_option linter.unusedVariables false
set_option maxRecDepth 100000
set_option linter.unusedSimpArgs false
namespace Go.Pi
/-! one byte put for another, everywhere -/
theorem index_cons (a b : UInt8) (l : Bs) : Lib.index (b :: l) [a] = if a = b then 0 else if Lib.index l [a] = -1 then -1 else Lib.index l [a] + 1 := by
  rw [Lib.index]
  have : List.isPrefixOf [a] (b :: l) = decide (a = b) := by
    simp only [List.isPrefixOf, Bool.and_true]
    exact Bool.eq_iff_iff.2 (by simp)
  rw [this]
  by_cases h : a = b
  · rw [decide_eq_true h, if_pos rfl, if_pos h]
  · rw [decide_eq_false h, if_neg (by simp), if_neg h]
    by_cases h2 : Lib.index l [a] = -1
    · rw [h2, if_pos rfl, if_pos (by decide)]
    · rw [if_neg h2, if_neg (by simpa using h2)]
theorem replaceK_ne {a b : UInt8} (h : a ≠ b) (new l : Bs) : ∀ k, Lib.replaceK [a] new k (b :: l) = b :: Lib.replaceK [a] new k l
  | 0 => rfl
  | k + 1 => by
    rw [Lib.replaceK, Lib.replaceK, index_cons, if_neg h]
    by_cases h2 : Lib.index l [a] = -1
    · rw [if_pos h2, if_pos (by decide), h2, if_pos (by decide)]
    · have := Lib.index_ge l [a]
      obtain ⟨i, hi⟩ : ∃ i : Nat, Lib.index l [a] = i := ⟨(Lib.index l [a]).toNat, by omega⟩
      rw [if_neg h2, if_neg (by rw [hi]; simp <;> omega), if_neg (by rw [hi]; simp <;> omega), hi, show ((i : Int) + 1).toNat = i + 1 by omega, show ((i : Int)).toNat = i by omega]
      rfl
theorem replaceK_eq (a : UInt8) (new l : Bs) (k : Nat) : Lib.replaceK [a] new (k + 1) (a :: l) = new ++ Lib.replaceK [a] new k l := by
  rw [Lib.replaceK, index_cons, if_pos rfl, if_neg (by decide)]
  rfl
theorem replaceK_all (a : UInt8) (new : Bs) : ∀ (s : Bs) (k : Nat), s.count a ≤ k → Lib.replaceK [a] new k s = s.flatMap fun c => if c = a then new else [c]
  | [], 0, _ => rfl
  | [], k + 1, _ => by
    rw [Lib.replaceK]
    have : Lib.index [] [a] = -1 := rfl
    rw [this, if_pos (by decide)]; rfl
  | b :: l, k, h => by
    by_cases e : b = a
    · subst e
      rw [List.count_cons_self] at h
      obtain ⟨k, rfl⟩ : ∃ m, k = m + 1 := ⟨k - 1, by omega⟩
      rw [replaceK_eq, replaceK_all b new l k (by omega), List.flatMap_cons, if_pos rfl]
    · rw [List.count_cons_of_ne e] at h
      rw [replaceK_ne (fun h => e h.symm), replaceK_all a new l k h, List.flatMap_cons, if_neg e]; rfl
theorem countFrom_all (a : UInt8) : ∀ (s : Bs) (f : Nat), s.length < f → Lib.countFrom [a] f s = s.count a
  | [], f + 1, _ => by
    rw [Lib.countFrom]
    have : Lib.index [] [a] = -1 := rfl
    rw [this, if_pos (by decide)]; rfl
  | b :: l, f + 1, h => by
    have hl : l.length < f := by simpa using h
    by_cases e : a = b
    · subst e
      rw [List.count_cons_self, Lib.countFrom, index_cons, if_pos rfl, if_neg (by decide)]
      show 1 + Lib.countFrom [a] f l = _
      rw [countFrom_all a l f hl]; omega
    · rw [List.count_cons_of_ne (fun h => e h.symm), ← countFrom_all a l (f + 1) (by omega), Lib.countFrom, Lib.countFrom, index_cons, if_neg e]
      by_cases h2 : Lib.index l [a] = -1
      · rw [if_pos h2, if_pos (by decide), h2, if_pos (by decide)]
      · have := Lib.index_ge l [a]
        obtain ⟨i, hi⟩ : ∃ i : Nat, Lib.index l [a] = i := ⟨(Lib.index l [a]).toNat, by omega⟩
        rw [if_neg h2, if_neg (by rw [hi]; simp <;> omega), if_neg (by rw [hi]; simp <;> omega), hi, show ((i : Int) + 1).toNat = i + 1 by omega, show ((i : Int)).toNat = i by omega]
        rfl
theorem count_all (a : UInt8) (s : Bs) : Lib.count s [a] = s.count a := countFrom_all a s _ (Nat.lt_succ_self _)
theorem replaceAll_all (a : UInt8) (new s : Bs) (hne : ([a] == new) = false) : Lib.replaceAll s [a] new = s.flatMap fun c => if c = a then new else [c] := by
  unfold Lib.replaceAll Lib.replace Lib.replaceNum
  rw [hne, if_neg (by simp), if_pos (.inl (by decide)), count_all]
  exact replaceK_all a new s _ (Nat.le_refl _)
theorem ReplaceAll_ev {a b c : UInt8} {s : Bs} (hs : s.length ≤ 1000000) (hne : ([a] == [b, c]) = false) : Ev (fun n _ => strings_ReplaceAll n s [a] [b, c]) (s.flatMap fun x => if x = a then [b, c] else [x]) := by
  refine ev_succ ?_
  have := List.count_le_length (a := a) (l := s)
  simp only [strings_ReplaceAll, nReplaceAll, count_all, replaceAll_all a [b, c] s hne, ev_cond, ev_some, ev_none]
  refine ⟨fun _ => trivial, fun h => ?_⟩
  have e1 : decide (s.length < 4294967281) = true := decide_eq_true (by omega)
  have e2 : decide (1 ≤ [a].length) = true := rfl
  have e3 : decide (s.length + List.count a s * [b, c].length ≤ 140737488355328) = true := decide_eq_true (by simp only [List.length_cons, List.length_nil]; omega)
  rw [e1, e2, e3] at h; cases h
/-- a byte of a way -/
def wesc (c : UInt8) : Bs := if c = 126 then [126, 48] else if c = 47 then [126, 49] else [c]
theorem wesc_len (c : UInt8) : (wesc c).length ≤ 2 := by
  unfold wesc
  split
  · simp
  · split <;> simp
theorem wesc_two (s : Bs) : ((s.flatMap fun x => if x = 126 then [126, 48] else [x]).flatMap fun x => if x = 47 then [126, 49] else [x]) = s.flatMap wesc := by
  induction s with
  | nil => rfl
  | cons c s ih =>
    rw [List.flatMap_cons, List.flatMap_append, ih, List.flatMap_cons]
    congr 1
    unfold wesc
    by_cases h1 : c = 126
    · subst h1; rfl
    · by_cases h2 : c = 47
      · subst h2; rfl
      · rw [if_neg h1, if_neg h1, if_neg h2]; simp [h2]
def FWay (w : List Bs) : Bs := w.flatMap fun s => 47 :: s.flatMap wesc
theorem way_next {w : List Bs} {i : Nat} (h : i < w.length) : FWay (w.take (i + 1)) = FWay (w.take i) ++ (47 :: (w.getD i []).flatMap wesc) := by
  unfold FWay
  rw [take_next [] h, List.flatMap_append]; simp
theorem FWay_len {w : List Bs} {c : Nat} (h : ∀ s ∈ w, s.length ≤ c) : (FWay w).length ≤ w.length * (2 * c + 1) := by
  induction w with
  | nil => exact Nat.zero_le _
  | cons s w ih =>
    have h1 := flat_len wesc wesc_len s
    have h2 := h s (List.mem_cons_self ..)
    have h3 := ih fun x hx => h x (List.mem_cons_of_mem _ hx)
    have e : FWay (s :: w) = (47 :: s.flatMap wesc) ++ FWay w := rfl
    rw [e, List.length_append, List.length_cons, List.length_cons, Nat.add_mul]; omega
theorem take_all {w : List Bs} {c : Nat} (h : ∀ s ∈ w, s.length ≤ c) (i : Nat) : ∀ s ∈ w.take i, s.length ≤ c := fun s hs => h s (List.mem_of_mem_take hs)
theorem impl_WayText_ev {w : List Bs} (hw : w.length ≤ 6) (hs : ∀ s ∈ w, s.length ≤ 60) : Ev (fun n _ => impl_WayText n w) (FWay w) := by
  refine ev_succ ?_
  have ht : w.length ≤ topN := by simp only [topN]; omega
  simp only [impl_WayText]
  have := ev_seq (fun i => FWay (w.take i)) w.length (fun n N i (o : Bs) => impl_WayText.loop4 n (fun xy3 => (some xy3)) N o w (w.length : Int) (i : Int)) (FWay w) (fun i hi F hF => ?_) ?_
  · exact this
  · have h1 := hs _ (getD_mem [] hi)
    have h2 := flat_len wesc wesc_len (w.getD i [])
    have h3 := FWay_len (take_all hs i)
    rw [List.length_take] at h3
    rw [way_next hi] at hF
    have r1 := ReplaceAll_ev (a := 126) (b := 126) (c := 48) (s := w.getD i []) (by omega) (by decide)
    have h4 := flat_len (fun x => if x = 126 then [126, 48] else [x]) (fun c => by split <;> simp) (w.getD i [])
    have r2 := ReplaceAll_ev (a := 47) (b := 126) (c := 49) (s := (w.getD i []).flatMap fun x => if x = 126 then [126, 48] else [x]) (by omega) (by decide)
    rw [wesc_two] at r2
    generalize FWay (w.take i) = o at hF h3 ⊢
    simp only [impl_WayText.turn4, impl_WayText.step4, Int.toNat_natCast, W_up hi ht, ev_cond, ev_inB, ev_none, lt_up hi, in_up hi, ev_bind r1, ev_bind r2]
    generalize (w.getD i []).flatMap wesc = e at hF h2 ⊢
    have e2 : ([47] : Bs) ++ e = 47 :: e := rfl
    rw [e2]
    refine ⟨fun _ => ⟨trivial, fun _ => ⟨fun _ => hF, fun h => ?_⟩, fun h => ?_⟩, fun h => (by cases h)⟩
    · have h := of_decide_eq_false h
      simp only [List.length_cons] at h; omega
    · have h := of_decide_eq_false h
      simp only [List.length_cons, List.length_nil] at h; omega
  · simp only [impl_WayText.turn4, impl_WayText.step4, lt_end, cond_false, List.take_length, ev_some]
theorem inB_in {α : Type} {i len : Nat} {x : Option α} (h : i < len) : inB (i : Int) len x = x := by
  unfold inB
  rw [decide_eq_true (by omega), decide_eq_true (by omega)]; rfl
theorem roomB_in {α : Type} {n b : Nat} {x : Option α} (h : n * b ≤ 140737488355328) : roomB n b x = x := by
  unfold roomB
  rw [decide_eq_true h]; rfl
theorem ev_of_ge {α : Type} {f g : Nat → Nat → Option α} {v : α} (M : Nat) (h : ∀ n N, M ≤ n → f n N = g n N) (hg : Ev g v) : Ev f v := by
  obtain ⟨M', hM⟩ := hg
  exact ⟨max M M', fun n N h1 h2 => by rw [h n N (by omega)]; exact hM n N (by omega) (by omega)⟩
theorem way_inner (n : Nat) (k2 : List Bs → Int → List Int → Option Bs) {w : List Bs} {i : Nat} (hi : i < w.length) (hl : (w.getD i []).length ≤ 1000000) : ∀ (d j m : Nat) (o : List Int), j + d = (w.getD i []).length → d < m → o.length + 2 * d ≤ 100000000 →
    spec_WayText.loop10 n k2 m w (i : Int) (j : Int) o = k2 w (i : Int) (o ++ bi (((w.getD i []).drop j).flatMap wesc))
  | 0, j, m + 1, o, hj, _, _ => by
    have e : (j : Int) = ((w.getD i []).length : Int) := by omega
    have e2 : (w.getD i []).drop j = [] := List.drop_eq_nil_of_le (by omega)
    rw [spec_WayText.turn10, spec_WayText.step10, Int.toNat_natCast, inB_in hi, e, lt_end, e2]
    simp [bi]
  | d + 1, j, m + 1, o, hj, hm, ho => by
    have hjl : j < (w.getD i []).length := by omega
    have ih := fun o => way_inner n k2 hi hl d (j + 1) m o (by omega) (by omega)
    have e1 : (w.getD i []).drop j = (w.getD i []).getD j 0 :: (w.getD i []).drop (j + 1) := drop_step 0 hjl
    rw [spec_WayText.turn10, spec_WayText.step10, Int.toNat_natCast, Int.toNat_natCast, inB_in hi, inB_in hi, inB_in hi, inB_in hjl, inB_in hjl, lt_up hjl, W_up hjl (show (w.getD i []).length ≤ topN by simp only [topN]; omega), byte126, byte47, e1, List.flatMap_cons, bi_app, ← List.append_assoc]
    generalize (w.getD i []).getD j 0 = c
    rw [roomB_in (by simp; omega), roomB_in (by simp; omega), roomB_in (by simp; omega)]
    unfold wesc
    by_cases h1 : c = 126
    · rw [decide_eq_true h1, if_pos h1]
      exact ih _ (by simp; omega)
    · by_cases h2 : c = 47
      · rw [decide_eq_false h1, decide_eq_true h2, if_neg h1, if_pos h2]
        exact ih _ (by simp; omega)
      · rw [decide_eq_false h1, decide_eq_false h2, if_neg h1, if_neg h2]
        exact ih _ (by simp; omega)
theorem spec_WayText_ev {w : List Bs} (hw : w.length ≤ 6) (hs : ∀ s ∈ w, s.length ≤ 60) : Ev (fun n _ => spec_WayText n w) (FWay w) := by
  refine ev_succ ?_
  have ht : w.length ≤ topN := by simp only [topN]; omega
  simp only [spec_WayText]
  have := ev_seq (fun i => bi (FWay (w.take i))) w.length (fun n N i (o : List Int) => spec_WayText.loop4 n (fun xy4 => (some (toBs xy4))) N w (i : Int) o) (FWay w) (fun i hi F hF => ?_) ?_
  · exact this
  · have h1 := hs _ (getD_mem [] hi)
    have h3 := FWay_len (take_all hs i)
    rw [List.length_take] at h3
    rw [way_next hi] at hF
    generalize FWay (w.take i) = o at hF h3 ⊢
    have hb := bi_len o
    simp only [spec_WayText.turn4, spec_WayText.step4, lt_up hi, cond_true, ev_roomB]
    refine ⟨by simp [hb]; omega, ev_of_ge 61 (fun n N hn => way_inner n _ hi (by omega) (w.getD i []).length 0 n _ (by omega) (by omega) (by simp only [hb, List.length_append, List.length_cons, List.length_nil]; omega)) ?_⟩
    simp only [W_up hi ht, List.drop_zero]
    have e : bi (o ++ 47 :: (w.getD i []).flatMap wesc) = bi o ++ ([47] : List Int) ++ bi ((w.getD i []).flatMap wesc) := by simp [bi]
    rw [e] at hF
    exact hF
  · simp only [spec_WayText.turn4, spec_WayText.step4, lt_end, cond_false, List.take_length, ev_some, toBs_bi]
end Go.Pi
end
section
set_option linter.unusedVariables false
set_option maxRecDepth 100000
set_option linter.unusedSimpArgs false
namespace Go.Pi
theorem kindCases (k : Int) : k = 0 ∨ k = 1 ∨ k = 2 ∨ k = 3 ∨ k = 4 ∨ k = 5 ∨ (k ≠ 0 ∧ k ≠ 1 ∧ k ≠ 2 ∧ k ≠ 3 ∧ k ≠ 4 ∧ k ≠ 5) := by omega
theorem len_pos {α : Type} (l : List α) : decide (l.length = 0) = !decide ((l.length : Int) > 0) := by
  by_cases hz : l.length = 0
  · rw [hz]; rfl
  · rw [decide_eq_false hz, decide_eq_true (show (l.length : Int) > 0 by omega)]; rfl
def FOwnK (j : TJson) : Bool :=
  cond (j.kind == 1) (inn j.n_ 0 1) (cond (j.kind == 2) (inn j.n_ (-1000000000) 1000000000) (cond (j.kind == 3) (FText j.s) (cond (j.kind == 5) (((j.names.length : Int) == (j.list.length : Int)) && FNames j.names) ((j.kind == 0) || (j.kind == 4)))))
def FOwn (j : TJson) : Bool :=
  (decide (j.list.length = 0) || ((j.kind == 4) || (j.kind == 5))) && ((decide (j.names.length = 0) || (j.kind == 5)) && (((j.n_ == 0) || ((j.kind == 1) || (j.kind == 2))) && (((j.s == []) || (j.kind == 3)) && FOwnK j)))
def lenJ1 (j : TJson) : Prop := j.s.length ≤ topN ∧ lenNs topN j.names
theorem impl_ownOk_ev {j : TJson} (h : lenJ1 j) : Ev (fun n _ => impl_ownOk n j) (FOwn j) := by
  refine ev_succ ?_
  simp only [impl_ownOk, ev_cond, within_b, isNum_b, ev_bind (impl_textOk_ev h.1), ev_bind (impl_namesOk_ev h.2), ev_some]
  unfold FOwn FOwnK
  have e1 := len_pos j.list
  have e2 := len_pos j.names
  rw [e1, e2]
  generalize decide ((j.list.length : Int) > 0) = a
  generalize decide ((j.names.length : Int) > 0) = b
  generalize (j.s == []) = c
  have e3 : (j.n_ != 0) = !(j.n_ == 0) := rfl
  rw [e3]
  generalize hd : (j.n_ == 0) = d
  generalize FText j.s = ft
  generalize FNames j.names = fn
  generalize ((j.names.length : Int) == (j.list.length : Int)) = eq
  rcases kindCases j.kind with hk | hk | hk | hk | hk | hk | ⟨k0, k1, k2, k3, k4, k5⟩
  all_goals (first | simp only [hk] | simp only [beq_eq_false_iff_ne.2 k0, beq_eq_false_iff_ne.2 k1, beq_eq_false_iff_ne.2 k2, beq_eq_false_iff_ne.2 k3, beq_eq_false_iff_ne.2 k4, beq_eq_false_iff_ne.2 k5, bne])
  all_goals (cases a <;> cases b <;> cases c <;> cases d <;> simp)
  all_goals (cases eq <;> simp)
/-- the size of a value, at most so deep; 401: it is not right -/
def FSize : Nat → TJson → Nat
  | 0, _ => 401
  | d + 1, j => cond (FOwn j) (min 401 (1 + sumL (FSize d) j.list)) 401
theorem FSize_le : ∀ (d : Nat) (j : TJson), FSize d j ≤ 401
  | 0, _ => Nat.le_refl _
  | d + 1, j => by
    simp only [FSize]
    cases FOwn j <;> simp only [cond_true, cond_false] <;> omega
/-- what is asked of the lengths, so deep -/
def lenJ : Nat → TJson → Prop
  | 0, _ => True
  | d + 1, j => lenJ1 j ∧ j.list.length ≤ topN ∧ ∀ x ∈ j.list, lenJ d x
theorem getD_json {d : Nat} {l : List TJson} (h : ∀ x ∈ l, lenJ d x) {i : Nat} (hi : i < l.length) : lenJ d (l.getD i TJson.dflt) := h _ (getD_mem _ hi)
theorem impl_sizeIn_ev : ∀ (d : Nat) (j : TJson), d ≤ 1000 → lenJ d j → Ev (fun n _ => impl_sizeIn n j (d : Int)) (FSize d j : Int)
  | 0, j, _, _ => by
    refine ev_succ ?_
    simp only [impl_sizeIn, ev_cond, ev_some]
    exact ⟨fun _ => rfl, fun h => by simp at h⟩
  | d + 1, j, hd, h => by
    refine ev_succ ?_
    have hW : W (((d + 1 : Nat) : Int) - 1) = (d : Int) := by rw [W_id (by omega) (by omega)]; omega
    simp only [impl_sizeIn, json_re, ev_cond, ev_bind (impl_ownOk_ev h.1), ev_some, FSize]
    refine ⟨fun hc => by have := of_decide_eq_true hc; omega, fun _ => ?_⟩
    cases ho : FOwn j with
    | false => exact ⟨fun _ => rfl, fun h => by cases h⟩
    | true =>
      refine ⟨fun h => (by cases h), fun _ => ?_⟩
      have ht := h.2.1
      have key : ∀ (k i : Nat) (s : Nat), k + i = j.list.length → s ≤ 400 → Ev (fun n N => impl_sizeIn.loop7 n (impl_sizeIn n) (fun xy3 => some xy3) N ((d + 1 : Nat) : Int) (s : Int) j.list (j.list.length : Int) (i : Int)) ((min 401 (s + sumL (FSize d) (j.list.drop i)) : Nat) : Int) := by
        intro k
        induction k with
        | zero =>
          intro i s hi hs
          have : i = j.list.length := by omega
          subst this
          refine ev_round ?_
          simp only [impl_sizeIn.turn7, impl_sizeIn.step7, lt_end, cond_false, ev_some, List.drop_length, sumL]
          omega
        | succ k ih =>
          intro i s hi hs
          have hlt : i < j.list.length := by omega
          refine ev_round ?_
          have hc := impl_sizeIn_ev d (j.list.getD i TJson.dflt) (by omega) (getD_json h.2.2 hlt)
          have hle := FSize_le d (j.list.getD i TJson.dflt)
          have hw : W ((s : Int) + (FSize d (j.list.getD i TJson.dflt) : Int)) = ((s + FSize d (j.list.getD i TJson.dflt) : Nat) : Int) := by rw [W_id (by omega) (by omega)]; omega
          simp only [impl_sizeIn.turn7, impl_sizeIn.step7, json_re, Int.toNat_natCast, hW, W_up hlt ht, ev_cond, ev_inB, lt_up hlt, in_up hlt, ev_bind hc, hw, ev_some]
          rw [sumL_drop (FSize d) TJson.dflt hlt]
          refine ⟨fun _ => ⟨trivial, fun hg => ?_, fun hg => ?_⟩, fun h => (by cases h)⟩
          · have := of_decide_eq_true hg; omega
          · have := of_decide_eq_false hg
            rw [show s + (FSize d (j.list.getD i TJson.dflt) + sumL (FSize d) (j.list.drop (i + 1))) = (s + FSize d (j.list.getD i TJson.dflt)) + sumL (FSize d) (j.list.drop (i + 1)) by omega]
            exact ih (i + 1) _ (by omega) (by omega)
      have := key j.list.length 0 1 (by omega) (by omega)
      rw [List.drop_zero] at this
      exact ev_diag (f := fun n N => impl_sizeIn.loop7 n (impl_sizeIn n) (fun xy3 => some xy3) N ((d + 1 : Nat) : Int) 1 j.list (j.list.length : Int) 0) this
def FJsonOk (j : TJson) : Bool := decide (FSize 6 j ≤ 400)
theorem impl_JsonOk_ev {j : TJson} (h : lenJ 6 j) : Ev (fun n _ => impl_JsonOk n j) (FJsonOk j) := by
  refine ev_succ ?_
  have e : Ev (fun n _ => impl_sizeIn n j 6) (FSize 6 j : Int) := impl_sizeIn_ev 6 j (by omega) h
  simp only [impl_JsonOk, json_re, ev_bind e, ev_some, FJsonOk]
  by_cases hq : FSize 6 j ≤ 400
  · rw [decide_eq_true hq, decide_eq_true (by omega)]
  · rw [decide_eq_false hq, decide_eq_false (by omega)]
end Go.Pi
end
section
set_option linter.unusedVariables false
set_option maxRecDepth 100000
set_option linter.unusedSimpArgs false
namespace Go.Pi
/-- the reference's size: beyond 400 it may be more -/
def Great (d : Nat) (j : TJson) : Prop := ∃ v : Nat, v ≤ 401 + 401 * d ∧ min 401 v = FSize d j ∧ Ev (fun n _ => spec_l1Great n j (d : Int)) (v : Int)
theorem great_loop {d : Nat} {l : List TJson} (hd : d ≤ 1000) (ht : l.length ≤ topN) (ih : ∀ x ∈ l, Great d x) (kd nn : Int) (s : Bs) (ns : List Bs) :
    ∃ w : Nat, w ≤ 401 + 401 * (d + 1) ∧ min 401 w = min 401 (1 + sumL (FSize d) l) ∧ ∀ (K : Nat → spec_l1Great.K23_1) (F : Int), Ev (fun n N => K n 401 (w : Int) kd nn s l ns) F → Ev (fun n _ => spec_l1Great.loop23 n (spec_l1Great n) (K n) n ((d + 1 : Nat) : Int) 401 1 0 kd nn s l ns) F := by
  have hW : W (((d + 1 : Nat) : Int) - 1) = (d : Int) := by rw [W_id (by omega) (by omega)]; omega
  have key : ∀ (k i : Nat) (m : Nat), k + i = l.length → m ≤ 401 + 401 * (d + 1) → ∃ w : Nat, w ≤ 401 + 401 * (d + 1) ∧ min 401 w = min 401 (m + sumL (FSize d) (l.drop i)) ∧ ∀ (K : Nat → spec_l1Great.K23_1) (F : Int), Ev (fun n N => K n 401 (w : Int) kd nn s l ns) F →
      Ev (fun n N => spec_l1Great.loop23 n (spec_l1Great n) (K n) N ((d + 1 : Nat) : Int) 401 (m : Int) (i : Int) kd nn s l ns) F := by
    intro k
    induction k with
    | zero =>
      intro i m hi hm
      have : i = l.length := by omega
      subst this
      refine ⟨m, hm, by simp [sumL], fun K F hF => ev_round ?_⟩
      simp only [spec_l1Great.turn23, spec_l1Great.step23, lt_end, cond_false]
      exact hF
    | succ k ihk =>
      intro i m hi hm
      have hlt : i < l.length := by omega
      by_cases hg : m ≤ 400
      · obtain ⟨v, hv1, hv2, hv3⟩ := ih _ (getD_mem TJson.dflt hlt)
        have hw : W ((m : Int) + (v : Int)) = ((m + v : Nat) : Int) := by rw [W_id (by omega) (by omega)]; omega
        obtain ⟨w, a1, a2, a3⟩ := ihk (i + 1) (m + v) (by omega) (by omega)
        refine ⟨w, a1, ?_, fun K F hF => ev_round ?_⟩
        · rw [a2, sumL_drop (FSize d) TJson.dflt hlt, ← hv2]; omega
        · simp only [spec_l1Great.turn23, spec_l1Great.step23, json_re, Int.toNat_natCast, hW, W_up hlt ht, ev_cond, ev_inB, lt_up hlt, in_up hlt, ev_bind hv3, hw]
          exact ⟨fun _ => ⟨fun _ => ⟨trivial, a3 K F hF⟩, fun h => by have := of_decide_eq_false h; omega⟩, fun h => (by cases h)⟩
      · refine ⟨m, hm, by omega, fun K F hF => ev_round ?_⟩
        simp only [spec_l1Great.turn23, spec_l1Great.step23, Int.toNat_natCast, ev_cond, lt_up hlt]
        exact ⟨fun _ => ⟨fun h => by have := of_decide_eq_true h; omega, fun _ => hF⟩, fun h => (by cases h)⟩
  obtain ⟨w, a1, a2, a3⟩ := key l.length 0 1 (by omega) (by omega)
  rw [List.drop_zero] at a2
  exact ⟨w, a1, a2, fun K F hF => ev_diag (f := fun n N => spec_l1Great.loop23 n (spec_l1Great n) (K n) N ((d + 1 : Nat) : Int) 401 1 0 kd nn s l ns) (a3 K F hF)⟩
theorem json_eta (j : TJson) : TJson.mk j.kind j.n_ j.s j.list j.names = j := by cases j; rfl
theorem sumL_nil {α : Type} (f : α → Nat) : sumL f [] = 0 := rfl
theorem spec_l1Great_ev : ∀ (d : Nat) (j : TJson), d ≤ 1000 → lenJ d j → Great d j
  | 0, j, _, _ => by
    refine ⟨401, by omega, rfl, ev_succ ?_⟩
    simp only [spec_l1Great, ev_cond, ev_some]
    exact ⟨fun _ => rfl, fun h => by simp at h⟩
  | d + 1, j, hd, h => by
    obtain ⟨w, w1, w2, w3⟩ := great_loop (d := d) (l := j.list) (by omega) h.2.1 (fun x hx => spec_l1Great_ev d x (by omega) (h.2.2 x hx)) j.kind j.n_ j.s j.names
    have hz : ((((d + 1 : Nat) : Int)) == 0) = false := by simp; omega
    have hN := spec_l1Names_ev (j := j) h.1.2
    obtain ⟨v, hv⟩ : ∃ v : Nat, v = cond (FOwn j) (cond ((j.kind == 4) || (j.kind == 5)) w 1) 401 := ⟨_, rfl⟩
    refine ⟨v, ?_, ?_, ev_succ ?_⟩
    · rw [hv]; cases FOwn j <;> cases ((j.kind == 4) || (j.kind == 5)) <;> simp only [cond_true, cond_false] <;> omega
    · rw [hv]
      simp only [FSize]
      cases ho : FOwn j with
      | false => rfl
      | true =>
        cases hk : ((j.kind == 4) || (j.kind == 5)) with
        | true => simp only [cond_true]; exact w2
        | false =>
          have : j.list = [] := by
            unfold FOwn at ho
            rw [hk, Bool.or_false] at ho
            simp only [Bool.and_eq_true, decide_eq_true_eq] at ho
            exact List.eq_nil_of_length_eq_zero ho.1
          rw [this]; rfl
    · have hT := spec_l1Text_ev (s := j.s) h.1.1
      have e1 := len_pos j.list
      have e2 := len_pos j.names
      have e4 : ((j.names.length : Int) == 0) = !decide ((j.names.length : Int) > 0) := by
        by_cases hz : j.names.length = 0
        · rw [hz]; rfl
        · rw [beq_eq_false_iff_ne.2 (show (j.names.length : Int) ≠ 0 by omega), decide_eq_true (show (j.names.length : Int) > 0 by omega)]; rfl
      subst hv
      unfold FOwn FOwnK
      unfold FNamesJ at hN
      rw [e1, e2]
      rw [e4] at hN
      simp only [spec_l1Great, json_re, hz, cond_false, ev_cond, l1In_b, ev_bind hT, ev_bind hN, ev_some, bne]
      rcases kindCases j.kind with hk | hk | hk | hk | hk | hk | ⟨k0, k1, k2, k3, k4, k5⟩
      case inr.inr.inr.inr.inl =>
        have hj : TJson.mk 4 j.n_ j.s j.list j.names = j := by rw [← hk]; exact json_eta j
        rw [hk] at w3
        simp only [hk, Int.reduceBEq, Int.reduceLT, Int.reduceLE, Int.reduceNeg, ge_iff_le, gt_iff_lt, decide_true, decide_false, Bool.not_false, Bool.not_true, Bool.or_true, Bool.true_or, Bool.or_false, Bool.false_or, Bool.and_true, Bool.true_and, Bool.not_not, forall_const, reduceCtorEq, false_implies, true_and, and_true, implies_true, cond_true, cond_false] at hN ⊢
        refine w3 _ _ ?_
        simp only [hj, ev_cond, ev_bind hN, ev_some, Int.reduceBEq, Int.reduceLT, Int.reduceLE, Int.reduceNeg, ge_iff_le, gt_iff_lt, decide_true, decide_false, Bool.not_false, Bool.not_true, Bool.or_true, Bool.true_or, Bool.or_false, Bool.false_or, Bool.and_true, Bool.true_and, Bool.not_not, forall_const, reduceCtorEq, false_implies, true_and, and_true, implies_true, cond_true, cond_false]
        clear hN w3 hT e1 e2 e4 hj
        generalize decide (0 < (j.names.length : Int)) = b
        generalize (j.s == []) = c
        generalize hd : (j.n_ == 0) = dd
        cases b <;> cases c <;> cases dd <;> simp
      case inr.inr.inr.inr.inr.inl =>
        have hj : TJson.mk 5 j.n_ j.s j.list j.names = j := by rw [← hk]; exact json_eta j
        rw [hk] at w3
        simp only [hk, Int.reduceBEq, Int.reduceLT, Int.reduceLE, Int.reduceNeg, ge_iff_le, gt_iff_lt, decide_true, decide_false, Bool.not_false, Bool.not_true, Bool.or_true, Bool.true_or, Bool.or_false, Bool.false_or, Bool.and_true, Bool.true_and, Bool.not_not, forall_const, reduceCtorEq, false_implies, true_and, and_true, implies_true, cond_true, cond_false] at hN ⊢
        refine w3 _ _ ?_
        simp only [hj, ev_cond, ev_bind hN, ev_some, Int.reduceBEq, Int.reduceLT, Int.reduceLE, Int.reduceNeg, ge_iff_le, gt_iff_lt, decide_true, decide_false, Bool.not_false, Bool.not_true, Bool.or_true, Bool.true_or, Bool.or_false, Bool.false_or, Bool.and_true, Bool.true_and, Bool.not_not, forall_const, reduceCtorEq, false_implies, true_and, and_true, implies_true, cond_true, cond_false]
        clear hN w3 hT e1 e2 e4 hj
        generalize FNames j.names = fn
        generalize ((j.names.length : Int) == (j.list.length : Int)) = eq
        generalize (j.s == []) = c
        generalize hd : (j.n_ == 0) = dd
        cases fn <;> cases eq <;> cases c <;> cases dd <;> simp
      case inr.inr.inr.inr.inr.inr =>
        simp only [beq_eq_false_iff_ne.2 k0, beq_eq_false_iff_ne.2 k1, beq_eq_false_iff_ne.2 k2, beq_eq_false_iff_ne.2 k3, beq_eq_false_iff_ne.2 k4, beq_eq_false_iff_ne.2 k5, Int.reduceBEq, Int.reduceLT, Int.reduceLE, Int.reduceNeg, ge_iff_le, gt_iff_lt, decide_true, decide_false, Bool.not_false, Bool.not_true, Bool.or_true, Bool.true_or, Bool.or_false, Bool.false_or, Bool.and_true, Bool.true_and, Bool.not_not, forall_const, reduceCtorEq, false_implies, true_and, and_true, implies_true, cond_true, cond_false, Bool.and_false, Bool.false_and]
        rfl
      all_goals (
        simp only [hk, Int.reduceBEq, Int.reduceLT, Int.reduceLE, Int.reduceNeg, ge_iff_le, gt_iff_lt, decide_true, decide_false, Bool.not_false, Bool.not_true, Bool.or_true, Bool.true_or, Bool.or_false, Bool.false_or, Bool.and_true, Bool.true_and, Bool.not_not, forall_const, reduceCtorEq, false_implies, true_and, and_true, implies_true, cond_true, cond_false]
        clear hN w3 hT e1 e2 e4
        generalize decide (0 < (j.names.length : Int)) = b
        generalize decide (0 < (j.list.length : Int)) = a
        generalize (j.s == []) = c
        generalize hd : (j.n_ == 0) = dd
        generalize inn j.n_ 0 1 = i1
        generalize inn j.n_ (-1000000000) 1000000000 = i2
        generalize FText j.s = ft
        cases a <;> cases b <;> cases c <;> cases dd <;> cases i1 <;> cases i2 <;> cases ft <;> simp)
/-- it is right: no more than 400 -/
theorem spec_JsonOk_ev {j : TJson} (h : lenJ 6 j) : Ev (fun n _ => spec_JsonOk n j) (FJsonOk j) := by
  refine ev_succ ?_
  obtain ⟨v, v1, v2, v3⟩ := spec_l1Great_ev 6 j (by omega) h
  have e : Ev (fun n _ => spec_l1Great n j 6) (v : Int) := v3
  simp only [spec_JsonOk, json_re, ev_bind e, ev_some, FJsonOk]
  by_cases hq : FSize 6 j ≤ 400
  · rw [decide_eq_true hq, decide_eq_true (by omega)]
  · rw [decide_eq_false hq, decide_eq_false (by omega)]
end Go.Pi
end
section
set_option linter.unusedVariables false
set_option maxRecDepth 100000
set_option linter.unusedSimpArgs false
namespace Go.Pi
def digs (u : Nat) : Bs := if u = 0 then [] else Lib.decDigits u
theorem digs_step {u : Nat} (h : u ≠ 0) : digs u = digs (u / 10) ++ [UInt8.ofNat (48 + u % 10)] := by
  unfold digs
  rw [if_neg h, Lib.decDigits]
  by_cases h1 : u < 10
  · rw [dif_pos h1, if_pos (by omega), Nat.mod_eq_of_lt h1]; rfl
  · rw [dif_neg h1, if_neg (by omega)]
theorem dig_byte {d : Nat} (h : d < 10) : toBs ([(IntKind.u8.wrap (W (48 + (d : Int))))] : List Int) = [UInt8.ofNat (48 + d)] := by
  have e1 : W (48 + (d : Int)) = ((48 + d : Nat) : Int) := by rw [W_id (by omega) (by omega)]; omega
  rw [e1]
  have e2 : IntKind.u8.wrap (((48 + d : Nat) : Int)) = ((48 + d : Nat) : Int) := by
    have : d = 0 ∨ d = 1 ∨ d = 2 ∨ d = 3 ∨ d = 4 ∨ d = 5 ∨ d = 6 ∨ d = 7 ∨ d = 8 ∨ d = 9 := by omega
    rcases this with rfl | rfl | rfl | rfl | rfl | rfl | rfl | rfl | rfl | rfl <;> rfl
  rw [e2]
  rfl
theorem spec_l2Digits_ev {x : Int} (h0 : -9223372036854775808 ≤ x) (h1 : x ≤ 9223372036854775807) : Ev (fun n _ => spec_l2Digits n x) (Lib.itoa x) := by
  refine ev_succ ?_
  simp only [spec_l2Digits, ev_cond, ev_some]
  refine ⟨fun h => ?_, fun h => ?_⟩
  · have : x = 0 := by simpa using h
    subst this
    unfold Lib.itoa
    rw [if_neg (by decide)]
    show _ = Lib.decDigits 0
    rw [Lib.decDigits_one (by decide)]; rfl
  have hx0 : x ≠ 0 := by simpa using h
  have key : ∀ (k : Nat) (y : Int) (out : Bs), y.natAbs < 10 ^ k → -9223372036854775808 ≤ y → y ≤ 9223372036854775807 → out.length + k ≤ 100 →
      Ev (fun n N => spec_l2Digits.loop7 n (fun xy3 xy4 => (cond xy3 (cond (decide ([45].length + xy4.length ≤ 9223372036854775807)) (some (([45] : Bs) ++ xy4)) none) (some xy4))) N y (decide (x < 0)) out) (cond (decide (x < 0)) ([45] ++ (digs y.natAbs ++ out)) (digs y.natAbs ++ out)) := by
    intro k
    induction k with
    | zero =>
      intro y out hy _ _ ho
      have : y = 0 := by simp at hy; omega
      subst this
      refine ev_round ?_
      simp only [spec_l2Digits.turn7, spec_l2Digits.step7, bne_self_eq_false, cond_false, ev_cond, ev_some, ev_none]
      refine ⟨fun hb => ⟨fun _ => by rw [hb]; rfl, fun hc => by have := of_decide_eq_false hc; simp at this; omega⟩, fun hb => by rw [hb]; rfl⟩
    | succ k ih =>
      intro y out hy hy0 hy1 ho
      by_cases hz : y = 0
      · subst hz
        refine ev_round ?_
        simp only [spec_l2Digits.turn7, spec_l2Digits.step7, bne_self_eq_false, cond_false, ev_cond, ev_some, ev_none]
        refine ⟨fun hb => ⟨fun _ => by rw [hb]; rfl, fun hc => by have := of_decide_eq_false hc; simp at this; omega⟩, fun hb => by rw [hb]; rfl⟩
      · have hm : (Int.tmod y 10).natAbs = y.natAbs % 10 := by rw [Int.natAbs_tmod]; rfl
        have hd : (Int.tdiv y 10).natAbs = y.natAbs / 10 := by rw [Int.natAbs_tdiv]; rfl
        have hW : W (Int.tdiv y 10) = Int.tdiv y 10 := W_id (by omega) (by omega)
        have hlt : y.natAbs % 10 < 10 := Nat.mod_lt _ (by decide)
        have hdl : (Int.tdiv y 10).natAbs < 10 ^ k := by rw [hd]; rw [Nat.pow_succ] at hy; omega
        have hrec := ih (Int.tdiv y 10) ([UInt8.ofNat (48 + y.natAbs % 10)] ++ out) hdl (by omega) (by omega) (by simp; omega)
        have hdig : digs (Int.tdiv y 10).natAbs ++ ([UInt8.ofNat (48 + y.natAbs % 10)] ++ out) = digs y.natAbs ++ out := by rw [hd, digs_step (show y.natAbs ≠ 0 by omega), List.append_assoc]
        rw [hdig] at hrec
        have hne : (y != 0) = true := by simpa using hz
        refine ev_round ?_
        simp only [spec_l2Digits.turn7, spec_l2Digits.step7, hne, cond_true, ev_cond, ev_none, hW]
        refine ⟨fun hneg => ?_, fun hneg => ?_⟩
        · have hneg := of_decide_eq_true hneg
          have e : W (0 - Int.tmod y 10) = ((y.natAbs % 10 : Nat) : Int) := by rw [W_id (by omega) (by omega)]; omega
          rw [e, dig_byte hlt]
          exact ⟨fun _ => hrec, fun hc => by have := of_decide_eq_false hc; simp at this; omega⟩
        · have hneg := of_decide_eq_false hneg
          have e : Int.tmod y 10 = ((y.natAbs % 10 : Nat) : Int) := by omega
          rw [e, dig_byte hlt]
          exact ⟨fun _ => hrec, fun hc => by have := of_decide_eq_false hc; simp at this; omega⟩
  have hfin := key 19 x [] (by omega) h0 h1 (by simp)
  have hv : Lib.itoa x = cond (decide (x < 0)) ([45] ++ (digs x.natAbs ++ [])) (digs x.natAbs ++ []) := by
    unfold Lib.itoa digs
    rw [if_neg (show x.natAbs ≠ 0 by omega)]
    by_cases hn : x < 0
    · rw [if_pos hn, decide_eq_true hn]; simp
    · rw [if_neg hn, decide_eq_false hn, cond_false, List.append_nil, show x.toNat = x.natAbs by omega]
  rw [hv]
  exact ev_diag hfin
theorem Itoa_ev {x : Int} (h0 : -9223372036854775808 ≤ x) (h1 : x ≤ 9223372036854775807) : Ev (fun n _ => strconv_Itoa n x) (Lib.itoa x) :=
  ev_succ (by simp only [strconv_Itoa, nItoa, ev_cond, ev_some, ev_none]; exact ⟨fun _ => trivial, fun h => by simp at h; omega⟩)
end Go.Pi
end
section
set_option linter.unusedVariables false
set_option maxRecDepth 100000
set_option linter.unusedSimpArgs false
namespace Go.Pi
/-! a value written -/
theorem join_snoc (x sep : Bs) : ∀ l : List Bs, Lib.join (l ++ [x]) sep = if l = [] then x else Lib.join l sep ++ sep ++ x
  | [] => by rw [if_pos rfl]; exact Lib.join_one x sep
  | y :: l => by
    rw [if_neg (by simp), List.cons_append, Lib.join_cons, Lib.join_cons]
    simp [Lib.joinTail]
theorem sumL_app {α : Type} (f : α → Nat) : ∀ a b : List α, sumL f (a ++ b) = sumL f a + sumL f b
  | [], b => by simp [sumL]
  | x :: a, b => by simp only [List.cons_append, sumL, sumL_app f a b]; omega
theorem sumL_len {α : Type} (f : α → Nat) (h : ∀ x, 1 ≤ f x) : ∀ a : List α, a.length ≤ sumL f a
  | [] => Nat.le_refl _
  | x :: a => by have := sumL_len f h a; have := h x; simp only [sumL, List.length_cons]; omega
theorem FSize_pos : ∀ (d : Nat) (j : TJson), 1 ≤ FSize d j
  | 0, _ => by simp only [FSize]; omega
  | d + 1, j => by
    simp only [FSize]
    cases FOwn j <;> simp only [cond_true, cond_false] <;> omega
theorem FText_len {s : Bs} (h : FText s = true) : s.length ≤ 60 := by
  unfold FText at h
  rw [Bool.and_eq_true] at h
  have := of_decide_eq_true h.2; omega
theorem FNames_len {l : List Bs} (h : FNames l = true) {i : Nat} (hi : i < l.length) : (l.getD i []).length ≤ 60 := by
  have := allN_iff.1 h i hi
  rw [Bool.and_eq_true] at this
  exact FText_len this.1
structure Own (j : TJson) : Prop where
  kind : j.kind = 0 ∨ j.kind = 1 ∨ j.kind = 2 ∨ j.kind = 3 ∨ j.kind = 4 ∨ j.kind = 5
  list : j.kind ≠ 4 → j.kind ≠ 5 → j.list = []
  bool : j.kind = 1 → 0 ≤ j.n_ ∧ j.n_ ≤ 1
  num : j.kind = 2 → -1000000000 ≤ j.n_ ∧ j.n_ ≤ 1000000000
  text : j.kind = 3 → j.s.length ≤ 60
  obj : j.kind = 5 → j.names.length = j.list.length ∧ FNames j.names = true
theorem FOwn_own {j : TJson} (h : FOwn j = true) : Own j := by
  unfold FOwn FOwnK at h
  simp only [Bool.and_eq_true, Bool.or_eq_true] at h
  obtain ⟨h1, h2, h3, h4, h5⟩ := h
  refine ⟨?_, fun k4 k5 => ?_, fun hk => ?_, fun hk => ?_, fun hk => ?_, fun hk => ?_⟩
  · rcases kindCases j.kind with hk | hk | hk | hk | hk | hk | ⟨k0, k1, k2, k3, k4, k5⟩
    · exact .inl hk
    · exact .inr (.inl hk)
    · exact .inr (.inr (.inl hk))
    · exact .inr (.inr (.inr (.inl hk)))
    · exact .inr (.inr (.inr (.inr (.inl hk))))
    · exact .inr (.inr (.inr (.inr (.inr hk))))
    · simp only [beq_eq_false_iff_ne.2 k0, beq_eq_false_iff_ne.2 k1, beq_eq_false_iff_ne.2 k2, beq_eq_false_iff_ne.2 k3, beq_eq_false_iff_ne.2 k4, beq_eq_false_iff_ne.2 k5, cond_false, Bool.or_false] at h5
      cases h5
  · rcases h1 with h1 | h1 | h1
    · exact List.eq_nil_of_length_eq_zero (of_decide_eq_true h1)
    · exact absurd (by simpa using h1) k4
    · exact absurd (by simpa using h1) k5
  · simp only [hk, Int.reduceBEq, cond_true, cond_false] at h5; exact inn_true h5
  · simp only [hk, Int.reduceBEq, cond_true, cond_false] at h5; exact inn_true h5
  · simp only [hk, Int.reduceBEq, cond_true, cond_false] at h5; exact FText_len h5
  · simp only [hk, Int.reduceBEq, cond_true, cond_false, Bool.and_eq_true] at h5
    exact ⟨by have := h5.1; simp at this; omega, h5.2⟩
def FPart (enc : TJson → Bs) (j : TJson) (i : Nat) : Bs := cond (j.kind == 5) (FQuote (j.names.getD i []) ++ ([58] ++ enc (j.list.getD i TJson.dflt))) (enc (j.list.getD i TJson.dflt))
def FJoin (enc : TJson → Bs) (j : TJson) (m : Nat) : Bs := Lib.join ((List.range m).map (FPart enc j)) [44]
def FEnc : Nat → TJson → Bs
  | 0, _ => []
  | d + 1, j => cond (j.kind == 0) [110, 117, 108, 108] (cond (j.kind == 1) (cond (j.n_ == 1) [116, 114, 117, 101] [102, 97, 108, 115, 101]) (cond (j.kind == 2) (Lib.itoa j.n_) (cond (j.kind == 3) (FQuote j.s)
      (cond (j.kind == 5) ([123] ++ FJoin (FEnc d) j j.list.length ++ [125]) ([91] ++ FJoin (FEnc d) j j.list.length ++ [93])))))
theorem FJoin_zero (enc : TJson → Bs) (j : TJson) : FJoin enc j 0 = [] := rfl
theorem FJoin_one (enc : TJson → Bs) (j : TJson) : FJoin enc j 1 = FPart enc j 0 := Lib.join_one _ _
theorem FJoin_succ (enc : TJson → Bs) (j : TJson) {m : Nat} (h : 0 < m) : FJoin enc j (m + 1) = FJoin enc j m ++ [44] ++ FPart enc j m := by
  unfold FJoin
  rw [List.range_succ, List.map_append, List.map_cons, List.map_nil, join_snoc, if_neg]
  intro e
  have := congrArg List.length e
  simp at this; omega
/-- what is known of a value that is right -/
theorem right_of {d : Nat} {j : TJson} (h : FSize (d + 1) j ≤ 400) : Own j ∧ FSize (d + 1) j = 1 + sumL (FSize d) j.list := by
  simp only [FSize] at h ⊢
  cases ho : FOwn j with
  | false => rw [ho, cond_false] at h; omega
  | true =>
    rw [ho, cond_true] at h
    exact ⟨FOwn_own ho, by rw [cond_true]; omega⟩
theorem enc_len : ∀ (d : Nat) (j : TJson), FSize d j ≤ 400 → (FEnc d j).length + 150 ≤ 300 * FSize d j
  | 0, j, h => by simp only [FSize] at h; omega
  | d + 1, j, h => by
    obtain ⟨ho, hs⟩ := right_of h
    have hJ : ∀ m, m ≤ j.list.length → (FJoin (FEnc d) j m).length ≤ 300 * sumL (FSize d) (j.list.take m) := by
      intro m
      induction m with
      | zero => intro _; exact Nat.zero_le _
      | succ m ih =>
        intro hm
        have hi : m < j.list.length := by omega
        have h1 := ih (by omega)
        have h2 := sumL_le (FSize d) (getD_mem TJson.dflt hi)
        have h3 := enc_len d (j.list.getD m TJson.dflt) (by omega)
        have h4 : (FPart (FEnc d) j m).length ≤ 123 + (FEnc d (j.list.getD m TJson.dflt)).length := by
          unfold FPart
          cases hk : (j.kind == 5) with
          | false => rw [cond_false]; omega
          | true =>
            obtain ⟨e1, e2⟩ := ho.obj (by simpa using hk)
            have := FNames_len e2 (i := m) (by omega)
            have := FQuote_len (j.names.getD m [])
            rw [cond_true]; simp only [List.length_append, List.length_cons, List.length_nil]; omega
        rw [take_next TJson.dflt hi, sumL_app]
        simp only [sumL, Nat.mul_add]
        by_cases h0 : m = 0
        · subst h0; rw [FJoin_one]; omega
        · rw [FJoin_succ _ _ (by omega)]; simp only [List.length_append, List.length_cons, List.length_nil]; omega
    have hL := hJ j.list.length (Nat.le_refl _)
    rw [List.take_length] at hL
    rw [hs]
    rcases ho.kind with hk | hk | hk | hk | hk | hk
    · simp only [FEnc, hk, Int.reduceBEq, cond_true, cond_false, List.length_cons, List.length_nil]; omega
    · simp only [FEnc, hk, Int.reduceBEq, cond_true, cond_false]
      cases (j.n_ == 1) <;> simp only [cond_true, cond_false, List.length_cons, List.length_nil] <;> omega
    · have := ho.num hk
      have := Lib.itoa_length_le j.n_ (by omega) (by omega)
      simp only [FEnc, hk, Int.reduceBEq, cond_true, cond_false]; omega
    · have := ho.text hk
      have := FQuote_len j.s
      simp only [FEnc, hk, Int.reduceBEq, cond_true, cond_false]; omega
    · simp only [FEnc, hk, Int.reduceBEq, cond_true, cond_false, List.length_append, List.length_cons, List.length_nil]; omega
    · simp only [FEnc, hk, Int.reduceBEq, cond_true, cond_false, List.length_append, List.length_cons, List.length_nil]; omega
/-- the parts of a value that is right -/
structure Part (d : Nat) (j : TJson) (i : Nat) : Prop where
  size : FSize d (j.list.getD i TJson.dflt) ≤ 400
  enc : (FEnc d (j.list.getD i TJson.dflt)).length ≤ 120000
  name : j.kind = 5 → i < j.names.length ∧ (j.names.getD i []).length ≤ 60
theorem part_of {d : Nat} {j : TJson} (h : FSize (d + 1) j ≤ 400) {i : Nat} (hi : i < j.list.length) : Part d j i := by
  obtain ⟨ho, hs⟩ := right_of h
  have h2 := sumL_le (FSize d) (getD_mem TJson.dflt hi)
  have h3 := enc_len d (j.list.getD i TJson.dflt) (by omega)
  exact ⟨by omega, by omega, fun hk => ⟨by have := (ho.obj hk).1; omega, FNames_len (ho.obj hk).2 (by have := (ho.obj hk).1; omega)⟩⟩
theorem join_len {d : Nat} {j : TJson} (h : FSize (d + 1) j ≤ 400) : ∀ m, m ≤ j.list.length → (FJoin (FEnc d) j m).length ≤ m * 120200 := by
  intro m
  induction m with
  | zero => intro _; exact Nat.zero_le _
  | succ m ih =>
    intro hm
    have hp := part_of h (i := m) (by omega)
    have h1 := ih (by omega)
    have h4 : (FPart (FEnc d) j m).length ≤ 123 + 120000 := by
      have := hp.enc
      unfold FPart
      cases hk : (j.kind == 5) with
      | false => rw [cond_false]; omega
      | true =>
        have := (hp.name (by simpa using hk)).2
        have := FQuote_len (j.names.getD m [])
        rw [cond_true]; simp only [List.length_append, List.length_cons, List.length_nil]; omega
    by_cases h0 : m = 0
    · subst h0; rw [FJoin_one]; omega
    · rw [FJoin_succ _ _ (by omega)]; simp only [List.length_append, List.length_cons, List.length_nil]; omega
theorem list_len {d : Nat} {j : TJson} (h : FSize (d + 1) j ≤ 400) : j.list.length ≤ 400 := by
  have := (right_of h).2
  have := sumL_len (FSize d) (FSize_pos d) j.list
  omega
end Go.Pi
end
section
set_option linter.unusedVariables false
set_option maxRecDepth 100000
set_option linter.unusedSimpArgs false
namespace Go.Pi
theorem lt9 {n : Nat} (h : n ≤ 1000000000) (hc : ¬ n ≤ 9223372036854775807) : False := by omega
theorem spec_l2Encode_ev : ∀ (d : Nat) (j : TJson), FSize d j ≤ 400 → Ev (fun n _ => spec_l2Encode n j) (FEnc d j)
  | 0, j, h => by simp only [FSize] at h; omega
  | d + 1, j, h => by
    have ho := (right_of h).1
    have hll := list_len h
    refine ev_succ ?_
    have hloop : (j.kind = 4 ∨ j.kind = 5) → ∀ (K : Nat → Bs → Int → Int → Bs → List TJson → List Bs → Option Bs) (v : Bs), Ev (fun n N => K n (FJoin (FEnc d) j j.list.length) j.kind j.n_ j.s j.list j.names) v → Ev (fun n _ => spec_l2Encode.loop17 n (spec_l2Encode n) (K n) n [] 0 j.kind j.n_ j.s j.list j.names) v := by
      intro hk45 K v hK
      refine ev_seq (fun i => FJoin (FEnc d) j i) j.list.length (fun n N i (o : Bs) => spec_l2Encode.loop17 n (spec_l2Encode n) (K n) N o (i : Int) j.kind j.n_ j.s j.list j.names) v (fun i hi F hF => ?_) ?_
      · have hp := part_of h hi
        have hx := spec_l2Encode_ev d (j.list.getD i TJson.dflt) hp.size
        have hjl := join_len h i (by omega)
        have he := hp.enc
        have hW := W_up hi (show j.list.length ≤ topN by simp only [topN]; omega)
        rcases hk45 with hk | hk
        · have h5 : (j.kind == 5) = false := by rw [hk]; rfl
          by_cases h0 : i = 0
          · have hg : decide ((i : Int) > 0) = false := decide_eq_false (by omega)
            have e0 : FJoin (FEnc d) j i = [] := by rw [h0]; rfl
            have e1 : FJoin (FEnc d) j (i + 1) = FPart (FEnc d) j i := by rw [h0]; exact FJoin_one _ _
            rw [e1] at hF
            unfold FPart at hF
            rw [h5, cond_false] at hF
            simp only [e0, spec_l2Encode.turn17, spec_l2Encode.step17, json_re, Int.toNat_natCast, hW, h5, hg, reduceCtorEq, false_implies, true_implies, true_and, and_true, ev_cond, ev_inB, ev_none, lt_up hi, in_up hi, ev_bind hx, List.nil_append]
            generalize FEnc d (j.list.getD i TJson.dflt) = x at hF he ⊢
            repeat' (first | apply And.intro | intro _)
            all_goals (first | contradiction | exact hF | trivial | (rename_i hc; have hc := of_decide_eq_false hc; simp only [List.length_append, List.length_cons, List.length_nil] at hc; omega))
          · rw [FJoin_succ _ _ (by omega)] at hF
            unfold FPart at hF
            rw [h5, cond_false] at hF
            have hg : decide ((i : Int) > 0) = true := decide_eq_true (by omega)
            simp only [spec_l2Encode.turn17, spec_l2Encode.step17, json_re, Int.toNat_natCast, hW, h5, hg, ev_cond, ev_inB, ev_none, lt_up hi, in_up hi, ev_bind hx]
            generalize FEnc d (j.list.getD i TJson.dflt) = x at hF he ⊢
            generalize FJoin (FEnc d) j i = o at hF hjl ⊢
            repeat' (first | apply And.intro | intro _)
            all_goals (first | contradiction | exact hF | trivial | (rename_i hc; have hc := of_decide_eq_false hc; simp only [List.length_append, List.length_cons, List.length_nil] at hc; omega))
        · have h5 : (j.kind == 5) = true := by rw [hk]; rfl
          have hn := hp.name hk
          have hq := spec_l2Quote_ev (s := j.names.getD i []) (by omega)
          have hql := FQuote_len (j.names.getD i [])
          by_cases h0 : i = 0
          · have hg : decide ((i : Int) > 0) = false := decide_eq_false (by omega)
            have e0 : FJoin (FEnc d) j i = [] := by rw [h0]; rfl
            have e1 : FJoin (FEnc d) j (i + 1) = FPart (FEnc d) j i := by rw [h0]; exact FJoin_one _ _
            rw [e1] at hF
            unfold FPart at hF
            rw [h5, cond_true] at hF
            simp only [e0, spec_l2Encode.turn17, spec_l2Encode.step17, json_re, Int.toNat_natCast, hW, h5, hg, reduceCtorEq, false_implies, true_implies, true_and, and_true, ev_cond, ev_inB, ev_none, lt_up hi, in_up hi, in_up hn.1, ev_bind hx, ev_bind hq, List.nil_append]
            generalize FEnc d (j.list.getD i TJson.dflt) = x at hF he ⊢
            generalize FQuote (j.names.getD i []) = y at hF hql ⊢
            rw [← List.append_assoc] at hF
            repeat' (first | apply And.intro | intro _)
            all_goals (first | contradiction | exact hF | trivial | (rename_i hc; have hc := of_decide_eq_false hc; simp only [List.length_append, List.length_cons, List.length_nil] at hc; omega))
          · rw [FJoin_succ _ _ (by omega)] at hF
            unfold FPart at hF
            rw [h5, cond_true] at hF
            have hg : decide ((i : Int) > 0) = true := decide_eq_true (by omega)
            simp only [spec_l2Encode.turn17, spec_l2Encode.step17, json_re, Int.toNat_natCast, hW, h5, hg, ev_cond, ev_inB, ev_none, lt_up hi, in_up hi, in_up hn.1, ev_bind hx, ev_bind hq]
            generalize FEnc d (j.list.getD i TJson.dflt) = x at hF he ⊢
            generalize FQuote (j.names.getD i []) = y at hF hql ⊢
            generalize FJoin (FEnc d) j i = o at hF hjl ⊢
            rw [← List.append_assoc, ← List.append_assoc] at hF
            repeat' (first | apply And.intro | intro _)
            all_goals (first | contradiction | exact hF | trivial | (rename_i hc; have hc := of_decide_eq_false hc; simp only [List.length_append, List.length_cons, List.length_nil] at hc; omega))
      · simp only [spec_l2Encode.turn17, spec_l2Encode.step17, lt_end, cond_false]
        exact hK
    have hjl := join_len h j.list.length (Nat.le_refl _)
    simp only [spec_l2Encode, json_re]
    rcases ho.kind with hk | hk | hk | hk | hk | hk
    · simp only [FEnc, hk, Int.reduceBEq, cond_true, ev_some]
    · simp only [FEnc, hk, Int.reduceBEq, cond_true, cond_false, ev_cond, ev_some]
      cases (j.n_ == 1) <;> simp
    · have hn := ho.num hk
      simp only [FEnc, hk, Int.reduceBEq, cond_true, cond_false, ev_bind (spec_l2Digits_ev (x := j.n_) (by omega) (by omega)), ev_some]
    · have hs := ho.text hk
      simp only [FEnc, hk, Int.reduceBEq, cond_true, cond_false, ev_bind (spec_l2Quote_ev (s := j.s) (by omega)), ev_some]
    all_goals (
      have e0 : (j.kind == 0) = false := by rw [hk]; rfl
      have e1 : (j.kind == 1) = false := by rw [hk]; rfl
      have e2 : (j.kind == 2) = false := by rw [hk]; rfl
      have e3 : (j.kind == 3) = false := by rw [hk]; rfl
      simp only [FEnc, e0, e1, e2, e3, cond_false]
      refine hloop (by omega) _ _ ?_
      generalize FJoin (FEnc d) j j.list.length = o at hjl ⊢
      simp only [hk, Int.reduceBEq, cond_true, cond_false, ev_cond, ev_some, ev_none]
      refine ⟨fun _ => ⟨fun _ => trivial, fun hc => ?_⟩, fun hc => ?_⟩
      · have hc := of_decide_eq_false hc
        simp only [List.length_append, List.length_cons, List.length_nil] at hc; omega
      · have hc := of_decide_eq_false hc
        simp only [List.length_append, List.length_cons, List.length_nil] at hc; omega)
theorem Join_ev {l : List Bs} {sep : Bs} (hl : l.length ≤ 1000000) (hj : (Lib.join l sep).length ≤ 1000000000) : Ev (fun n _ => strings_Join n l sep) (Lib.join l sep) := by
  refine ev_succ ?_
  simp only [strings_Join, nJoin, ev_cond, ev_some, ev_none]
  refine ⟨fun _ => trivial, fun h => ?_⟩
  rw [decide_eq_true (by omega), decide_eq_true (by omega)] at h; cases h
theorem impl_written_ev : ∀ (d : Nat) (j : TJson), FSize d j ≤ 400 → Ev (fun n _ => impl_written n j) (FEnc d j)
  | 0, j, h => by simp only [FSize] at h; omega
  | d + 1, j, h => by
    have ho := (right_of h).1
    have hll := list_len h
    refine ev_succ ?_
    have hloop : ∀ (K : Nat → Int → Int → Bs → List TJson → List Bs → List Bs → Option Bs) (v : Bs), Ev (fun n N => K n j.kind j.n_ j.s j.list j.names ((List.range j.list.length).map (FPart (FEnc d) j))) v → Ev (fun n _ => impl_written.loop4 n (impl_written n) (K n) n j.list (j.list.length : Int) 0 j.kind j.n_ j.s j.list j.names []) v := by
      intro K v hK
      refine ev_seq (fun i => (List.range i).map (FPart (FEnc d) j)) j.list.length (fun n N i (o : List Bs) => impl_written.loop4 n (impl_written n) (K n) N j.list (j.list.length : Int) (i : Int) j.kind j.n_ j.s j.list j.names o) v (fun i hi F hF => ?_) ?_
      · have hp := part_of h hi
        have hx := impl_written_ev d (j.list.getD i TJson.dflt) hp.size
        have he := hp.enc
        have hW := W_up hi (show j.list.length ≤ topN by simp only [topN]; omega)
        have hol : ((List.range i).map (FPart (FEnc d) j)).length = i := by simp
        rw [List.range_succ, List.map_append, List.map_cons, List.map_nil] at hF
        unfold FPart at hF
        cases h5 : (j.kind == 5) with
        | false =>
          simp only [h5, cond_false] at hF
          unfold FPart at hol ⊢
          simp only [h5, cond_false] at hol ⊢
          simp only [impl_written.turn4, impl_written.step4, json_re, Int.toNat_natCast, hW, h5, cond_false, ev_cond, ev_inB, ev_none, ev_roomB, lt_up hi, in_up hi, ev_bind hx]
          generalize FEnc d (j.list.getD i TJson.dflt) = x at hF he ⊢
          generalize (List.range i).map _ = o at hF hol ⊢
          exact ⟨fun _ => ⟨trivial, by simp; omega, hF⟩, fun h => (by cases h)⟩
        | true =>
          have hn := hp.name (by simpa using h5)
          have hq := impl_quoted_ev (s := j.names.getD i []) (by omega)
          have hql := FQuote_len (j.names.getD i [])
          simp only [h5, cond_true] at hF
          unfold FPart at hol ⊢
          simp only [h5, cond_true] at hol ⊢
          simp only [impl_written.turn4, impl_written.step4, json_re, Int.toNat_natCast, hW, h5, cond_true, ev_cond, ev_inB, ev_none, ev_roomB, lt_up hi, in_up hi, in_up hn.1, ev_bind hx, ev_bind hq]
          generalize FEnc d (j.list.getD i TJson.dflt) = x at hF he ⊢
          generalize FQuote (j.names.getD i []) = y at hF hql ⊢
          generalize (List.range i).map _ = o at hF hol ⊢
          rw [← List.append_assoc] at hF
          repeat' (first | apply And.intro | intro _)
          all_goals (first | contradiction | exact hF | trivial | (rename_i hc; have hc := of_decide_eq_false hc; simp only [List.length_append, List.length_cons, List.length_nil] at hc; omega) | (simp; omega))
      · simp only [impl_written.turn4, impl_written.step4, lt_end, cond_false]
        exact hK
    have hjl := join_len h j.list.length (Nat.le_refl _)
    have hJ := Join_ev (l := (List.range j.list.length).map (FPart (FEnc d) j)) (sep := [44]) (by simp; omega) (by unfold FJoin at hjl; omega)
    simp only [impl_written, json_re]
    refine hloop _ _ ?_
    rcases ho.kind with hk | hk | hk | hk | hk | hk
    · simp only [FEnc, hk, Int.reduceBEq, cond_true, ev_some]
    · have hb := ho.bool hk
      simp only [FEnc, hk, Int.reduceBEq, cond_true, cond_false, ev_inB, ev_some]
      have : j.n_ = 0 ∨ j.n_ = 1 := by omega
      rcases this with e | e <;> rw [e] <;> exact ⟨⟨by decide, by decide⟩, rfl⟩
    · have hn := ho.num hk
      simp only [FEnc, hk, Int.reduceBEq, cond_true, cond_false, ev_bind (Itoa_ev (x := j.n_) (by omega) (by omega)), ev_some]
    · have hs := ho.text hk
      simp only [FEnc, hk, Int.reduceBEq, cond_true, cond_false, ev_bind (impl_quoted_ev (s := j.s) (by omega)), ev_some]
    all_goals (
      simp only [FEnc, hk, Int.reduceBEq, cond_true, cond_false, ev_bind hJ]
      unfold FJoin at hjl ⊢
      generalize Lib.join ((List.range j.list.length).map (FPart (FEnc d) j)) [44] = o at hjl ⊢
      simp only [ev_cond, ev_some, ev_none]
      refine ⟨fun _ => ⟨fun _ => trivial, fun hc => ?_⟩, fun hc => ?_⟩
      · have hc := of_decide_eq_false hc
        simp only [List.length_append, List.length_cons, List.length_nil] at hc; omega
      · have hc := of_decide_eq_false hc
        simp only [List.length_append, List.length_cons, List.length_nil] at hc; omega)
def FEncode (j : TJson) : Bs := cond (FJsonOk j) (cond (decide (((FEnc 6 j).length : Int) > 6000)) [] (FEnc 6 j)) []
theorem spec_Encode_ev {j : TJson} (h : lenJ 6 j) : Ev (fun n _ => spec_Encode n j) (FEncode j) := by
  refine ev_succ ?_
  simp only [spec_Encode, json_re, ev_bind (spec_JsonOk_ev h), ev_cond, ev_some, FEncode]
  cases hj : FJsonOk j with
  | false => simp
  | true =>
    simp only [ev_bind (spec_l2Encode_ev 6 j (of_decide_eq_true hj)), ev_cond, ev_some]
    cases decide (((FEnc 6 j).length : Int) > 6000) <;> simp
theorem impl_Encode_ev {j : TJson} (h : lenJ 6 j) : Ev (fun n _ => impl_Encode n j) (FEncode j) := by
  refine ev_succ ?_
  simp only [impl_Encode, json_re, ev_bind (impl_JsonOk_ev h), ev_cond, ev_some, FEncode]
  cases hj : FJsonOk j with
  | false => simp
  | true =>
    simp only [ev_bind (impl_written_ev 6 j (of_decide_eq_true hj)), ev_cond, ev_some]
    cases decide (((FEnc 6 j).length : Int) > 6000) <;> simp
end Go.Pi
end
section
set_option linter.unusedVariables false
set_option maxRecDepth 100000
set_option linter.unusedSimpArgs false
namespace Go.Pi
/-- no deeper than so -/
def deepJ : Nat → TJson → Prop
  | 0, _ => False
  | d + 1, j => ∀ x ∈ j.list, deepJ d x
theorem FSize_deep : ∀ (d : Nat) (j : TJson), FSize d j ≤ 400 → deepJ d j
  | 0, j, h => by simp only [FSize] at h; omega
  | d + 1, j, h => fun x hx => by
    refine FSize_deep d x ?_
    simp only [FSize] at h
    have := sumL_le (FSize d) hx
    cases ho : FOwn j with
    | false => rw [ho] at h; simp only [cond_false] at h; omega
    | true => rw [ho] at h; simp only [cond_true] at h; omega
def FTexts2 (a b : List Bs) : Bool := decide (a.length = b.length) && allN (fun i => a.getD i [] == b.getD i []) a.length
def FAlike : Nat → TJson → TJson → Bool
  | 0, _, _ => true
  | d + 1, a, b => (a.kind == b.kind) && ((a.n_ == b.n_) && ((a.s == b.s) && (FTexts2 a.names b.names && (decide (a.list.length = b.list.length) && allN (fun i => FAlike d (a.list.getD i TJson.dflt) (b.list.getD i TJson.dflt)) a.list.length))))
theorem ne_len {n m : Nat} : ((n : Int) != (m : Int)) = !decide (n = m) := by
  by_cases h : n = m
  · rw [h, decide_eq_true rfl]; simp
  · rw [decide_eq_false h]; simp; omega
theorem spec_l1Same_ev : ∀ (d : Nat) (a b : TJson), deepJ d a → lenJ d a → Ev (fun n _ => spec_l1Same n a b) (FAlike d a b)
  | 0, a, b, h, _ => h.elim
  | d + 1, a, b, h, hl => by
    refine ev_succ ?_
    simp only [spec_l1Same, ne_len, ev_cond, ev_some, FAlike, FTexts2]
    by_cases hq : a.list.length = b.list.length
    · by_cases hq2 : a.names.length = b.names.length
      · have hN : Ev (fun n _ => spec_l1Same.loop14 n (spec_l1Same n) (some true) n 0 a.kind a.n_ a.s a.list a.names b.kind b.n_ b.s b.list b.names) (allN (fun i => a.names.getD i [] == b.names.getD i []) a.names.length) := by
          refine ev_congr (ev_all (fun n N i => spec_l1Same.loop14 n (spec_l1Same n) (some true) N (i : Int) a.kind a.n_ a.s a.list a.names b.kind b.n_ b.s b.list b.names) (fun i => a.names.getD i [] == b.names.getD i []) (len := a.names.length) (v := true) (fun i w hi ih => ?_) ?_) (by rw [Bool.and_true])
          · simp only [spec_l1Same.turn14, spec_l1Same.step14, Int.toNat_natCast, W_up hi hl.1.2.1, ev_cond, ev_inB, ev_some, ev_iff ih, lt_up hi, in_up hi, in_up (hq2 ▸ hi)]
            cases (a.names.getD i [] == b.names.getD i []) <;> simp
          · simp only [spec_l1Same.turn14, spec_l1Same.step14, lt_end, cond_false, ev_some]
        have hL : Ev (fun n _ => spec_l1Same.loop6 n (spec_l1Same n) (fun xy2 xy3 xy4 xy5 xy6 xy7 xy8 xy9 xy10 xy11 => (spec_l1Same.loop14 n (spec_l1Same n) (some true) n 0 xy2 xy3 xy4 xy5 xy6 xy7 xy8 xy9 xy10 xy11)) n 0 a.kind a.n_ a.s a.list a.names b.kind b.n_ b.s b.list b.names) (allN (fun i => FAlike d (a.list.getD i TJson.dflt) (b.list.getD i TJson.dflt)) a.list.length && allN (fun i => a.names.getD i [] == b.names.getD i []) a.names.length) := by
          refine ev_all (fun n N i => spec_l1Same.loop6 n (spec_l1Same n) (fun xy2 xy3 xy4 xy5 xy6 xy7 xy8 xy9 xy10 xy11 => (spec_l1Same.loop14 n (spec_l1Same n) (some true) n 0 xy2 xy3 xy4 xy5 xy6 xy7 xy8 xy9 xy10 xy11)) N (i : Int) a.kind a.n_ a.s a.list a.names b.kind b.n_ b.s b.list b.names) _ (fun i w hi ih => ?_) ?_
          · have hx := spec_l1Same_ev d (a.list.getD i TJson.dflt) (b.list.getD i TJson.dflt) (h _ (getD_mem _ hi)) (hl.2.2 _ (getD_mem _ hi))
            simp only [spec_l1Same.turn6, spec_l1Same.step6, json_re, Int.toNat_natCast, W_up hi hl.2.1, ev_cond, ev_inB, ev_bind hx, ev_some, ev_iff ih, lt_up hi, in_up hi, in_up (hq ▸ hi)]
            cases FAlike d (a.list.getD i TJson.dflt) (b.list.getD i TJson.dflt) <;> simp
          · simp only [spec_l1Same.turn6, spec_l1Same.step6, lt_end, cond_false]
            exact hN
        rw [decide_eq_true hq, decide_eq_true hq2]
        simp only [ev_iff hL, bne]
        generalize allN (fun i => FAlike d (a.list.getD i TJson.dflt) (b.list.getD i TJson.dflt)) a.list.length = u
        generalize allN (fun i => a.names.getD i [] == b.names.getD i []) a.names.length = w
        cases (a.kind == b.kind) <;> cases (a.n_ == b.n_) <;> cases (a.s == b.s) <;> cases u <;> cases w <;> simp
      · rw [decide_eq_false hq2]
        simp only [bne]
        cases (a.kind == b.kind) <;> cases (a.n_ == b.n_) <;> cases (a.s == b.s) <;> cases decide (a.list.length = b.list.length) <;> simp
    · rw [decide_eq_false hq]
      simp only [bne]
      cases (a.kind == b.kind) <;> cases (a.n_ == b.n_) <;> cases (a.s == b.s) <;> simp
end Go.Pi
end
section
set_option linter.unusedVariables false
set_option maxRecDepth 100000
set_option linter.unusedSimpArgs false
namespace Go.Pi
/-! an object, a name put into it -/
def putAt (ns : List Bs) (x : Bs) : Nat := ns.findIdx (fun y => !Op.bytesLess y x)
def putTo (ns : List Bs) (x : Bs) : Nat := if ns.getD (putAt ns x) [] = x ∧ putAt ns x < ns.length then putAt ns x + 1 else putAt ns x
def putL {α : Type} (ns : List Bs) (x : Bs) (l : List α) (y : α) : List α := l.take (putAt ns x) ++ [y] ++ l.drop (putTo ns x)
theorem take_nextG {α : Type} (d : α) {a m : List α} {i q : Nat} (p : Nat) (hi : i < a.length) (h : q ≤ i) : a.take p ++ m ++ (a.take (i + 1)).drop q = a.take p ++ m ++ (a.take i).drop q ++ [a.getD i d] := by
  rw [take_next d hi, List.drop_append_of_le_length (by simp; omega)]
  simp
theorem put_idx {ns : List Bs} {x : Bs} {i : Nat} (hi : i < ns.length) (hle : i ≤ putAt ns x) : (!Op.bytesLess (ns.getD i []) x) = decide (i = putAt ns x) := by
  rw [List.getD_eq_getElem?_getD, List.getElem?_eq_getElem hi, Option.getD_some]
  unfold putAt at hle ⊢
  by_cases h : i = ns.findIdx (fun y => !Op.bytesLess y x)
  · rw [decide_eq_true h]
    have := List.findIdx_getElem (xs := ns) (p := fun y => !Op.bytesLess y x) (w := by omega)
    simp only [← h] at this
    exact this
  · rw [decide_eq_false h]
    exact List.not_of_lt_findIdx (xs := ns) (p := fun y => !Op.bytesLess y x) (i := i) (by omega)
theorem spec_l1Put_ev {o j : TJson} {x : Bs} (hk : o.names.length ≤ 2000000) (he : o.list.length = o.names.length) (hlt : ∀ y, Op.bytesLess y x = true → (y == x) = false) (hne : ∀ i, putTo o.names x ≤ i → i < o.names.length → (o.names.getD i [] == x) = false) :
    Ev (fun n _ => spec_l1Put n o x j) (TJson.mk 5 0 [] (putL o.names x o.list j) (putL o.names x o.names x)) := by
  refine ev_succ ?_
  have ht : o.names.length ≤ topN := by simp only [topN]; omega
  obtain ⟨p, hp⟩ : ∃ p, p = putAt o.names x := ⟨_, rfl⟩
  have hpl : p ≤ o.names.length := by rw [hp]; exact List.findIdx_le_length
  obtain ⟨q, hq⟩ : ∃ q, q = putTo o.names x := ⟨_, rfl⟩
  have hqp : p ≤ q ∧ q ≤ p + 1 := by rw [hq, hp]; unfold putTo; split <;> omega
  have hT : o.list.take o.names.length = o.list := List.take_of_length_le (by omega)
  let S : Nat → Bool × List TJson × List Bs := fun i => if i ≤ p then (false, o.list.take i, o.names.take i) else (true, o.list.take p ++ [j] ++ (o.list.take i).drop q, o.names.take p ++ [x] ++ (o.names.take i).drop q)
  have hS0 : S 0 = (false, [], []) := by simp [S]
  simp only [spec_l1Put]
  have := ev_seq S o.names.length (fun n N i (s : Bool × List TJson × List Bs) => spec_l1Put.loop5 n (fun xy1 xy2 xy3 xy4 xy5 xy6 xy7 xy8 xy9 xy10 xy11 xy12 xy13 xy14 xy15 => (cond (!xy2) (roomB (xy15.length + ([xy1] : List Bs).length) 16 (roomB (xy14.length + ([(TJson.mk xy3 xy4 xy5 xy6 xy7)] : List TJson).length) 80 (some (TJson.mk xy11 xy12 xy13 (xy14 ++ ([(TJson.mk xy3 xy4 xy5 xy6 xy7)] : List TJson)) (xy15 ++ ([xy1] : List Bs)))))) (some (TJson.mk xy11 xy12 xy13 xy14 xy15)))) N x s.1 (i : Int) o.kind o.n_ o.s o.list o.names j.kind j.n_ j.s j.list j.names 0 0 [] 5 0 [] s.2.1 s.2.2)
    (TJson.mk 5 0 [] (putL o.names x o.list j) (putL o.names x o.names x)) (fun i hi F hF => ?_) ?_
  · rw [hS0] at this; exact this
  · have hx := put_idx (ns := o.names) (x := x) hi
    rw [← hp] at hx
    have hln : (S i).2.2.length ≤ o.names.length + 1 := by simp only [S]; split <;> simp <;> omega
    have hll : (S i).2.1.length ≤ o.names.length + 1 := by simp only [S]; split <;> simp <;> omega
    have hil : i < o.list.length := by omega
    simp only [spec_l1Put.turn5, spec_l1Put.step5, json_eta, json_re, Int.toNat_natCast, W_up hi ht, ev_cond, ev_inB, ev_roomB, lt_up hi, in_up hi, in_up hil]
    by_cases hle : i ≤ p
    · have s1 : S i = (false, o.list.take i, o.names.take i) := by simp only [S, if_pos hle]
      rw [s1] at hln hll ⊢
      by_cases e : i = p
      · have hb : (!Op.bytesLess (o.names.getD i []) x) = true := by rw [hx hle]; exact decide_eq_true e
        subst e
        by_cases hs : o.names.getD i [] = x
        · have hqv : q = i + 1 := by rw [hq]; unfold putTo; rw [← hp, if_pos ⟨hs, hi⟩]
          have s2 : S (i + 1) = (true, o.list.take i ++ [j], o.names.take i ++ [x]) := by
            simp only [S, if_neg (show ¬ i + 1 ≤ i by omega)]
            rw [List.drop_eq_nil_of_le (by simp; omega), List.drop_eq_nil_of_le (by simp; omega), List.append_nil, List.append_nil]
          rw [s2] at hF
          have hs' : (o.names.getD i [] == x) = true := by simpa using hs
          simp only [hb, hs', cond_true, cond_false, Bool.not_true, Bool.not_false]
          repeat' (first | apply And.intro | intro _)
          all_goals (first | contradiction | exact hF | trivial | (simp; omega))
        · have hqv : q = i := by rw [hq]; unfold putTo; rw [← hp, if_neg (fun h => hs h.1)]
          have s2 : S (i + 1) = (true, o.list.take i ++ [j] ++ [o.list.getD i TJson.dflt], o.names.take i ++ [x] ++ [o.names.getD i []]) := by
            simp only [S, if_neg (show ¬ i + 1 ≤ i by omega), hqv]
            rw [take_nextG TJson.dflt i hil (Nat.le_refl _), take_nextG [] i hi (Nat.le_refl _), List.drop_eq_nil_of_le (by simp; omega), List.drop_eq_nil_of_le (by simp; omega), List.append_nil, List.append_nil]
          rw [s2] at hF
          have hs' : (o.names.getD i [] == x) = false := by simpa using hs
          simp only [hb, hs', cond_true, cond_false, Bool.not_true, Bool.not_false]
          repeat' (first | apply And.intro | intro _)
          all_goals (first | contradiction | exact hF | trivial | (simp; omega))
      · have hb : (!Op.bytesLess (o.names.getD i []) x) = false := by rw [hx hle]; exact decide_eq_false e
        have hs' : (o.names.getD i [] == x) = false := hlt (o.names.getD i []) (by rw [Bool.not_eq_false'] at hb; exact hb)
        have s2 : S (i + 1) = (false, o.list.take i ++ [o.list.getD i TJson.dflt], o.names.take i ++ [o.names.getD i []]) := by
          simp only [S, if_pos (show i + 1 ≤ p by omega), take_next TJson.dflt hil, take_next [] hi]
        rw [s2] at hF
        simp only [hb, hs', cond_true, cond_false, Bool.not_true, Bool.not_false]
        repeat' (first | apply And.intro | intro _)
        all_goals (first | contradiction | exact hF | trivial | (simp; omega))
    · have s1 : S i = (true, o.list.take p ++ [j] ++ (o.list.take i).drop q, o.names.take p ++ [x] ++ (o.names.take i).drop q) := by simp only [S, if_neg hle]
      have s2 : S (i + 1) = (true, o.list.take p ++ [j] ++ (o.list.take i).drop q ++ [o.list.getD i TJson.dflt], o.names.take p ++ [x] ++ (o.names.take i).drop q ++ [o.names.getD i []]) := by
        simp only [S, if_neg (show ¬ i + 1 ≤ p by omega)]
        rw [take_nextG TJson.dflt p hil (by omega), take_nextG [] p hi (by omega)]
      have hs' := hne i (by omega) hi
      rw [s1] at hln hll ⊢
      rw [s2] at hF
      simp only [hs', cond_true, cond_false, Bool.not_true, Bool.not_false]
      repeat' (first | apply And.intro | intro _)
      all_goals (first | contradiction | exact hF | trivial | (simp at hln hll ⊢; omega))
  · simp only [spec_l1Put.turn5, spec_l1Put.step5, json_eta, lt_end, cond_false, ev_cond, ev_roomB, ev_some]
    unfold putL
    rw [← hp, ← hq]
    by_cases hle : o.names.length ≤ p
    · have e : p = o.names.length := by omega
      have hqv : q = p := by rw [hq]; unfold putTo; rw [← hp, if_neg (fun h => by omega)]
      have s1 : S o.names.length = (false, o.list, o.names) := by simp only [S, if_pos hle, List.take_length]; rw [List.take_of_length_le (by omega)]
      rw [s1, hqv, e, List.take_of_length_le (l := o.list) (by omega), List.drop_eq_nil_of_le (show o.list.length ≤ o.names.length by omega), List.take_length, List.drop_length]
      refine ⟨fun _ => ⟨by simp; omega, by simp; omega, by simp⟩, fun h => (by cases h)⟩
    · have s1 : S o.names.length = (true, o.list.take p ++ [j] ++ o.list.drop q, o.names.take p ++ [x] ++ o.names.drop q) := by simp only [S, if_neg hle, List.take_length]; rw [hT]
      rw [s1]
      exact ⟨fun h => (by cases h), fun _ => rfl⟩
end Go.Pi
end
section
set_option linter.unusedVariables false
set_option maxRecDepth 100000
set_option linter.unusedSimpArgs false
namespace Go.Pi
/-! texts in order -/
theorem bytesLt : ∀ (x y : Bs), Op.bytesLess x y = decide (x < y)
  | [], [] => by simp [Op.bytesLess]
  | _ :: _, [] => by simp [Op.bytesLess]
  | [], _ :: _ => by simp [Op.bytesLess]
  | a :: x, b :: y => by
    rw [Op.bytesLess, bytesLt x y]
    simp only [List.cons_lt_cons_iff]
    by_cases h1 : a < b <;> by_cases h2 : a = b <;> by_cases h3 : x < y <;> simp [h1, h2, h3]
theorem less_ne {x y : Bs} (h : Op.bytesLess y x = true) : (y == x) = false := by
  rw [bytesLt] at h
  exact beq_eq_false_iff_ne.2 fun e => by subst e; exact List.lt_irrefl y (of_decide_eq_true h)
end Go.Pi
end
section
set_option linter.unusedVariables false
set_option maxRecDepth 100000
set_option linter.unusedSimpArgs false
namespace Go.Pi
def nullJ : TJson := TJson.mk 0 0 [] [] []
/-- a value, or none where it is not right -/
def FRight (j : TJson) : TJson := cond (FJsonOk j) j nullJ
theorem orNull_ev {j : TJson} (h : lenJ 6 j) : Ev (fun n _ => impl_orNull n j) (FRight j) := by
  refine ev_succ ?_
  simp only [impl_orNull, json_re, ev_bind (impl_JsonOk_ev h), ev_cond, ev_some, FRight, nullJ]
  cases FJsonOk j <;> simp
end Go.Pi
end
section
set_option linter.unusedVariables false
set_option maxRecDepth 100000
set_option linter.unusedSimpArgs false
namespace Go.Pi
/-! a value copied; an op az a value -/
theorem names_len {d : Nat} {j : TJson} (h : FSize (d + 1) j ≤ 400) : j.names.length ≤ 400 := by
  have h1 := list_len h
  have ho := (right_of h).1
  by_cases hk : j.kind = 5
  · have := (ho.obj hk).1; omega
  · have : FOwn j = true := by
      simp only [FSize] at h
      cases hf : FOwn j with
      | true => rfl
      | false => rw [hf, cond_false] at h; omega
    unfold FOwn at this
    simp only [Bool.and_eq_true, Bool.or_eq_true] at this
    rcases this.2.1 with h2 | h2
    · have := of_decide_eq_true h2; omega
    · exact absurd (by simpa using h2) hk
theorem impl_copyJson_ev : ∀ (d : Nat) (j : TJson), FSize d j ≤ 400 → Ev (fun n _ => impl_copyJson n j) j
  | 0, j, h => by simp only [FSize] at h; omega
  | d + 1, j, h => by
    have hll := list_len h
    have hnl := names_len h
    refine ev_succ ?_
    have hc : Ev (fun n _ => impl_copyTexts n j.names) j.names := ev_succ (by simp only [impl_copyTexts, ev_roomB, ev_some, List.nil_append, List.length_nil, and_true]; omega)
    simp only [impl_copyJson, ev_bind hc]
    have := ev_seq (fun i => j.list.take i) j.list.length (fun n N i (o : List TJson) => impl_copyJson.loop4 n (impl_copyJson n) (fun xy3 xy4 xy5 xy6 xy7 xy8 xy9 xy10 => (some (TJson.mk xy6 xy7 xy8 xy9 xy10))) N j.list (j.list.length : Int) (i : Int) 0 0 [] j.kind j.n_ j.s o j.names) j (fun i hi F hF => ?_) ?_
    · exact this
    · have hp := part_of h hi
      have hx := impl_copyJson_ev d (j.list.getD i TJson.dflt) hp.size
      rw [take_next TJson.dflt hi] at hF
      simp only [impl_copyJson.turn4, impl_copyJson.step4, json_re, Int.toNat_natCast, W_up hi (show j.list.length ≤ topN by simp only [topN]; omega), ev_cond, ev_inB, ev_roomB, lt_up hi, in_up hi, ev_bind hx]
      exact ⟨fun _ => ⟨trivial, by simp; omega, hF⟩, fun h => (by cases h)⟩
    · simp only [impl_copyJson.turn4, impl_copyJson.step4, lt_end, cond_false, List.take_length, ev_some, json_eta]
theorem spec_l1Copy_ev : ∀ (d : Nat) (j : TJson), FSize d j ≤ 400 → Ev (fun n _ => spec_l1Copy n j) j
  | 0, j, h => by simp only [FSize] at h; omega
  | d + 1, j, h => by
    have hll := list_len h
    have hnl := names_len h
    refine ev_succ ?_
    simp only [spec_l1Copy, ev_roomB, List.nil_append, List.length_nil]
    refine ⟨by omega, ?_⟩
    have := ev_seq (fun i => j.list.take i) j.list.length (fun n N i (o : List TJson) => spec_l1Copy.loop4 n (spec_l1Copy n) (fun xy2 xy3 xy4 xy5 xy6 xy7 xy8 xy9 => (some (TJson.mk xy5 xy6 xy7 xy8 xy9))) N (i : Int) j.kind j.n_ j.s j.list j.names 0 0 [] j.kind j.n_ j.s o j.names) j (fun i hi F hF => ?_) ?_
    · exact this
    · have hp := part_of h hi
      have hx := spec_l1Copy_ev d (j.list.getD i TJson.dflt) hp.size
      rw [take_next TJson.dflt hi] at hF
      simp only [spec_l1Copy.turn4, spec_l1Copy.step4, json_re, Int.toNat_natCast, W_up hi (show j.list.length ≤ topN by simp only [topN]; omega), ev_cond, ev_inB, ev_roomB, lt_up hi, in_up hi, ev_bind hx]
      exact ⟨fun _ => ⟨trivial, by simp; omega, hF⟩, fun h => (by cases h)⟩
    · simp only [spec_l1Copy.turn4, spec_l1Copy.step4, lt_end, cond_false, List.take_length, ev_some, json_eta]
def FZero (j : TJson) : Bool := (j.kind == 0) && ((j.n_ == 0) && ((j.s == []) && (decide (j.list.length = 0) && decide (j.names.length = 0))))
theorem len_zero {α : Type} (l : List α) : ((l.length : Int) == 0) = decide (l.length = 0) := by
  by_cases h : l.length = 0
  · rw [h]; rfl
  · rw [decide_eq_false h]; simp; intro e; exact h (by rw [e]; rfl)
theorem impl_isZero_ev {j : TJson} : Ev (fun n _ => impl_isZero n j) (FZero j) := by
  refine ev_succ ?_
  simp only [impl_isZero, ev_cond, ev_some, FZero, len_zero]
  cases (j.kind == 0) <;> cases (j.n_ == 0) <;> cases (j.s == []) <;> cases decide (j.list.length = 0) <;> simp
theorem alike_null (d : Nat) (j : TJson) : FAlike (d + 1) j nullJ = FZero j := by
  simp only [FAlike, nullJ, FTexts2, FZero, List.length_nil]
  by_cases h1 : j.names.length = 0
  · by_cases h2 : j.list.length = 0
    · rw [h1, h2]; simp [allN, allFrom]
    · have h2 : j.list ≠ [] := fun e => h2 (by rw [e]; rfl)
      simp [h2]
  · have h1 : j.names ≠ [] := fun e => h1 (by rw [e]; rfl)
    simp [h1]
def FTexts (w : List Bs) : Bool := allN (fun i => FText (w.getD i [])) w.length
def FOpOk (o : TOp) : Bool := inn o.kind 1 4 && (decide (o.way.length ≤ 6) && (FJsonOk o.value && (FTexts o.way && ((o.kind != 2) || FZero o.value))))
def lenOp (o : TOp) : Prop := lenNs topN o.way ∧ lenJ 6 o.value
theorem op_eta (o : TOp) : TOp.mk o.kind o.way o.value = o := rfl
theorem gt_le {n : Nat} : decide ((n : Int) > 6) = !decide (n ≤ 6) := by
  by_cases h : n ≤ 6
  · rw [decide_eq_true h, decide_eq_false (by omega)]; rfl
  · rw [decide_eq_false h, decide_eq_true (by omega)]; rfl
theorem le_le {n : Nat} : decide ((n : Int) ≤ 6) = decide (n ≤ 6) := by
  by_cases h : n ≤ 6
  · rw [decide_eq_true h, decide_eq_true (by omega)]
  · rw [decide_eq_false h, decide_eq_false (by omega)]
theorem spec_OpOk_ev {o : TOp} (h : lenOp o) : Ev (fun n _ => spec_OpOk n o) (FOpOk o) := by
  refine ev_succ ?_
  simp only [spec_OpOk, json_re, l1In_b, ev_bind (spec_JsonOk_ev h.2), ev_cond, ev_some, gt_le, FOpOk]
  cases hj : FJsonOk o.value with
  | false => cases inn o.kind 1 4 <;> cases decide (o.way.length ≤ 6) <;> simp
  | true =>
    have hS := spec_l1Same_ev 6 o.value nullJ (FSize_deep 6 o.value (of_decide_eq_true hj)) h.2
    rw [alike_null] at hS
    unfold nullJ at hS
    have hl : Ev (fun n _ => spec_OpOk.loop6 n (fun xy4 xy5 xy6 xy7 xy8 xy9 xy10 => (cond (xy4 != 2) (some true) ((spec_l1Same n (TJson.mk xy6 xy7 xy8 xy9 xy10) (TJson.mk 0 0 [] [] [])).bind fun xr11 => (some xr11)))) n 0 o.kind o.way o.value.kind o.value.n_ o.value.s o.value.list o.value.names) (FTexts o.way && ((o.kind != 2) || FZero o.value)) := by
      refine ev_all (fun n N i => spec_OpOk.loop6 n (fun xy4 xy5 xy6 xy7 xy8 xy9 xy10 => (cond (xy4 != 2) (some true) ((spec_l1Same n (TJson.mk xy6 xy7 xy8 xy9 xy10) (TJson.mk 0 0 [] [] [])).bind fun xr11 => (some xr11)))) N (i : Int) o.kind o.way o.value.kind o.value.n_ o.value.s o.value.list o.value.names) _ (fun i w hi ih => ?_) ?_
      · simp only [spec_OpOk.turn6, spec_OpOk.step6, Int.toNat_natCast, W_up hi h.1.1, ev_cond, ev_inB, ev_bind (spec_l1Text_ev (getD_text h.1 i)), ev_some, ev_iff ih, lt_up hi, in_up hi]
        cases FText (o.way.getD i []) <;> simp
      · simp only [spec_OpOk.turn6, spec_OpOk.step6, lt_end, cond_false, json_eta, ev_cond, ev_bind hS, ev_some]
        cases (o.kind != 2) <;> simp
    simp only [ev_iff hl]
    cases inn o.kind 1 4 <;> cases decide (o.way.length ≤ 6) <;> simp
theorem impl_OpOk_ev {o : TOp} (h : lenOp o) : Ev (fun n _ => impl_OpOk n o) (FOpOk o) := by
  refine ev_succ ?_
  simp only [impl_OpOk]
  have e : FOpOk o = (FTexts o.way && (inn o.kind 1 4 && (decide (o.way.length ≤ 6) && (FJsonOk o.value && ((o.kind != 2) || FZero o.value))))) := by
    unfold FOpOk
    cases inn o.kind 1 4 <;> cases decide (o.way.length ≤ 6) <;> cases FJsonOk o.value <;> cases FTexts o.way <;> simp
  rw [e]
  refine ev_all (fun n N i => impl_OpOk.loop3 n (fun xy2 xy3 xy4 xy5 xy6 xy7 xy8 => ((impl_within n xy2 1 4).bind fun xr9 => (cond xr9 (cond (decide ((xy3.length : Int) ≤ 6)) ((impl_JsonOk n (TJson.mk xy4 xy5 xy6 xy7 xy8)).bind fun xr10 => (cond xr10 (cond (xy2 != 2) (some true) ((impl_isZero n (TJson.mk xy4 xy5 xy6 xy7 xy8)).bind fun xr11 => (some xr11))) (some false))) (some false)) (some false)))) N o.way (o.way.length : Int) (i : Int) o.kind o.way o.value.kind o.value.n_ o.value.s o.value.list o.value.names) _ (fun i w hi ih => ?_) ?_
  · simp only [impl_OpOk.turn3, impl_OpOk.step3, Int.toNat_natCast, W_up hi h.1.1, ev_cond, ev_inB, ev_bind (impl_textOk_ev (getD_text h.1 i)), ev_some, ev_iff ih, lt_up hi, in_up hi]
    cases FText (o.way.getD i []) <;> simp
  · simp only [impl_OpOk.turn3, impl_OpOk.step3, lt_end, cond_false, json_eta, ev_cond, within_b, le_le, ev_bind (impl_JsonOk_ev h.2), ev_bind impl_isZero_ev, ev_some]
    cases inn o.kind 1 4 <;> cases decide (o.way.length ≤ 6) <;> cases FJsonOk o.value <;> cases (o.kind != 2) <;> simp
def FOpName (k : Int) : Bs := cond (k == 1) [97, 100, 100] (cond (k == 2) [114, 101, 109, 111, 118, 101] (cond (k == 3) [114, 101, 112, 108, 97, 99, 101] [116, 101, 115, 116]))
def txtJ (s : Bs) : TJson := TJson.mk 3 0 s [] []
abbrev nmOp : Bs := [111, 112]
abbrev nmPath : Bs := [112, 97, 116, 104]
abbrev nmValue : Bs := [118, 97, 108, 117, 101]
def FOpVal (o : TOp) : TJson := cond (o.kind == 2) (TJson.mk 5 0 [] [txtJ (FOpName o.kind), txtJ (FWay o.way)] [nmOp, nmPath]) (TJson.mk 5 0 [] [txtJ (FOpName o.kind), txtJ (FWay o.way), o.value] [nmOp, nmPath, nmValue])
def FOpJson (o : TOp) : TJson := cond (FOpOk o) (FRight (FOpVal o)) nullJ
theorem lenJ_dn : ∀ (d : Nat) (j : TJson), lenJ (d + 1) j → lenJ d j
  | 0, _, _ => trivial
  | d + 1, j, h => ⟨h.1, h.2.1, fun x hx => lenJ_dn d x (h.2.2 x hx)⟩
theorem lenJ_txt {s : Bs} (h : s.length ≤ topN) : ∀ d, lenJ d (txtJ s)
  | 0 => trivial
  | d + 1 => ⟨⟨h, Nat.zero_le _, fun x hx => (by cases hx)⟩, Nat.zero_le _, fun x hx => (by cases hx)⟩
theorem lenJ_null : ∀ d, lenJ d nullJ
  | 0 => trivial
  | d + 1 => ⟨⟨Nat.zero_le _, Nat.zero_le _, fun x hx => (by cases hx)⟩, Nat.zero_le _, fun x hx => (by cases hx)⟩
structure OpIs (o : TOp) : Prop where
  kind : o.kind = 1 ∨ o.kind = 2 ∨ o.kind = 3 ∨ o.kind = 4
  way : o.way.length ≤ 6
  text : ∀ s ∈ o.way, s.length ≤ 60
  val : FSize 6 o.value ≤ 400
theorem op_is {o : TOp} (h : FOpOk o = true) : OpIs o := by
  unfold FOpOk at h
  simp only [Bool.and_eq_true] at h
  obtain ⟨h1, h2, h3, h4, _⟩ := h
  have hk := inn_true h1
  refine ⟨by omega, of_decide_eq_true h2, fun s hs => ?_, of_decide_eq_true h3⟩
  obtain ⟨i, hi, e⟩ := List.mem_iff_getElem.1 hs
  have := allN_iff.1 h4 i hi
  rw [List.getD_eq_getElem?_getD, List.getElem?_eq_getElem hi, Option.getD_some, e] at this
  exact FText_len this
theorem name_len (k : Int) : (FOpName k).length ≤ 60 := by
  unfold FOpName
  cases (k == 1) <;> cases (k == 2) <;> cases (k == 3) <;> simp
theorem lenJ_opval {o : TOp} (h : lenOp o) (ho : OpIs o) : lenJ 6 (FOpVal o) := by
  have hw := FWay_len ho.text
  have hwl := ho.way
  have hw2 : (FWay o.way).length ≤ topN := by simp only [topN]; omega
  have hn : (FOpName o.kind).length ≤ topN := by have := name_len o.kind; simp only [topN]; omega
  have hv := lenJ_dn 5 _ h.2
  unfold FOpVal
  cases (o.kind == 2) with
  | true =>
    refine ⟨⟨Nat.zero_le _, by show 2 ≤ topN; decide, fun x hx => ?_⟩, by show 2 ≤ topN; decide, fun x hx => ?_⟩
    · simp at hx; rcases hx with e | e <;> (rw [e]; decide)
    · simp at hx; rcases hx with e | e
      · rw [e]; exact lenJ_txt hn 5
      · rw [e]; exact lenJ_txt hw2 5
  | false =>
    refine ⟨⟨Nat.zero_le _, by show 3 ≤ topN; decide, fun x hx => ?_⟩, by show 3 ≤ topN; decide, fun x hx => ?_⟩
    · simp at hx; rcases hx with e | e | e <;> (rw [e]; decide)
    · simp at hx; rcases hx with e | e | e
      · rw [e]; exact lenJ_txt hn 5
      · rw [e]; exact lenJ_txt hw2 5
      · rw [e]; exact hv
theorem lenJ_opjson {o : TOp} (h : lenOp o) : lenJ 6 (FOpJson o) := by
  unfold FOpJson
  cases ho : FOpOk o with
  | false => exact lenJ_null 6
  | true =>
    unfold FRight
    cases FJsonOk (FOpVal o) with
    | false => exact lenJ_null 6
    | true => exact lenJ_opval h (op_is ho)
theorem put_value (a b v : TJson) : Ev (fun n _ => spec_l1Put n (TJson.mk 5 0 [] [a, b] [nmOp, nmPath]) nmValue v) (TJson.mk 5 0 [] [a, b, v] [nmOp, nmPath, nmValue]) :=
  spec_l1Put_ev (o := TJson.mk 5 0 [] [a, b] [nmOp, nmPath]) (j := v) (x := nmValue) (by show 2 ≤ 2000000; decide) rfl (fun _ => less_ne) (fun i h1 h2 => by
    have : putTo [nmOp, nmPath] nmValue = 2 := by decide
    have h2 : i < 2 := h2
    have h1 : putTo [nmOp, nmPath] nmValue ≤ i := h1
    omega)
theorem spec_OpJson_ev {o : TOp} (h : lenOp o) : Ev (fun n _ => spec_OpJson n o) (FOpJson o) := by
  refine ev_succ ?_
  have hN : Ev (fun n _ => spec_l4Names n ()) [[], [97, 100, 100], [114, 101, 109, 111, 118, 101], [114, 101, 112, 108, 97, 99, 101], [116, 101, 115, 116]] := ev_succ (by simp only [spec_l4Names, ev_some])
  simp only [spec_OpJson, json_re, op_eta, ev_bind (spec_OpOk_ev h), ev_cond, ev_some]
  unfold FOpJson
  cases ho : FOpOk o with
  | false => exact ⟨fun _ => rfl, fun h => (by cases h)⟩
  | true =>
    refine ⟨fun h => (by cases h), fun _ => ?_⟩
    have hi := op_is ho
    have hV := spec_JsonOk_ev (lenJ_opval h hi)
    have hCp := spec_l1Copy_ev 6 o.value hi.val
    simp only [ev_bind hN, ev_inB, ev_bind (spec_WayText_ev hi.way hi.text)]
    unfold FRight nullJ FOpVal txtJ FOpName
    unfold FOpVal txtJ FOpName at hV
    rcases hi.kind with hk | hk | hk | hk
    all_goals (
      simp only [hk, Int.reduceBEq, cond_true, cond_false] at hV
      simp only [hk, Int.reduceBEq, cond_true, cond_false, bne, Bool.not_false, Bool.not_true, Int.reduceToNat, List.getD_cons_succ, List.getD_cons_zero, ev_cond, ev_bind hCp, ev_bind (put_value _ _ _), ev_bind hV, ev_some]
      refine ⟨⟨by decide, by decide⟩, ?_⟩
      generalize FJsonOk _ = q
      cases q <;> simp)
theorem impl_OpJson_ev {o : TOp} (h : lenOp o) : Ev (fun n _ => impl_OpJson n o) (FOpJson o) := by
  refine ev_succ ?_
  have hN : Ev (fun n _ => impl_opNames n ()) [[97, 100, 100], [114, 101, 109, 111, 118, 101], [114, 101, 112, 108, 97, 99, 101], [116, 101, 115, 116]] := ev_succ (by simp only [impl_opNames, ev_some])
  simp only [impl_OpJson, json_re, op_eta, ev_bind (impl_OpOk_ev h), ev_cond, ev_some]
  unfold FOpJson
  cases ho : FOpOk o with
  | false => exact ⟨fun _ => rfl, fun h => (by cases h)⟩
  | true =>
    refine ⟨fun h => (by cases h), fun _ => ?_⟩
    have hi := op_is ho
    have hV := orNull_ev (lenJ_opval h hi)
    have hCp := impl_copyJson_ev 6 o.value hi.val
    simp only [ev_bind hN, ev_inB, ev_bind (impl_WayText_ev hi.way hi.text)]
    simp only [cond_true]
    unfold FOpVal txtJ FOpName
    unfold FOpVal txtJ FOpName at hV
    have w1 : W ((1 : Int) - 1) = 0 := by rw [W_id (by decide) (by decide)]; rfl
    have w2 : W ((2 : Int) - 1) = 1 := by rw [W_id (by decide) (by decide)]; rfl
    have w3 : W ((3 : Int) - 1) = 2 := by rw [W_id (by decide) (by decide)]; rfl
    have w4 : W ((4 : Int) - 1) = 3 := by rw [W_id (by decide) (by decide)]; rfl
    rcases hi.kind with hk | hk | hk | hk
    all_goals (
      simp only [hk, Int.reduceBEq, cond_true, cond_false] at hV
      simp only [hk, w1, w2, w3, w4, Int.reduceBEq, cond_true, cond_false, bne, Bool.not_false, Bool.not_true, Int.reduceToNat, List.getD_cons_succ, List.getD_cons_zero, List.cons_append, List.nil_append, ev_cond, ev_roomB, ev_bind hCp, ev_bind hV, ev_some, true_implies, false_implies, reduceCtorEq, and_true, true_and]
      simp only [List.length_cons, List.length_nil]
      decide)
end Go.Pi
end
section
set_option linter.unusedVariables false
set_option maxRecDepth 100000
set_option linter.unusedSimpArgs false
namespace Go.Pi
mutual
def TJson.size : TJson → Nat
  | ⟨_, _, s, l, ns⟩ => s.length + ((l.length + TJson.sizes l) + sizeL szB ns)
def TJson.sizes : List TJson → Nat
  | [] => 0
  | x :: l => TJson.size x + TJson.sizes l
end
mutual
def TJson.len : TJson → Prop
  | ⟨_, _, s, l, ns⟩ => s.length ≤ topN ∧ (l.length ≤ topN ∧ TJson.lens l) ∧ lenL lenB ns
def TJson.lens : List TJson → Prop
  | [] => True
  | x :: l => TJson.len x ∧ TJson.lens l
end
theorem TJson.sizes_eq : ∀ l : List TJson, TJson.sizes l = sumL TJson.size l
  | [] => by simp only [TJson.sizes, sumL]
  | x :: l => by simp only [TJson.sizes, sumL, TJson.sizes_eq l]
theorem TJson.lens_iff : ∀ l : List TJson, TJson.lens l ↔ ∀ x ∈ l, TJson.len x
  | [] => by simp [TJson.lens]
  | x :: l => by simp [TJson.lens, TJson.lens_iff l]
theorem TJson.size_eq (j : TJson) : TJson.size j = j.s.length + (sizeL TJson.size j.list + sizeL szB j.names) := by
  cases j; simp only [TJson.size, TJson.sizes_eq, sizeL]
theorem TJson.len_iff (j : TJson) : TJson.len j ↔ j.s.length ≤ topN ∧ lenL TJson.len j.list ∧ lenL lenB j.names := by
  cases j; simp only [TJson.len, TJson.lens_iff, lenL]
theorem TJson.re_eq (j : TJson) : TJson.re j = j := by cases j; rfl
def TOp.size (s : TOp) : Nat := (sizeL szB) s.way + TJson.size s.value
def TOp.len (s : TOp) : Prop := (lenL lenB) s.way ∧ TJson.len s.value
theorem TOp.eta (x : TOp) : TOp.mk x.kind x.way x.value = x := rfl
def TEvent.size (s : TEvent) : Nat := TJson.size s.doc + (sizeL TOp.size) s.ops
def TEvent.len (s : TEvent) : Prop := TJson.len s.doc ∧ (lenL TOp.len) s.ops
theorem TEvent.eta (x : TEvent) : TEvent.mk x.kind x.version x.base x.doc x.ops = x := rfl
theorem szJsonS_ih {a : List TJson} {l : Int} (ha : lenL TJson.len a) (ih : ∀ x ∈ a, ∀ l, 0 ≤ l → l ≤ 1048576 → Ev (fun n _ => laws_szJson n x l) (subS l (TJson.size x))) (h0 : 0 ≤ l) (h1 : l ≤ 1048576) : Ev (fun n _ => laws_szJsonS n a l) (subS l (sizeL TJson.size a)) := by
  refine ev_succ ?_
  refine ev_szL (g := fun n N x => laws_szJsonS.loop7 n (laws_szJson n) (fun xy2 => (some xy2)) n a x 0) h0 h1 ha.1 fun l h0 h1 => sz_list TJson.dflt TJson.size (fun n N l i => laws_szJsonS.loop7 n (laws_szJson n) (fun xy2 => (some xy2)) N a l (i : Int)) a (fun i l hi h0 h1 t kk => ?_) (fun l => ?_) l h0 h1
  · show Ev (fun n N => laws_szJsonS.step7 n (laws_szJson n) (fun xy2 => (some xy2)) (laws_szJsonS.loop7 n (laws_szJson n) (fun xy2 => (some xy2)) N) a l (i : Int)) _
    simp only [laws_szJsonS.step7, TJson.re_eq, ev_cond, ev_inB, Int.toNat_natCast, W_up hi ha.1]
    refine ⟨fun _ => ?_, fun h => absurd hi (by simpa using h)⟩
    refine ⟨⟨by omega, by omega⟩, ?_⟩
    have := ev_sz (t := t) (g := fun n N x => laws_szJsonS.loop7 n (laws_szJson n) (fun xy2 => (some xy2)) N a x ((i + 1 : Nat) : Int)) h0 h1 (ih _ (getD_mem TJson.dflt hi) _ h0 h1) kk
    simpa only [ev_cond, ev_some] using this
  · show Ev (fun n N => laws_szJsonS.step7 n (laws_szJson n) (fun xy2 => (some xy2)) (laws_szJsonS.loop7 n (laws_szJson n) (fun xy2 => (some xy2)) N) a l (a.length : Int)) _
    simp only [laws_szJsonS.step7, ev_cond, ev_some]
    exact ⟨fun h => absurd (of_decide_eq_true h) (by omega), fun _ => trivial⟩
theorem szStringS_ev {a : List Bs} {l : Int} (ha : (lenL lenB) a) (h0 : 0 ≤ l) (h1 : l ≤ 1048576) : Ev (fun n _ => laws_szStringS n a l) (subS l ((sizeL szB) a)) := by
  refine ev_succ ?_
  refine ev_szL (g := fun n N x => laws_szStringS.loop7 n (fun xy1 => (some xy1)) (n) a x 0) h0 h1 ha.1 fun l h0 h1 => sz_list [] szB (fun n N l i => laws_szStringS.loop7 n (fun xy1 => (some xy1)) (N) a l (i : Int)) a (fun i l hi h0 h1 t kk => ?_) (fun l => ?_) l h0 h1
  · show Ev (fun n N => laws_szStringS.step7 n (fun xy1 => (some xy1)) (laws_szStringS.loop7 n (fun xy1 => (some xy1)) N) a l (i : Int)) _
    simp only [laws_szStringS.step7, ev_cond, ev_inB, Int.toNat_natCast, W_up hi ha.1]
    refine ⟨fun _ => ?_, fun h => absurd hi (by simpa using h)⟩
    refine ⟨⟨by omega, by omega⟩, ?_⟩
    simpa only [ev_cond, ev_some, szB] using ev_szL (t := t) (g := fun n N x => laws_szStringS.loop7 n (fun xy1 => (some xy1)) (N) a x ((i + 1 : Nat) : Int)) h0 h1 (ha.2 _ (getD_mem [] hi)) kk
  · show Ev (fun n N => laws_szStringS.step7 n (fun xy1 => (some xy1)) (laws_szStringS.loop7 n (fun xy1 => (some xy1)) N) a l (a.length : Int)) _
    simp only [laws_szStringS.step7, ev_cond, ev_some]
    exact ⟨fun h => absurd (of_decide_eq_true h) (by omega), fun _ => trivial⟩
theorem szJson_rec (a : TJson) (l : Int) (ha : TJson.len a) (h0 : 0 ≤ l) (h1 : l ≤ 1048576) : Ev (fun n _ => laws_szJson n a l) (subS l (TJson.size a)) := by
  have hq := (TJson.len_iff a).1 ha
  refine ev_succ ?_
  rw [TJson.size_eq]
  exact ev_szL h0 h1 hq.1 fun r1 a1 b1 => ev_sz a1 b1 (szJsonS_ih hq.2.1 (fun x hx l h0 h1 => szJson_rec x l (hq.2.1.2 x hx) h0 h1) a1 b1) fun r2 a2 b2 => (by simpa only [ev_cond, ev_some, Nat.add_zero] using ev_sz (t := 0) a2 b2 (szStringS_ev hq.2.2 a2 b2) fun r3 a3 b3 => ev_szE a3)
termination_by SizeOf.sizeOf a
decreasing_by
  have := List.sizeOf_lt_of_mem hx
  cases a
  simp at this ⊢
  omega
theorem szJson_ev {a : TJson} {l : Int} (ha : TJson.len a) (h0 : 0 ≤ l) (h1 : l ≤ 1048576) : Ev (fun n _ => laws_szJson n a l) (subS l (TJson.size a)) := szJson_rec a l ha h0 h1
theorem szJsonS_ev {a : List TJson} {l : Int} (ha : lenL TJson.len a) (h0 : 0 ≤ l) (h1 : l ≤ 1048576) : Ev (fun n _ => laws_szJsonS n a l) (subS l (sizeL TJson.size a)) := szJsonS_ih ha (fun x hx l h0 h1 => szJson_rec x l (ha.2 x hx) h0 h1) h0 h1
theorem szOp_ev {a : TOp} {l : Int} (ha : TOp.len a) (h0 : 0 ≤ l) (h1 : l ≤ 1048576) : Ev (fun n _ => laws_szOp n a l) (subS l (TOp.size a)) := by
  refine ev_succ ?_
  simp only [laws_szOp, TJson.re_eq, TOp.eta]
  have e : TOp.size a = (sizeL szB) a.way + (TJson.size a.value + (0)) := by simp only [TOp.size]; omega
  rw [e]; clear e
  have h0_0 := h0; have h0_1 := h1
  exact ev_sz h0_0 h0_1 (szStringS_ev (ha.1) h0_0 h0_1) fun r1 h1_0 h1_1 => ev_sz h1_0 h1_1 (szJson_ev (ha.2) h1_0 h1_1) fun r2 h2_0 h2_1 => ev_szE h2_0
theorem szOpS_ev {a : List TOp} {l : Int} (ha : (lenL TOp.len) a) (h0 : 0 ≤ l) (h1 : l ≤ 1048576) : Ev (fun n _ => laws_szOpS n a l) (subS l ((sizeL TOp.size) a)) := by
  refine ev_succ ?_
  refine ev_szL (g := fun n N x => laws_szOpS.loop7 n (fun xy2 => (some xy2)) (n) a x 0) h0 h1 ha.1 fun l h0 h1 => sz_list TOp.dflt TOp.size (fun n N l i => laws_szOpS.loop7 n (fun xy2 => (some xy2)) (N) a l (i : Int)) a (fun i l hi h0 h1 t kk => ?_) (fun l => ?_) l h0 h1
  · show Ev (fun n N => laws_szOpS.step7 n (fun xy2 => (some xy2)) (laws_szOpS.loop7 n (fun xy2 => (some xy2)) N) a l (i : Int)) _
    simp only [laws_szOpS.step7, TJson.re_eq, TOp.eta, ev_cond, ev_inB, Int.toNat_natCast, W_up hi ha.1]
    refine ⟨fun _ => ?_, fun h => absurd hi (by simpa using h)⟩
    refine ⟨⟨by omega, by omega⟩, ?_⟩
    have := ev_sz (t := t) (g := fun n N x => laws_szOpS.loop7 n (fun xy2 => (some xy2)) (N) a x ((i + 1 : Nat) : Int)) h0 h1 (szOp_ev (ha.2 _ (getD_mem TOp.dflt hi)) h0 h1) kk
    simpa only [ev_cond, ev_some] using this
  · show Ev (fun n N => laws_szOpS.step7 n (fun xy2 => (some xy2)) (laws_szOpS.loop7 n (fun xy2 => (some xy2)) N) a l (a.length : Int)) _
    simp only [laws_szOpS.step7, ev_cond, ev_some]
    exact ⟨fun h => absurd (of_decide_eq_true h) (by omega), fun _ => trivial⟩
theorem szEvent_ev {a : TEvent} {l : Int} (ha : TEvent.len a) (h0 : 0 ≤ l) (h1 : l ≤ 1048576) : Ev (fun n _ => laws_szEvent n a l) (subS l (TEvent.size a)) := by
  refine ev_succ ?_
  simp only [laws_szEvent, TJson.re_eq, TEvent.eta]
  have e : TEvent.size a = TJson.size a.doc + ((sizeL TOp.size) a.ops + (0)) := by simp only [TEvent.size]; omega
  rw [e]; clear e
  have h0_0 := h0; have h0_1 := h1
  exact ev_sz h0_0 h0_1 (szJson_ev (ha.1) h0_0 h0_1) fun r1 h1_0 h1_1 => ev_sz h1_0 h1_1 (szOpS_ev (ha.2) h1_0 h1_1) fun r2 h2_0 h2_1 => ev_szE h2_0
theorem toJsonS_ih {a : List TJson} (ha : sizeL TJson.size a ≤ cap) (ih : ∀ x ∈ a, Ev (fun n _ => laws_toJson n x) x) : Ev (fun n _ => laws_toJsonS n a) a := by
  refine ev_succ ?_
  have hl := sizeL_len TJson.size a
  simp only [cap] at ha
  simp only [laws_toJsonS, ev_cond, ev_none, decide_eq_true_eq, decide_eq_false_iff_not, not_true_eq_false]
  refine ⟨fun _ => ⟨fun _ => ⟨fun _ => ?_, fun h => absurd h (by omega)⟩, fun h => absurd h (by omega)⟩, fun h => h⟩
  refine ev_copy TJson.dflt a (fun n N i s => laws_toJsonS.loop4 n (laws_toJson n) (fun xy3 => (some xy3)) N a (i : Int) s) (fun i s hi hs k => ?_) ?_ _ (by simp)
  · show Ev (fun n N => laws_toJsonS.step4 n (laws_toJson n) (fun xy3 => (some xy3)) (laws_toJsonS.loop4 n (laws_toJson n) (fun xy3 => (some xy3)) N) a (i : Int) s) a
    simp only [laws_toJsonS.step4, TJson.re_eq, Int.toNat_natCast, ev_cond, ev_inB, ev_bind (ih _ (getD_mem TJson.dflt hi)), W_up hi (show a.length ≤ topN by simp only [topN]; omega)]
    exact ⟨fun _ => ⟨⟨by omega, by omega⟩, ⟨by omega, by omega⟩, k⟩, fun h => absurd hi (by simpa using h)⟩
  · show Ev (fun n N => laws_toJsonS.step4 n (laws_toJson n) (fun xy3 => (some xy3)) (laws_toJsonS.loop4 n (laws_toJson n) (fun xy3 => (some xy3)) N) a (a.length : Int) a) a
    simp only [laws_toJsonS.step4, ev_cond, ev_some]
    exact ⟨fun h => absurd (of_decide_eq_true h) (by omega), fun _ => trivial⟩
theorem toStringS_ev {a : List Bs} (ha : (sizeL szB) a ≤ cap) : Ev (fun n _ => laws_toStringS n a) a := by
  refine ev_succ ?_
  have hl := sizeL_len szB a
  simp only [cap] at ha
  simp only [laws_toStringS, ev_cond, ev_none, decide_eq_true_eq, decide_eq_false_iff_not, not_true_eq_false]
  refine ⟨fun _ => ⟨fun _ => ⟨fun _ => ?_, fun h => absurd h (by omega)⟩, fun h => absurd h (by omega)⟩, fun h => h⟩
  refine ev_copy [] a (fun n N i s => laws_toStringS.loop4 n (fun xy2 => (some xy2)) N a (i : Int) s) (fun i s hi hs k => ?_) ?_ _ (by simp)
  · show Ev (fun n N => laws_toStringS.step4 n (fun xy2 => (some xy2)) (laws_toStringS.loop4 n (fun xy2 => (some xy2)) N) a (i : Int) s) a
    simp only [laws_toStringS.step4, Int.toNat_natCast, ev_cond, ev_inB, W_up hi (show a.length ≤ topN by simp only [topN]; omega)]
    exact ⟨fun _ => ⟨⟨by omega, by omega⟩, ⟨by omega, by omega⟩, k⟩, fun h => absurd hi (by simpa using h)⟩
  · show Ev (fun n N => laws_toStringS.step4 n (fun xy2 => (some xy2)) (laws_toStringS.loop4 n (fun xy2 => (some xy2)) N) a (a.length : Int) a) a
    simp only [laws_toStringS.step4, ev_cond, ev_some]
    exact ⟨fun h => absurd (of_decide_eq_true h) (by omega), fun _ => trivial⟩
theorem toJson_rec (a : TJson) (ha : TJson.size a ≤ cap) : Ev (fun n _ => laws_toJson n a) a := by
  have hq := TJson.size_eq a
  refine ev_succ ?_
  have h1 := toJsonS_ih (a := a.list) (by omega) fun x hx => toJson_rec x (by have := sizeL_le TJson.size hx; omega)
  have h2 := toStringS_ev (a := a.names) (by omega)
  simp only [laws_toJson, ev_bind h1, ev_bind h2, ev_some]
  cases a; rfl
termination_by SizeOf.sizeOf a
decreasing_by
  have := List.sizeOf_lt_of_mem hx
  cases a
  simp at this ⊢
  omega
theorem toJson_ev {a : TJson} (ha : TJson.size a ≤ cap) : Ev (fun n _ => laws_toJson n a) a := toJson_rec a ha
theorem toJsonS_ev {a : List TJson} (ha : sizeL TJson.size a ≤ cap) : Ev (fun n _ => laws_toJsonS n a) a := toJsonS_ih ha fun x hx => toJson_rec x (by have := sizeL_le TJson.size hx; omega)
theorem toOp_ev {a : TOp} (ha : TOp.size a ≤ cap) : Ev (fun n _ => laws_toOp n a) a := by
  refine ev_succ ?_
  simp only [TOp.size] at ha
  have h0 := toStringS_ev (a := a.way) (by omega)
  have h1 := toJson_ev (a := a.value) (by omega)
  simp only [laws_toOp, TJson.re_eq, TOp.eta, ev_bind h0, ev_bind h1, ev_some]
theorem toOpS_ev {a : List TOp} (ha : (sizeL TOp.size) a ≤ cap) : Ev (fun n _ => laws_toOpS n a) a := by
  refine ev_succ ?_
  have hl := sizeL_len TOp.size a
  simp only [cap] at ha
  simp only [laws_toOpS, ev_cond, ev_none, decide_eq_true_eq, decide_eq_false_iff_not, not_true_eq_false]
  refine ⟨fun _ => ⟨fun _ => ⟨fun _ => ?_, fun h => absurd h (by omega)⟩, fun h => absurd h (by omega)⟩, fun h => h⟩
  refine ev_copy TOp.dflt a (fun n N i s => laws_toOpS.loop4 n (fun xy3 => (some xy3)) N a (i : Int) s) (fun i s hi hs k => ?_) ?_ _ (by simp)
  · show Ev (fun n N => laws_toOpS.step4 n (fun xy3 => (some xy3)) (laws_toOpS.loop4 n (fun xy3 => (some xy3)) N) a (i : Int) s) a
    simp only [laws_toOpS.step4, Int.toNat_natCast, ev_cond, ev_inB, TJson.re_eq, TOp.eta, ev_bind (toOp_ev (a := a.getD i TOp.dflt) (by have := sizeL_le TOp.size (getD_mem TOp.dflt hi); simp only [cap]; omega)), W_up hi (show a.length ≤ topN by simp only [topN]; omega)]
    exact ⟨fun _ => ⟨⟨by omega, by omega⟩, ⟨by omega, by omega⟩, k⟩, fun h => absurd hi (by simpa using h)⟩
  · show Ev (fun n N => laws_toOpS.step4 n (fun xy3 => (some xy3)) (laws_toOpS.loop4 n (fun xy3 => (some xy3)) N) a (a.length : Int) a) a
    simp only [laws_toOpS.step4, ev_cond, ev_some]
    exact ⟨fun h => absurd (of_decide_eq_true h) (by omega), fun _ => trivial⟩
theorem toEvent_ev {a : TEvent} (ha : TEvent.size a ≤ cap) : Ev (fun n _ => laws_toEvent n a) a := by
  refine ev_succ ?_
  simp only [TEvent.size] at ha
  have h0 := toJson_ev (a := a.doc) (by omega)
  have h1 := toOpS_ev (a := a.ops) (by omega)
  simp only [laws_toEvent, TJson.re_eq, TEvent.eta, ev_bind h0, ev_bind h1, ev_some]
theorem eqJsonS_ih {a : List TJson} (ha : sizeL TJson.size a ≤ topN) (ih : ∀ x ∈ a, Ev (fun n _ => laws_eqJson n x x) true) : Ev (fun n _ => laws_eqJsonS n a a) true := by
  refine ev_succ ?_
  have hl := sizeL_len TJson.size a
  simp only [laws_eqJsonS, ev_cond, bne_self_eq_false]
  refine ⟨fun h => (by cases h), fun _ => ?_⟩
  refine ev_up1 (fun n N i => laws_eqJsonS.loop6 n (laws_eqJson n) (some true) N a a (i : Int)) (fun _ => true) a.length fun i hi k => ?_
  show Ev (fun n N => laws_eqJsonS.step6 n (laws_eqJson n) (some true) (laws_eqJsonS.loop6 n (laws_eqJson n) (some true) N) a a (i : Int)) true
  by_cases h : i < a.length
  · simp only [laws_eqJsonS.step6, TJson.re_eq, Int.toNat_natCast, ev_cond, ev_inB, ev_bind (ih _ (getD_mem TJson.dflt h)), bne_self_eq_false, beq_self_eq_true, Bool.not_true, W_up h (show a.length ≤ topN by omega)]
    exact ⟨fun _ => ⟨⟨by omega, by omega⟩, ⟨by omega, by omega⟩, fun h => (by cases h), fun _ => k h⟩, fun h' => absurd h (by simpa using h')⟩
  · simp only [laws_eqJsonS.step6, ev_cond, ev_some]
    exact ⟨fun h' => absurd (of_decide_eq_true h') (by omega), fun _ => trivial⟩
theorem eqStringS_ev {a : List Bs} (ha : (sizeL szB) a ≤ topN) : Ev (fun n _ => laws_eqStringS n a a) true := by
  refine ev_succ ?_
  have hl := sizeL_len szB a
  simp only [laws_eqStringS, ev_cond, bne_self_eq_false]
  refine ⟨fun h => (by cases h), fun _ => ?_⟩
  refine ev_up1 (fun n N i => laws_eqStringS.loop6 n (some true) N a a (i : Int)) (fun _ => true) a.length fun i hi k => ?_
  show Ev (fun n N => laws_eqStringS.step6 n (some true) (laws_eqStringS.loop6 n (some true) N) a a (i : Int)) true
  by_cases h : i < a.length
  · simp only [laws_eqStringS.step6, Int.toNat_natCast, ev_cond, ev_inB, bne_self_eq_false, beq_self_eq_true, Bool.not_true, W_up h (show a.length ≤ topN by omega)]
    exact ⟨fun _ => ⟨⟨by omega, by omega⟩, ⟨by omega, by omega⟩, fun h => (by cases h), fun _ => k h⟩, fun h' => absurd h (by simpa using h')⟩
  · simp only [laws_eqStringS.step6, ev_cond, ev_some]
    exact ⟨fun h' => absurd (of_decide_eq_true h') (by omega), fun _ => trivial⟩
theorem eqJson_rec (a : TJson) (ha : TJson.size a ≤ topN) : Ev (fun n _ => laws_eqJson n a a) true := by
  have hq := TJson.size_eq a
  refine ev_succ ?_
  have h1 := eqJsonS_ih (a := a.list) (by omega) fun x hx => eqJson_rec x (by have := sizeL_le TJson.size hx; omega)
  have h2 := eqStringS_ev (a := a.names) (by omega)
  simp only [laws_eqJson, ev_bind h1, ev_bind h2, bne_self_eq_false, beq_self_eq_true, Bool.not_true, cond_false, ev_some]
termination_by SizeOf.sizeOf a
decreasing_by
  have := List.sizeOf_lt_of_mem hx
  cases a
  simp at this ⊢
  omega
theorem eqJson_ev {a : TJson} (ha : TJson.size a ≤ topN) : Ev (fun n _ => laws_eqJson n a a) true := eqJson_rec a ha
theorem eqJsonS_ev {a : List TJson} (ha : sizeL TJson.size a ≤ topN) : Ev (fun n _ => laws_eqJsonS n a a) true := eqJsonS_ih ha fun x hx => eqJson_rec x (by have := sizeL_le TJson.size hx; omega)
theorem eqOp_ev {a : TOp} (ha : TOp.size a ≤ topN) : Ev (fun n _ => laws_eqOp n a a) true := by
  refine ev_succ ?_
  simp only [TOp.size] at ha
  have h0 := eqStringS_ev (a := a.way) (by omega)
  have h1 := eqJson_ev (a := a.value) (by omega)
  simp only [laws_eqOp, TJson.re_eq, TOp.eta, ev_bind h0, ev_bind h1, bne_self_eq_false, beq_self_eq_true, Bool.not_true, cond_false, ev_some]
theorem eqOpS_ev {a : List TOp} (ha : (sizeL TOp.size) a ≤ topN) : Ev (fun n _ => laws_eqOpS n a a) true := by
  refine ev_succ ?_
  have hl := sizeL_len TOp.size a
  simp only [laws_eqOpS, ev_cond, bne_self_eq_false]
  refine ⟨fun h => (by cases h), fun _ => ?_⟩
  refine ev_up1 (fun n N i => laws_eqOpS.loop6 n (some true) N a a (i : Int)) (fun _ => true) a.length fun i hi k => ?_
  show Ev (fun n N => laws_eqOpS.step6 n (some true) (laws_eqOpS.loop6 n (some true) N) a a (i : Int)) true
  by_cases h : i < a.length
  · simp only [laws_eqOpS.step6, Int.toNat_natCast, ev_cond, ev_inB, TJson.re_eq, TOp.eta, ev_bind (eqOp_ev (a := a.getD i TOp.dflt) (by have := sizeL_le TOp.size (getD_mem TOp.dflt h); omega)), bne_self_eq_false, beq_self_eq_true, Bool.not_true, W_up h (show a.length ≤ topN by omega)]
    exact ⟨fun _ => ⟨⟨by omega, by omega⟩, ⟨by omega, by omega⟩, fun h => (by cases h), fun _ => k h⟩, fun h' => absurd h (by simpa using h')⟩
  · simp only [laws_eqOpS.step6, ev_cond, ev_some]
    exact ⟨fun h' => absurd (of_decide_eq_true h') (by omega), fun _ => trivial⟩
theorem eqEvent_ev {a : TEvent} (ha : TEvent.size a ≤ topN) : Ev (fun n _ => laws_eqEvent n a a) true := by
  refine ev_succ ?_
  simp only [TEvent.size] at ha
  have h0 := eqJson_ev (a := a.doc) (by omega)
  have h1 := eqOpS_ev (a := a.ops) (by omega)
  simp only [laws_eqEvent, TJson.re_eq, TEvent.eta, ev_bind h0, ev_bind h1, bne_self_eq_false, beq_self_eq_true, Bool.not_true, cond_false, ev_some]
end Go.Pi
end
