/- The card of FnExactSessDue: the law returns true at every input, and leaves its arguments as they were; no condition. Text 4 of 5. -/
import Derived.Test.YtpifpdljphobdaaGreatDoorSdC
import Derived.Shelf.RegionOpenPlain
import Derived.WalkKit
import Derived.Deep.RegionLaw
import Derived.Lib.Walk
import Derived.Lib.SliceRun
import Derived.Laws.CopyRow
import Derived.RowKit
import Derived.Lib.Overlaps
import Derived.Lib.AppendZerosOnto
import Derived.Laws.NewBlocks
import Derived.Laws.Externs
import Derived.ChangeArms
import Derived.DataReads
import Derived.ChangeOld
import Derived.Below
import Derived.Test.YtpifpdljphobdaaGreatDoorRows
import Derived.ProofKit
import Derived.OpenShut
import Derived.LaidLaws
import Derived.JoinedOf
import Derived.JoinedAt
import Derived.ChangeVars
import Derived.ChangeMaps5
import Derived.Stop.LaidErr
import Derived.Test.YtpifpdljphobdaaGreatDoorTie
import Derived.Test.YtpifpdljphobdaaGreatDoorCards
import Derived.IntWalk
section
set_option linter.unusedVariables false
set_option maxRecDepth 100000
namespace Go.Pi
open Go.Proofs
noncomputable def laws_szCondS.fs (n : Nat) : laws_szCondS.d.Fs := ()
theorem laws_szCondS.ok (n : Nat) : CxOk E (cx n laws_szCondS.d.nt) → KPar (cx n laws_szCondS.d.nt) → laws_szCondS.d.Ok E (laws_szCondS.F (n + 1)) :=
  FD.ok (fs := laws_szCondS.fs n) mixedOk Tryz.func33 (by kernel_rfl) (by kernel_rfl) (by kernel_rfl) (by kernel_rfl) (fun _ => by kernel_rfl) (by kernel_rfl) (fun x => by kernel_rfl) (.nil)
noncomputable def laws_szIntS.fs (n : Nat) : laws_szIntS.d.Fs := ()
theorem laws_szIntS.ok (n : Nat) : CxOk E (cx n laws_szIntS.d.nt) → KPar (cx n laws_szIntS.d.nt) → laws_szIntS.d.Ok E (laws_szIntS.F (n + 1)) :=
  FD.ok (fs := laws_szIntS.fs n) mixedOk Tryz.func34 (by kernel_rfl) (by kernel_rfl) (by kernel_rfl) (by kernel_rfl) (fun _ => by kernel_rfl) (by kernel_rfl) (fun x => by kernel_rfl) (.nil)
noncomputable def laws_szQuery.fs (n : Nat) : laws_szQuery.d.Fs := ()
theorem laws_szQuery.ok (n : Nat) : CxOk E (cx n laws_szQuery.d.nt) → KPar (cx n laws_szQuery.d.nt) → laws_szQuery.d.Ok E (laws_szQuery.F (n + 1)) :=
  FD.ok (fs := laws_szQuery.fs n) mixedOk Tryz.func16 (by kernel_rfl) (by kernel_rfl) (by kernel_rfl) (by kernel_rfl) (fun _ => by kernel_rfl) (by kernel_rfl) (fun x => by kernel_rfl) (.nil)
noncomputable def laws_szRow.fs (n : Nat) : laws_szRow.d.Fs := ()
theorem laws_szRow.ok (n : Nat) : CxOk E (cx n laws_szRow.d.nt) → KPar (cx n laws_szRow.d.nt) → laws_szRow.d.Ok E (laws_szRow.F (n + 1)) :=
  FD.ok (fs := laws_szRow.fs n) mixedOk Tryz.func35 (by kernel_rfl) (by kernel_rfl) (by kernel_rfl) (by kernel_rfl) (fun _ => by kernel_rfl) (by kernel_rfl) (fun x => by kernel_rfl) (.nil)
noncomputable def laws_szRowS.fs (n : Nat) : laws_szRowS.d.Fs := (fun _ κe => laws_szRowS.loop7 n (laws_szRowS.o0.k (κe 0)) n, ())
theorem laws_szRowS.r7 (n : Nat) : laws_szRowS.d.Round (laws_szRowS.fs n) (cx n laws_szRowS.d.nt) (bodyOf Tryz.f17) 7 laws_szRowS.p7 (fun κe => laws_szRowS.step7 n (laws_szRowS.o0.k (κe 0))) := fun κ κe x y => by kernel_rfl
theorem laws_szRowS.ok (n : Nat) : CxOk E (cx n laws_szRowS.d.nt) → KPar (cx n laws_szRowS.d.nt) → laws_szRowS.d.Ok E (laws_szRowS.F (n + 1)) :=
  FD.ok (fs := laws_szRowS.fs n) mixedOk Tryz.func17 (by kernel_rfl) (by kernel_rfl) (by kernel_rfl) (by kernel_rfl) (fun _ => by kernel_rfl) (by kernel_rfl) (fun x => by kernel_rfl) (.cons (FD.lp n (laws_szRowS.r7 n) (by kernel_rfl) fun _ _ => by kernel_rfl) (.nil))
noncomputable def laws_szKidS.fs (n : Nat) : laws_szKidS.d.Fs := ()
theorem laws_szKidS.ok (n : Nat) : CxOk E (cx n laws_szKidS.d.nt) → KPar (cx n laws_szKidS.d.nt) → laws_szKidS.d.Ok E (laws_szKidS.F (n + 1)) :=
  FD.ok (fs := laws_szKidS.fs n) mixedOk Tryz.func18 (by kernel_rfl) (by kernel_rfl) (by kernel_rfl) (by kernel_rfl) (fun _ => by kernel_rfl) (by kernel_rfl) (fun x => by kernel_rfl) (.nil)
noncomputable def laws_szView.fs (n : Nat) : laws_szView.d.Fs := ()
theorem laws_szView.ok (n : Nat) : CxOk E (cx n laws_szView.d.nt) → KPar (cx n laws_szView.d.nt) → laws_szView.d.Ok E (laws_szView.F (n + 1)) :=
  FD.ok (fs := laws_szView.fs n) mixedOk Tryz.func9 (by kernel_rfl) (by kernel_rfl) (by kernel_rfl) (by kernel_rfl) (fun _ => by kernel_rfl) (by kernel_rfl) (fun x => by kernel_rfl) (.nil)
noncomputable def laws_szSess.fs (n : Nat) : laws_szSess.d.Fs := ()
theorem laws_szSess.ok (n : Nat) : CxOk E (cx n laws_szSess.d.nt) → KPar (cx n laws_szSess.d.nt) → laws_szSess.d.Ok E (laws_szSess.F (n + 1)) :=
  FD.ok (fs := laws_szSess.fs n) mixedOk Tryz.func4 (by kernel_rfl) (by kernel_rfl) (by kernel_rfl) (by kernel_rfl) (fun _ => by kernel_rfl) (by kernel_rfl) (fun x => by kernel_rfl) (.nil)
noncomputable def laws_toCond.fs (n : Nat) : laws_toCond.d.Fs := ()
theorem laws_toCond.ok (n : Nat) : CxOk E (cx n laws_toCond.d.nt) → KPar (cx n laws_toCond.d.nt) → laws_toCond.d.Ok E (laws_toCond.F (n + 1)) :=
  FD.ok (fs := laws_toCond.fs n) mixedOk Tryz.func66 (by kernel_rfl) (by kernel_rfl) (by kernel_rfl) (by kernel_rfl) (fun _ => by kernel_rfl) (by kernel_rfl) (fun x => by kernel_rfl) (.nil)
noncomputable def laws_toCondS.fs (n : Nat) : laws_toCondS.d.Fs := (fun _ κe => laws_toCondS.loop4 n (laws_toCondS.o0.k (κe 0)) n, ())
theorem laws_toCondS.r4 (n : Nat) : laws_toCondS.d.Round (laws_toCondS.fs n) (cx n laws_toCondS.d.nt) (bodyOf Tryz.f42) 4 laws_toCondS.p4 (fun κe => laws_toCondS.step4 n (laws_toCondS.o0.k (κe 0))) := fun κ κe x y => by kernel_rfl
theorem laws_toCondS.ok (n : Nat) : CxOk E (cx n laws_toCondS.d.nt) → KPar (cx n laws_toCondS.d.nt) → laws_toCondS.d.Ok E (laws_toCondS.F (n + 1)) :=
  FD.ok (fs := laws_toCondS.fs n) mixedOk Tryz.func42 (by kernel_rfl) (by kernel_rfl) (by kernel_rfl) (by kernel_rfl) (fun _ => by kernel_rfl) (by kernel_rfl) (fun x => by kernel_rfl) (.cons (FD.lp n (laws_toCondS.r4 n) (by kernel_rfl) fun _ _ => by kernel_rfl) (.nil))
noncomputable def laws_toIntS.fs (n : Nat) : laws_toIntS.d.Fs := (fun _ κe => laws_toIntS.loop4 n (laws_toIntS.o0.k (κe 0)) n, ())
theorem laws_toIntS.r4 (n : Nat) : laws_toIntS.d.Round (laws_toIntS.fs n) (cx n laws_toIntS.d.nt) (bodyOf Tryz.f43) 4 laws_toIntS.p4 (fun κe => laws_toIntS.step4 n (laws_toIntS.o0.k (κe 0))) := fun κ κe x y => by kernel_rfl
theorem laws_toIntS.ok (n : Nat) : CxOk E (cx n laws_toIntS.d.nt) → KPar (cx n laws_toIntS.d.nt) → laws_toIntS.d.Ok E (laws_toIntS.F (n + 1)) :=
  FD.ok (fs := laws_toIntS.fs n) mixedOk Tryz.func43 (by kernel_rfl) (by kernel_rfl) (by kernel_rfl) (by kernel_rfl) (fun _ => by kernel_rfl) (by kernel_rfl) (fun x => by kernel_rfl) (.cons (FD.lp n (laws_toIntS.r4 n) (by kernel_rfl) fun _ _ => by kernel_rfl) (.nil))
noncomputable def laws_toQuery.fs (n : Nat) : laws_toQuery.d.Fs := ()
theorem laws_toQuery.ok (n : Nat) : CxOk E (cx n laws_toQuery.d.nt) → KPar (cx n laws_toQuery.d.nt) → laws_toQuery.d.Ok E (laws_toQuery.F (n + 1)) :=
  FD.ok (fs := laws_toQuery.fs n) mixedOk Tryz.func23 (by kernel_rfl) (by kernel_rfl) (by kernel_rfl) (by kernel_rfl) (fun _ => by kernel_rfl) (by kernel_rfl) (fun x => by kernel_rfl) (.nil)
noncomputable def laws_toRow.fs (n : Nat) : laws_toRow.d.Fs := ()
theorem laws_toRow.ok (n : Nat) : CxOk E (cx n laws_toRow.d.nt) → KPar (cx n laws_toRow.d.nt) → laws_toRow.d.Ok E (laws_toRow.F (n + 1)) :=
  FD.ok (fs := laws_toRow.fs n) mixedOk Tryz.func44 (by kernel_rfl) (by kernel_rfl) (by kernel_rfl) (by kernel_rfl) (fun _ => by kernel_rfl) (by kernel_rfl) (fun x => by kernel_rfl) (.nil)
noncomputable def laws_toRowS.fs (n : Nat) : laws_toRowS.d.Fs := (fun _ κe => laws_toRowS.loop4 n (laws_toRowS.o0.k (κe 0)) n, ())
theorem laws_toRowS.r4 (n : Nat) : laws_toRowS.d.Round (laws_toRowS.fs n) (cx n laws_toRowS.d.nt) (bodyOf Tryz.f24) 4 laws_toRowS.p4 (fun κe => laws_toRowS.step4 n (laws_toRowS.o0.k (κe 0))) := fun κ κe x y => by kernel_rfl
theorem laws_toRowS.ok (n : Nat) : CxOk E (cx n laws_toRowS.d.nt) → KPar (cx n laws_toRowS.d.nt) → laws_toRowS.d.Ok E (laws_toRowS.F (n + 1)) :=
  FD.ok (fs := laws_toRowS.fs n) mixedOk Tryz.func24 (by kernel_rfl) (by kernel_rfl) (by kernel_rfl) (by kernel_rfl) (fun _ => by kernel_rfl) (by kernel_rfl) (fun x => by kernel_rfl) (.cons (FD.lp n (laws_toRowS.r4 n) (by kernel_rfl) fun _ _ => by kernel_rfl) (.nil))
noncomputable def laws_toKid.fs (n : Nat) : laws_toKid.d.Fs := ()
theorem laws_toKid.ok (n : Nat) : CxOk E (cx n laws_toKid.d.nt) → KPar (cx n laws_toKid.d.nt) → laws_toKid.d.Ok E (laws_toKid.F (n + 1)) :=
  FD.ok (fs := laws_toKid.fs n) mixedOk Tryz.func45 (by kernel_rfl) (by kernel_rfl) (by kernel_rfl) (by kernel_rfl) (fun _ => by kernel_rfl) (by kernel_rfl) (fun x => by kernel_rfl) (.nil)
noncomputable def laws_toKidS.fs (n : Nat) : laws_toKidS.d.Fs := (fun _ κe => laws_toKidS.loop4 n (laws_toKidS.o0.k (κe 0)) n, ())
theorem laws_toKidS.r4 (n : Nat) : laws_toKidS.d.Round (laws_toKidS.fs n) (cx n laws_toKidS.d.nt) (bodyOf Tryz.f25) 4 laws_toKidS.p4 (fun κe => laws_toKidS.step4 n (laws_toKidS.o0.k (κe 0))) := fun κ κe x y => by kernel_rfl
theorem laws_toKidS.ok (n : Nat) : CxOk E (cx n laws_toKidS.d.nt) → KPar (cx n laws_toKidS.d.nt) → laws_toKidS.d.Ok E (laws_toKidS.F (n + 1)) :=
  FD.ok (fs := laws_toKidS.fs n) mixedOk Tryz.func25 (by kernel_rfl) (by kernel_rfl) (by kernel_rfl) (by kernel_rfl) (fun _ => by kernel_rfl) (by kernel_rfl) (fun x => by kernel_rfl) (.cons (FD.lp n (laws_toKidS.r4 n) (by kernel_rfl) fun _ _ => by kernel_rfl) (.nil))
noncomputable def laws_toView.fs (n : Nat) : laws_toView.d.Fs := ()
theorem laws_toView.ok (n : Nat) : CxOk E (cx n laws_toView.d.nt) → KPar (cx n laws_toView.d.nt) → laws_toView.d.Ok E (laws_toView.F (n + 1)) :=
  FD.ok (fs := laws_toView.fs n) mixedOk Tryz.func12 (by kernel_rfl) (by kernel_rfl) (by kernel_rfl) (by kernel_rfl) (fun _ => by kernel_rfl) (by kernel_rfl) (fun x => by kernel_rfl) (.nil)
noncomputable def laws_toSess.fs (n : Nat) : laws_toSess.d.Fs := ()
theorem laws_toSess.ok (n : Nat) : CxOk E (cx n laws_toSess.d.nt) → KPar (cx n laws_toSess.d.nt) → laws_toSess.d.Ok E (laws_toSess.F (n + 1)) :=
  FD.ok (fs := laws_toSess.fs n) mixedOk Tryz.func6 (by kernel_rfl) (by kernel_rfl) (by kernel_rfl) (by kernel_rfl) (fun _ => by kernel_rfl) (by kernel_rfl) (fun x => by kernel_rfl) (.nil)
noncomputable def spec_KidsIn.fs (n : Nat) : spec_KidsIn.d.Fs := (fun _ κe => spec_KidsIn.loop3 n (spec_KidsIn.o0.k (κe 0)) n, ())
theorem spec_KidsIn.r3 (n : Nat) : spec_KidsIn.d.Round (spec_KidsIn.fs n) (cx n spec_KidsIn.d.nt) (bodyOf Tryz.f41) 3 spec_KidsIn.p3 (fun κe => spec_KidsIn.step3 n (spec_KidsIn.o0.k (κe 0))) := fun κ κe x y => by kernel_rfl
theorem spec_KidsIn.ok (n : Nat) : CxOk E (cx n spec_KidsIn.d.nt) → KPar (cx n spec_KidsIn.d.nt) → spec_KidsIn.d.Ok E (spec_KidsIn.F (n + 1)) :=
  FD.ok (fs := spec_KidsIn.fs n) mixedOk Tryz.func41 (by kernel_rfl) (by kernel_rfl) (by kernel_rfl) (by kernel_rfl) (fun _ => by kernel_rfl) (by kernel_rfl) (fun x => by kernel_rfl) (.cons (FD.lp n (spec_KidsIn.r3 n) (by kernel_rfl) fun _ _ => by kernel_rfl) (.nil))
noncomputable def spec_l13Counts.fs (n : Nat) : spec_l13Counts.d.Fs := (fun _ κe => spec_l13Counts.loop4 n (spec_l13Counts.o0.k (κe 0)) n, ())
theorem spec_l13Counts.r4 (n : Nat) : spec_l13Counts.d.Round (spec_l13Counts.fs n) (cx n spec_l13Counts.d.nt) (bodyOf Tryz.f22) 4 spec_l13Counts.p4 (fun κe => spec_l13Counts.step4 n (spec_l13Counts.o0.k (κe 0))) := fun κ κe x y => by kernel_rfl
theorem spec_l13Counts.ok (n : Nat) : CxOk E (cx n spec_l13Counts.d.nt) → KPar (cx n spec_l13Counts.d.nt) → spec_l13Counts.d.Ok E (spec_l13Counts.F (n + 1)) :=
  FD.ok (fs := spec_l13Counts.fs n) mixedOk Tryz.func22 (by kernel_rfl) (by kernel_rfl) (by kernel_rfl) (by kernel_rfl) (fun _ => by kernel_rfl) (by kernel_rfl) (fun x => by kernel_rfl) (.cons (FD.lp n (spec_l13Counts.r4 n) (by kernel_rfl) fun _ _ => by kernel_rfl) (.nil))
noncomputable def spec_l1Min.fs (n : Nat) : spec_l1Min.d.Fs := ()
theorem spec_l1Min.ok (n : Nat) : CxOk E (cx n spec_l1Min.d.nt) → KPar (cx n spec_l1Min.d.nt) → spec_l1Min.d.Ok E (spec_l1Min.F (n + 1)) :=
  FD.ok (fs := spec_l1Min.fs n) mixedOk Tryz.func62 (by kernel_rfl) (by kernel_rfl) (by kernel_rfl) (by kernel_rfl) (fun _ => by kernel_rfl) (by kernel_rfl) (fun x => by kernel_rfl) (.nil)
noncomputable def spec_l1Max.fs (n : Nat) : spec_l1Max.d.Fs := ()
theorem spec_l1Max.ok (n : Nat) : CxOk E (cx n spec_l1Max.d.nt) → KPar (cx n spec_l1Max.d.nt) → spec_l1Max.d.Ok E (spec_l1Max.F (n + 1)) :=
  FD.ok (fs := spec_l1Max.fs n) mixedOk Tryz.func61 (by kernel_rfl) (by kernel_rfl) (by kernel_rfl) (by kernel_rfl) (fun _ => by kernel_rfl) (by kernel_rfl) (fun x => by kernel_rfl) (.nil)
noncomputable def spec_l11First.fs (n : Nat) : spec_l11First.d.Fs := ()
theorem spec_l11First.ok (n : Nat) : CxOk E (cx n spec_l11First.d.nt) → KPar (cx n spec_l11First.d.nt) → spec_l11First.d.Ok E (spec_l11First.F (n + 1)) :=
  FD.ok (fs := spec_l11First.fs n) mixedOk Tryz.func37 (by kernel_rfl) (by kernel_rfl) (by kernel_rfl) (by kernel_rfl) (fun _ => by kernel_rfl) (by kernel_rfl) (fun x => by kernel_rfl) (.nil)
noncomputable def spec_l2Digits.fs (n : Nat) : spec_l2Digits.d.Fs := (fun _ κe => spec_l2Digits.loop7 n (spec_l2Digits.o0.k (κe 0)) n, ())
theorem spec_l2Digits.r7 (n : Nat) : spec_l2Digits.d.Round (spec_l2Digits.fs n) (cx n spec_l2Digits.d.nt) (bodyOf Tryz.f64) 7 spec_l2Digits.p7 (fun κe => spec_l2Digits.step7 n (spec_l2Digits.o0.k (κe 0))) := fun κ κe x y => by kernel_rfl
theorem spec_l2Digits.ok (n : Nat) : CxOk E (cx n spec_l2Digits.d.nt) → KPar (cx n spec_l2Digits.d.nt) → spec_l2Digits.d.Ok E (spec_l2Digits.F (n + 1)) :=
  FD.ok (fs := spec_l2Digits.fs n) mixedOk Tryz.func64 (by kernel_rfl) (by kernel_rfl) (by kernel_rfl) (by kernel_rfl) (fun _ => by kernel_rfl) (by kernel_rfl) (fun x => by kernel_rfl) (.cons (FD.lp n (spec_l2Digits.r7 n) (by kernel_rfl) fun _ _ => by kernel_rfl) (.nil))
noncomputable def spec_l1In.fs (n : Nat) : spec_l1In.d.Fs := ()
theorem spec_l1In.ok (n : Nat) : CxOk E (cx n spec_l1In.d.nt) → KPar (cx n spec_l1In.d.nt) → spec_l1In.d.Ok E (spec_l1In.F (n + 1)) :=
  FD.ok (fs := spec_l1In.fs n) mixedOk Tryz.func58 (by kernel_rfl) (by kernel_rfl) (by kernel_rfl) (by kernel_rfl) (fun _ => by kernel_rfl) (by kernel_rfl) (fun x => by kernel_rfl) (.nil)
noncomputable def spec_l9Cell.fs (n : Nat) : spec_l9Cell.d.Fs := ()
theorem spec_l9Cell.ok (n : Nat) : CxOk E (cx n spec_l9Cell.d.nt) → KPar (cx n spec_l9Cell.d.nt) → spec_l9Cell.d.Ok E (spec_l9Cell.F (n + 1)) :=
  FD.ok (fs := spec_l9Cell.fs n) mixedOk Tryz.func65 (by kernel_rfl) (by kernel_rfl) (by kernel_rfl) (by kernel_rfl) (fun _ => by kernel_rfl) (by kernel_rfl) (fun x => by kernel_rfl) (.nil)
noncomputable def spec_l11Num.fs (n : Nat) : spec_l11Num.d.Fs := ()
theorem spec_l11Num.ok (n : Nat) : CxOk E (cx n spec_l11Num.d.nt) → KPar (cx n spec_l11Num.d.nt) → spec_l11Num.d.Ok E (spec_l11Num.F (n + 1)) :=
  FD.ok (fs := spec_l11Num.fs n) mixedOk Tryz.func40 (by kernel_rfl) (by kernel_rfl) (by kernel_rfl) (by kernel_rfl) (fun _ => by kernel_rfl) (by kernel_rfl) (fun x => by kernel_rfl) (.nil)
noncomputable def spec_l1Put.fs (n : Nat) : spec_l1Put.d.Fs := (fun _ κe => spec_l1Put.loop5 n (spec_l1Put.o0.k (κe 0)) n, ())
theorem spec_l1Put.r5 (n : Nat) : spec_l1Put.d.Round (spec_l1Put.fs n) (cx n spec_l1Put.d.nt) (bodyOf Tryz.f63) 5 spec_l1Put.p5 (fun κe => spec_l1Put.step5 n (spec_l1Put.o0.k (κe 0))) := fun κ κe x y => by kernel_rfl
theorem spec_l1Put.ok (n : Nat) : CxOk E (cx n spec_l1Put.d.nt) → KPar (cx n spec_l1Put.d.nt) → spec_l1Put.d.Ok E (spec_l1Put.F (n + 1)) :=
  FD.ok (fs := spec_l1Put.fs n) mixedOk Tryz.func63 (by kernel_rfl) (by kernel_rfl) (by kernel_rfl) (by kernel_rfl) (fun _ => by kernel_rfl) (by kernel_rfl) (fun x => by kernel_rfl) (.cons (FD.lp n (spec_l1Put.r5 n) (by kernel_rfl) fun _ _ => by kernel_rfl) (.nil))
noncomputable def spec_l11Row.fs (n : Nat) : spec_l11Row.d.Fs := (fun _ κe => spec_l11Row.loop4 n (spec_l11Row.o0.k (κe 0)) n, ())
theorem spec_l11Row.r4 (n : Nat) : spec_l11Row.d.Round (spec_l11Row.fs n) (cx n spec_l11Row.d.nt) (bodyOf Tryz.f38) 4 spec_l11Row.p4 (fun κe => spec_l11Row.step4 n (spec_l11Row.o0.k (κe 0))) := fun κ κe x y => by kernel_rfl
theorem spec_l11Row.ok (n : Nat) : CxOk E (cx n spec_l11Row.d.nt) → KPar (cx n spec_l11Row.d.nt) → spec_l11Row.d.Ok E (spec_l11Row.F (n + 1)) :=
  FD.ok (fs := spec_l11Row.fs n) mixedOk Tryz.func38 (by kernel_rfl) (by kernel_rfl) (by kernel_rfl) (by kernel_rfl) (fun _ => by kernel_rfl) (by kernel_rfl) (fun x => by kernel_rfl) (.cons (FD.lp n (spec_l11Row.r4 n) (by kernel_rfl) fun _ _ => by kernel_rfl) (.nil))
noncomputable def spec_l1Text.fs (n : Nat) : spec_l1Text.d.Fs := (fun _ κe => spec_l1Text.loop3 n (spec_l1Text.o0.k (κe 0)) n, ())
theorem spec_l1Text.r3 (n : Nat) : spec_l1Text.d.Round (spec_l1Text.fs n) (cx n spec_l1Text.d.nt) (bodyOf Tryz.f59) 3 spec_l1Text.p3 (fun κe => spec_l1Text.step3 n (spec_l1Text.o0.k (κe 0))) := fun κ κe x y => by kernel_rfl
theorem spec_l1Text.ok (n : Nat) : CxOk E (cx n spec_l1Text.d.nt) → KPar (cx n spec_l1Text.d.nt) → spec_l1Text.d.Ok E (spec_l1Text.F (n + 1)) :=
  FD.ok (fs := spec_l1Text.fs n) mixedOk Tryz.func59 (by kernel_rfl) (by kernel_rfl) (by kernel_rfl) (by kernel_rfl) (fun _ => by kernel_rfl) (by kernel_rfl) (fun x => by kernel_rfl) (.cons (FD.lp n (spec_l1Text.r3 n) (by kernel_rfl) fun _ _ => by kernel_rfl) (.nil))
noncomputable def spec_l1Names.fs (n : Nat) : spec_l1Names.d.Fs := (fun _ κe => spec_l1Names.loop6 n (spec_l1Names.o0.k (κe 0)) n, ())
theorem spec_l1Names.r6 (n : Nat) : spec_l1Names.d.Round (spec_l1Names.fs n) (cx n spec_l1Names.d.nt) (bodyOf Tryz.f60) 6 spec_l1Names.p6 (fun κe => spec_l1Names.step6 n (spec_l1Names.o0.k (κe 0))) := fun κ κe x y => by kernel_rfl
theorem spec_l1Names.ok (n : Nat) : CxOk E (cx n spec_l1Names.d.nt) → KPar (cx n spec_l1Names.d.nt) → spec_l1Names.d.Ok E (spec_l1Names.F (n + 1)) :=
  FD.ok (fs := spec_l1Names.fs n) mixedOk Tryz.func60 (by kernel_rfl) (by kernel_rfl) (by kernel_rfl) (by kernel_rfl) (fun _ => by kernel_rfl) (by kernel_rfl) (fun x => by kernel_rfl) (.cons (FD.lp n (spec_l1Names.r6 n) (by kernel_rfl) fun _ _ => by kernel_rfl) (.nil))
noncomputable def spec_l1Great.fs (n : Nat) : spec_l1Great.d.Fs := (fun _ κe => spec_l1Great.loop23 n (spec_l1Great n) (spec_l1Great.o1.k (κe 1)) n, ())
theorem spec_l1Great.r23 (n : Nat) : spec_l1Great.d.Round (spec_l1Great.fs n) (cx n spec_l1Great.d.nt) (bodyOf Tryz.f36) 23 spec_l1Great.p23 (fun κe => spec_l1Great.step23 n (spec_l1Great n) (spec_l1Great.o1.k (κe 1))) := fun κ κe x y => by kernel_rfl
theorem spec_l1Great.ok (n : Nat) : CxOk E (cx n spec_l1Great.d.nt) → KPar (cx n spec_l1Great.d.nt) → spec_l1Great.d.Ok E (spec_l1Great.F (n + 1)) :=
  FD.ok (fs := spec_l1Great.fs n) mixedOk Tryz.func36 (by kernel_rfl) (by kernel_rfl) (by kernel_rfl) (by kernel_rfl) (fun _ => by kernel_rfl) (by kernel_rfl) (fun x => by kernel_rfl) (.cons (FD.lp n (spec_l1Great.r23 n) (by kernel_rfl) fun _ _ => by kernel_rfl) (.nil))
noncomputable def spec_JsonOk.fs (n : Nat) : spec_JsonOk.d.Fs := ()
theorem spec_JsonOk.ok (n : Nat) : CxOk E (cx n spec_JsonOk.d.nt) → KPar (cx n spec_JsonOk.d.nt) → spec_JsonOk.d.Ok E (spec_JsonOk.F (n + 1)) :=
  FD.ok (fs := spec_JsonOk.fs n) mixedOk Tryz.func19 (by kernel_rfl) (by kernel_rfl) (by kernel_rfl) (by kernel_rfl) (fun _ => by kernel_rfl) (by kernel_rfl) (fun x => by kernel_rfl) (.nil)
noncomputable def spec_l11Right.fs (n : Nat) : spec_l11Right.d.Fs := ()
theorem spec_l11Right.ok (n : Nat) : CxOk E (cx n spec_l11Right.d.nt) → KPar (cx n spec_l11Right.d.nt) → spec_l11Right.d.Ok E (spec_l11Right.F (n + 1)) :=
  FD.ok (fs := spec_l11Right.fs n) mixedOk Tryz.func39 (by kernel_rfl) (by kernel_rfl) (by kernel_rfl) (by kernel_rfl) (fun _ => by kernel_rfl) (by kernel_rfl) (fun x => by kernel_rfl) (.nil)
noncomputable def spec_DocOf.fs (n : Nat) : spec_DocOf.d.Fs := (fun _ κe => spec_DocOf.loop4 n (spec_DocOf.o0.k (κe 0)) n, ())
theorem spec_DocOf.r4 (n : Nat) : spec_DocOf.d.Round (spec_DocOf.fs n) (cx n spec_DocOf.d.nt) (bodyOf Tryz.f21) 4 spec_DocOf.p4 (fun κe => spec_DocOf.step4 n (spec_DocOf.o0.k (κe 0))) := fun κ κe x y => by kernel_rfl
theorem spec_DocOf.ok (n : Nat) : CxOk E (cx n spec_DocOf.d.nt) → KPar (cx n spec_DocOf.d.nt) → spec_DocOf.d.Ok E (spec_DocOf.F (n + 1)) :=
  FD.ok (fs := spec_DocOf.fs n) mixedOk Tryz.func21 (by kernel_rfl) (by kernel_rfl) (by kernel_rfl) (by kernel_rfl) (fun _ => by kernel_rfl) (by kernel_rfl) (fun x => by kernel_rfl) (.cons (FD.lp n (spec_DocOf.r4 n) (by kernel_rfl) fun _ _ => by kernel_rfl) (.nil))
noncomputable def spec_ViewDoc.fs (n : Nat) : spec_ViewDoc.d.Fs := ()
theorem spec_ViewDoc.ok (n : Nat) : CxOk E (cx n spec_ViewDoc.d.nt) → KPar (cx n spec_ViewDoc.d.nt) → spec_ViewDoc.d.Ok E (spec_ViewDoc.F (n + 1)) :=
  FD.ok (fs := spec_ViewDoc.fs n) mixedOk Tryz.func11 (by kernel_rfl) (by kernel_rfl) (by kernel_rfl) (by kernel_rfl) (fun _ => by kernel_rfl) (by kernel_rfl) (fun x => by kernel_rfl) (.nil)
noncomputable def spec_l1Same.fs (n : Nat) : spec_l1Same.d.Fs := (fun _ κe => spec_l1Same.loop6 n (spec_l1Same n) (spec_l1Same.o0.k (κe 0)) n, fun _ κe => spec_l1Same.loop14 n (spec_l1Same n) (spec_l1Same.o2.k (κe 2)) n, ())
theorem spec_l1Same.r14 (n : Nat) : spec_l1Same.d.Round (spec_l1Same.fs n) (cx n spec_l1Same.d.nt) (bodyOf Tryz.f20) 14 spec_l1Same.p14 (fun κe => spec_l1Same.step14 n (spec_l1Same n) (spec_l1Same.o2.k (κe 2))) := fun κ κe x y => by kernel_rfl
theorem spec_l1Same.r6 (n : Nat) : spec_l1Same.d.Round (spec_l1Same.fs n) (cx n spec_l1Same.d.nt) (bodyOf Tryz.f20) 6 spec_l1Same.p6 (fun κe => spec_l1Same.step6 n (spec_l1Same n) (spec_l1Same.o0.k (κe 0))) := fun κ κe x y => by kernel_rfl
theorem spec_l1Same.ok (n : Nat) : CxOk E (cx n spec_l1Same.d.nt) → KPar (cx n spec_l1Same.d.nt) → spec_l1Same.d.Ok E (spec_l1Same.F (n + 1)) :=
  FD.ok (fs := spec_l1Same.fs n) mixedOk Tryz.func20 (by kernel_rfl) (by kernel_rfl) (by kernel_rfl) (by kernel_rfl) (fun _ => by kernel_rfl) (by kernel_rfl) (fun x => by kernel_rfl) (.cons (FD.lp n (spec_l1Same.r6 n) (by kernel_rfl) fun _ _ => by kernel_rfl) (.cons (FD.lp n (spec_l1Same.r14 n) (by kernel_rfl) fun _ _ => by kernel_rfl) (.nil)))
noncomputable def spec_JsonSame.fs (n : Nat) : spec_JsonSame.d.Fs := ()
theorem spec_JsonSame.ok (n : Nat) : CxOk E (cx n spec_JsonSame.d.nt) → KPar (cx n spec_JsonSame.d.nt) → spec_JsonSame.d.Ok E (spec_JsonSame.F (n + 1)) :=
  FD.ok (fs := spec_JsonSame.fs n) mixedOk Tryz.func10 (by kernel_rfl) (by kernel_rfl) (by kernel_rfl) (by kernel_rfl) (fun _ => by kernel_rfl) (by kernel_rfl) (fun x => by kernel_rfl) (.nil)
noncomputable def spec_SessDue.fs (n : Nat) : spec_SessDue.d.Fs := ()
theorem spec_SessDue.ok (n : Nat) : CxOk E (cx n spec_SessDue.d.nt) → KPar (cx n spec_SessDue.d.nt) → spec_SessDue.d.Ok E (spec_SessDue.F (n + 1)) :=
  FD.ok (fs := spec_SessDue.fs n) mixedOk Tryz.func5 (by kernel_rfl) (by kernel_rfl) (by kernel_rfl) (by kernel_rfl) (fun _ => by kernel_rfl) (by kernel_rfl) (fun x => by kernel_rfl) (.nil)
noncomputable def impl_KidsIn.fs (n : Nat) : impl_KidsIn.d.Fs := (fun _ κe => impl_KidsIn.loop3 n (impl_KidsIn.o0.k (κe 0)) n, ())
theorem impl_KidsIn.r3 (n : Nat) : impl_KidsIn.d.Round (impl_KidsIn.fs n) (cx n impl_KidsIn.d.nt) (bodyOf Tryz.f53) 3 impl_KidsIn.p3 (fun κe => impl_KidsIn.step3 n (impl_KidsIn.o0.k (κe 0))) := fun κ κe x y => by kernel_rfl
theorem impl_KidsIn.ok (n : Nat) : CxOk E (cx n impl_KidsIn.d.nt) → KPar (cx n impl_KidsIn.d.nt) → impl_KidsIn.d.Ok E (impl_KidsIn.F (n + 1)) :=
  FD.ok (fs := impl_KidsIn.fs n) mixedOk Tryz.func53 (by kernel_rfl) (by kernel_rfl) (by kernel_rfl) (by kernel_rfl) (fun _ => by kernel_rfl) (by kernel_rfl) (fun x => by kernel_rfl) (.cons (FD.lp n (impl_KidsIn.r3 n) (by kernel_rfl) fun _ _ => by kernel_rfl) (.nil))
noncomputable def impl_kidsOfRows.fs (n : Nat) : impl_kidsOfRows.d.Fs := (fun _ κe => impl_kidsOfRows.loop4 n (impl_kidsOfRows.o0.k (κe 0)) n, ())
theorem impl_kidsOfRows.r4 (n : Nat) : impl_kidsOfRows.d.Round (impl_kidsOfRows.fs n) (cx n impl_kidsOfRows.d.nt) (bodyOf Tryz.f29) 4 impl_kidsOfRows.p4 (fun κe => impl_kidsOfRows.step4 n (impl_kidsOfRows.o0.k (κe 0))) := fun κ κe x y => by kernel_rfl
theorem impl_kidsOfRows.ok (n : Nat) : CxOk E (cx n impl_kidsOfRows.d.nt) → KPar (cx n impl_kidsOfRows.d.nt) → impl_kidsOfRows.d.Ok E (impl_kidsOfRows.F (n + 1)) :=
  FD.ok (fs := impl_kidsOfRows.fs n) mixedOk Tryz.func29 (by kernel_rfl) (by kernel_rfl) (by kernel_rfl) (by kernel_rfl) (fun _ => by kernel_rfl) (by kernel_rfl) (fun x => by kernel_rfl) (.cons (FD.lp n (impl_kidsOfRows.r4 n) (by kernel_rfl) fun _ _ => by kernel_rfl) (.nil))
noncomputable def impl_firstOf.fs (n : Nat) : impl_firstOf.d.Fs := ()
theorem impl_firstOf.ok (n : Nat) : CxOk E (cx n impl_firstOf.d.nt) → KPar (cx n impl_firstOf.d.nt) → impl_firstOf.d.Ok E (impl_firstOf.F (n + 1)) :=
  FD.ok (fs := impl_firstOf.fs n) mixedOk Tryz.func68 (by kernel_rfl) (by kernel_rfl) (by kernel_rfl) (by kernel_rfl) (fun _ => by kernel_rfl) (by kernel_rfl) (fun x => by kernel_rfl) (.nil)
noncomputable def slices_Index_int.fs (n : Nat) : slices_Index_int.d.Fs := (fun _ κe => slices_Index_int.loop3 n (slices_Index_int.o0.k (κe 0)) n, ())
theorem slices_Index_int.r3 (n : Nat) : slices_Index_int.d.Round (slices_Index_int.fs n) (cx n slices_Index_int.d.nt) (bodyOf Tryz.f80) 3 slices_Index_int.p3 (fun κe => slices_Index_int.step3 n (slices_Index_int.o0.k (κe 0))) := fun κ κe x y => by kernel_rfl
theorem slices_Index_int.ok (n : Nat) : CxOk E (cx n slices_Index_int.d.nt) → KPar (cx n slices_Index_int.d.nt) → slices_Index_int.d.Ok E (slices_Index_int.F (n + 1)) :=
  FD.ok (fs := slices_Index_int.fs n) mixedOk Tryz.func80 (by kernel_rfl) (by kernel_rfl) (by kernel_rfl) (by kernel_rfl) (fun _ => by kernel_rfl) (by kernel_rfl) (fun x => by kernel_rfl) (.cons (FD.lp n (slices_Index_int.r3 n) (by kernel_rfl) fun _ _ => by kernel_rfl) (.nil))
noncomputable def slices_Contains_int.fs (n : Nat) : slices_Contains_int.d.Fs := ()
theorem slices_Contains_int.ok (n : Nat) : CxOk E (cx n slices_Contains_int.d.nt) → KPar (cx n slices_Contains_int.d.nt) → slices_Contains_int.d.Ok E (slices_Contains_int.F (n + 1)) :=
  FD.ok (fs := slices_Contains_int.fs n) mixedOk Tryz.func76 (by kernel_rfl) (by kernel_rfl) (by kernel_rfl) (by kernel_rfl) (fun _ => by kernel_rfl) (by kernel_rfl) (fun x => by kernel_rfl) (.nil)
noncomputable def impl_digits.fs (n : Nat) : impl_digits.d.Fs := ()
theorem impl_digits.ok (n : Nat) : CxOk E (cx n impl_digits.d.nt) → KPar (cx n impl_digits.d.nt) → impl_digits.d.Ok E (impl_digits.F (n + 1)) :=
  FD.ok (fs := impl_digits.fs n) mixedOk Tryz.func77 (by kernel_rfl) (by kernel_rfl) (by kernel_rfl) (by kernel_rfl) (fun _ => by kernel_rfl) (by kernel_rfl) (fun x => by kernel_rfl) (.nil)
noncomputable def impl_within.fs (n : Nat) : impl_within.d.Fs := ()
theorem impl_within.ok (n : Nat) : CxOk E (cx n impl_within.d.nt) → KPar (cx n impl_within.d.nt) → impl_within.d.Ok E (impl_within.F (n + 1)) :=
  FD.ok (fs := impl_within.fs n) mixedOk Tryz.func72 (by kernel_rfl) (by kernel_rfl) (by kernel_rfl) (by kernel_rfl) (fun _ => by kernel_rfl) (by kernel_rfl) (fun x => by kernel_rfl) (.nil)
noncomputable def impl_cellOf.fs (n : Nat) : impl_cellOf.d.Fs := ()
theorem impl_cellOf.ok (n : Nat) : CxOk E (cx n impl_cellOf.d.nt) → KPar (cx n impl_cellOf.d.nt) → impl_cellOf.d.Ok E (impl_cellOf.F (n + 1)) :=
  FD.ok (fs := impl_cellOf.fs n) mixedOk Tryz.func78 (by kernel_rfl) (by kernel_rfl) (by kernel_rfl) (by kernel_rfl) (fun _ => by kernel_rfl) (by kernel_rfl) (fun x => by kernel_rfl) (.nil)
noncomputable def cmp_isNaN_string_.fs (n : Nat) : cmp_isNaN_string_.d.Fs := ()
theorem cmp_isNaN_string_.ok (n : Nat) : CxOk E (cx n cmp_isNaN_string_.d.nt) → KPar (cx n cmp_isNaN_string_.d.nt) → cmp_isNaN_string_.d.Ok E (cmp_isNaN_string_.F (n + 1)) :=
  FD.ok (fs := cmp_isNaN_string_.fs n) mixedOk Tryz.func93 (by kernel_rfl) (by kernel_rfl) (by kernel_rfl) (by kernel_rfl) (fun _ => by kernel_rfl) (by kernel_rfl) (fun x => by kernel_rfl) (.nil)
noncomputable def cmp_Less_string_.fs (n : Nat) : cmp_Less_string_.d.Fs := ()
theorem cmp_Less_string_.ok (n : Nat) : CxOk E (cx n cmp_Less_string_.d.nt) → KPar (cx n cmp_Less_string_.d.nt) → cmp_Less_string_.d.Ok E (cmp_Less_string_.F (n + 1)) :=
  FD.ok (fs := cmp_Less_string_.fs n) mixedOk Tryz.func86 (by kernel_rfl) (by kernel_rfl) (by kernel_rfl) (by kernel_rfl) (fun _ => by kernel_rfl) (by kernel_rfl) (fun x => by kernel_rfl) (.nil)
noncomputable def slices_isNaN_string.fs (n : Nat) : slices_isNaN_string.d.Fs := ()
theorem slices_isNaN_string.ok (n : Nat) : CxOk E (cx n slices_isNaN_string.d.nt) → KPar (cx n slices_isNaN_string.d.nt) → slices_isNaN_string.d.Ok E (slices_isNaN_string.F (n + 1)) :=
  FD.ok (fs := slices_isNaN_string.fs n) mixedOk Tryz.func87 (by kernel_rfl) (by kernel_rfl) (by kernel_rfl) (by kernel_rfl) (fun _ => by kernel_rfl) (by kernel_rfl) (fun x => by kernel_rfl) (.nil)
noncomputable def slices_BinarySearch_string.fs (n : Nat) : slices_BinarySearch_string.d.Fs := (fun _ κe => slices_BinarySearch_string.loop4 n (slices_BinarySearch_string.o0.k (κe 0)) n, ())
theorem slices_BinarySearch_string.r4 (n : Nat) : slices_BinarySearch_string.d.Round (slices_BinarySearch_string.fs n) (cx n slices_BinarySearch_string.d.nt) (bodyOf Tryz.f82) 4 slices_BinarySearch_string.p4 (fun κe => slices_BinarySearch_string.step4 n (slices_BinarySearch_string.o0.k (κe 0))) := fun κ κe x y => by kernel_rfl
theorem slices_BinarySearch_string.ok (n : Nat) : CxOk E (cx n slices_BinarySearch_string.d.nt) → KPar (cx n slices_BinarySearch_string.d.nt) → slices_BinarySearch_string.d.Ok E (slices_BinarySearch_string.F (n + 1)) :=
  FD.ok (fs := slices_BinarySearch_string.fs n) mixedOk Tryz.func82 (by kernel_rfl) (by kernel_rfl) (by kernel_rfl) (by kernel_rfl) (fun _ => by kernel_rfl) (by kernel_rfl) (fun x => by kernel_rfl) (.cons (FD.lp n (slices_BinarySearch_string.r4 n) (by kernel_rfl) fun _ _ => by kernel_rfl) (.nil))
noncomputable def impl_objOf.fs (n : Nat) : impl_objOf.d.Fs := (fun _ κe => impl_objOf.loop4 n (impl_objOf.o0.k (κe 0)) n, ())
theorem impl_objOf.r4 (n : Nat) : impl_objOf.d.Round (impl_objOf.fs n) (cx n impl_objOf.d.nt) (bodyOf Tryz.f79) 4 impl_objOf.p4 (fun κe => impl_objOf.step4 n (impl_objOf.o0.k (κe 0))) := fun κ κe x y => by kernel_rfl
theorem impl_objOf.ok (n : Nat) : CxOk E (cx n impl_objOf.d.nt) → KPar (cx n impl_objOf.d.nt) → impl_objOf.d.Ok E (impl_objOf.F (n + 1)) :=
  FD.ok (fs := impl_objOf.fs n) mixedOk Tryz.func79 (by kernel_rfl) (by kernel_rfl) (by kernel_rfl) (by kernel_rfl) (fun _ => by kernel_rfl) (by kernel_rfl) (fun x => by kernel_rfl) (.cons (FD.lp n (impl_objOf.r4 n) (by kernel_rfl) fun _ _ => by kernel_rfl) (.nil))
noncomputable def impl_isNum.fs (n : Nat) : impl_isNum.d.Fs := ()
theorem impl_isNum.ok (n : Nat) : CxOk E (cx n impl_isNum.d.nt) → KPar (cx n impl_isNum.d.nt) → impl_isNum.d.Ok E (impl_isNum.F (n + 1)) :=
  FD.ok (fs := impl_isNum.fs n) mixedOk Tryz.func73 (by kernel_rfl) (by kernel_rfl) (by kernel_rfl) (by kernel_rfl) (fun _ => by kernel_rfl) (by kernel_rfl) (fun x => by kernel_rfl) (.nil)
noncomputable def impl_textOk.fs (n : Nat) : impl_textOk.d.Fs := (fun _ κe => impl_textOk.loop3 n (impl_textOk.o0.k (κe 0)) n, ())
theorem impl_textOk.r3 (n : Nat) : impl_textOk.d.Round (impl_textOk.fs n) (cx n impl_textOk.d.nt) (bodyOf Tryz.f74) 3 impl_textOk.p3 (fun κe => impl_textOk.step3 n (impl_textOk.o0.k (κe 0))) := fun κ κe x y => by kernel_rfl
theorem impl_textOk.ok (n : Nat) : CxOk E (cx n impl_textOk.d.nt) → KPar (cx n impl_textOk.d.nt) → impl_textOk.d.Ok E (impl_textOk.F (n + 1)) :=
  FD.ok (fs := impl_textOk.fs n) mixedOk Tryz.func74 (by kernel_rfl) (by kernel_rfl) (by kernel_rfl) (by kernel_rfl) (fun _ => by kernel_rfl) (by kernel_rfl) (fun x => by kernel_rfl) (.cons (FD.lp n (impl_textOk.r3 n) (by kernel_rfl) fun _ _ => by kernel_rfl) (.nil))
noncomputable def impl_namesOk.fs (n : Nat) : impl_namesOk.d.Fs := (fun _ κe => impl_namesOk.loop3 n (impl_namesOk.o0.k (κe 0)) n, ())
theorem impl_namesOk.r3 (n : Nat) : impl_namesOk.d.Round (impl_namesOk.fs n) (cx n impl_namesOk.d.nt) (bodyOf Tryz.f75) 3 impl_namesOk.p3 (fun κe => impl_namesOk.step3 n (impl_namesOk.o0.k (κe 0))) := fun κ κe x y => by kernel_rfl
theorem impl_namesOk.ok (n : Nat) : CxOk E (cx n impl_namesOk.d.nt) → KPar (cx n impl_namesOk.d.nt) → impl_namesOk.d.Ok E (impl_namesOk.F (n + 1)) :=
  FD.ok (fs := impl_namesOk.fs n) mixedOk Tryz.func75 (by kernel_rfl) (by kernel_rfl) (by kernel_rfl) (by kernel_rfl) (fun _ => by kernel_rfl) (by kernel_rfl) (fun x => by kernel_rfl) (.cons (FD.lp n (impl_namesOk.r3 n) (by kernel_rfl) fun _ _ => by kernel_rfl) (.nil))
noncomputable def impl_ownOk.fs (n : Nat) : impl_ownOk.d.Fs := ()
theorem impl_ownOk.ok (n : Nat) : CxOk E (cx n impl_ownOk.d.nt) → KPar (cx n impl_ownOk.d.nt) → impl_ownOk.d.Ok E (impl_ownOk.F (n + 1)) :=
  FD.ok (fs := impl_ownOk.fs n) mixedOk Tryz.func67 (by kernel_rfl) (by kernel_rfl) (by kernel_rfl) (by kernel_rfl) (fun _ => by kernel_rfl) (by kernel_rfl) (fun x => by kernel_rfl) (.nil)
noncomputable def impl_sizeIn.fs (n : Nat) : impl_sizeIn.d.Fs := (fun _ κe => impl_sizeIn.loop7 n (impl_sizeIn n) (impl_sizeIn.o0.k (κe 0)) n, ())
theorem impl_sizeIn.r7 (n : Nat) : impl_sizeIn.d.Round (impl_sizeIn.fs n) (cx n impl_sizeIn.d.nt) (bodyOf Tryz.f46) 7 impl_sizeIn.p7 (fun κe => impl_sizeIn.step7 n (impl_sizeIn n) (impl_sizeIn.o0.k (κe 0))) := fun κ κe x y => by kernel_rfl
theorem impl_sizeIn.ok (n : Nat) : CxOk E (cx n impl_sizeIn.d.nt) → KPar (cx n impl_sizeIn.d.nt) → impl_sizeIn.d.Ok E (impl_sizeIn.F (n + 1)) :=
  FD.ok (fs := impl_sizeIn.fs n) mixedOk Tryz.func46 (by kernel_rfl) (by kernel_rfl) (by kernel_rfl) (by kernel_rfl) (fun _ => by kernel_rfl) (by kernel_rfl) (fun x => by kernel_rfl) (.cons (FD.lp n (impl_sizeIn.r7 n) (by kernel_rfl) fun _ _ => by kernel_rfl) (.nil))
noncomputable def impl_JsonOk.fs (n : Nat) : impl_JsonOk.d.Fs := ()
theorem impl_JsonOk.ok (n : Nat) : CxOk E (cx n impl_JsonOk.d.nt) → KPar (cx n impl_JsonOk.d.nt) → impl_JsonOk.d.Ok E (impl_JsonOk.F (n + 1)) :=
  FD.ok (fs := impl_JsonOk.fs n) mixedOk Tryz.func26 (by kernel_rfl) (by kernel_rfl) (by kernel_rfl) (by kernel_rfl) (fun _ => by kernel_rfl) (by kernel_rfl) (fun x => by kernel_rfl) (.nil)
noncomputable def impl_orNull.fs (n : Nat) : impl_orNull.d.Fs := ()
theorem impl_orNull.ok (n : Nat) : CxOk E (cx n impl_orNull.d.nt) → KPar (cx n impl_orNull.d.nt) → impl_orNull.d.Ok E (impl_orNull.F (n + 1)) :=
  FD.ok (fs := impl_orNull.fs n) mixedOk Tryz.func52 (by kernel_rfl) (by kernel_rfl) (by kernel_rfl) (by kernel_rfl) (fun _ => by kernel_rfl) (by kernel_rfl) (fun x => by kernel_rfl) (.nil)
noncomputable def impl_RowDoc.fs (n : Nat) : impl_RowDoc.d.Fs := (fun _ κe => impl_RowDoc.loop4 n (impl_RowDoc.o0.k (κe 0)) n, ())
theorem impl_RowDoc.r4 (n : Nat) : impl_RowDoc.d.Round (impl_RowDoc.fs n) (cx n impl_RowDoc.d.nt) (bodyOf Tryz.f69) 4 impl_RowDoc.p4 (fun κe => impl_RowDoc.step4 n (impl_RowDoc.o0.k (κe 0))) := fun κ κe x y => by kernel_rfl
theorem impl_RowDoc.ok (n : Nat) : CxOk E (cx n impl_RowDoc.d.nt) → KPar (cx n impl_RowDoc.d.nt) → impl_RowDoc.d.Ok E (impl_RowDoc.F (n + 1)) :=
  FD.ok (fs := impl_RowDoc.fs n) mixedOk Tryz.func69 (by kernel_rfl) (by kernel_rfl) (by kernel_rfl) (by kernel_rfl) (fun _ => by kernel_rfl) (by kernel_rfl) (fun x => by kernel_rfl) (.cons (FD.lp n (impl_RowDoc.r4 n) (by kernel_rfl) fun _ _ => by kernel_rfl) (.nil))
noncomputable def impl_rowDocs.fs (n : Nat) : impl_rowDocs.d.Fs := (fun _ κe => impl_rowDocs.loop4 n (impl_rowDocs.o0.k (κe 0)) n, ())
theorem impl_rowDocs.r4 (n : Nat) : impl_rowDocs.d.Round (impl_rowDocs.fs n) (cx n impl_rowDocs.d.nt) (bodyOf Tryz.f49) 4 impl_rowDocs.p4 (fun κe => impl_rowDocs.step4 n (impl_rowDocs.o0.k (κe 0))) := fun κ κe x y => by kernel_rfl
theorem impl_rowDocs.ok (n : Nat) : CxOk E (cx n impl_rowDocs.d.nt) → KPar (cx n impl_rowDocs.d.nt) → impl_rowDocs.d.Ok E (impl_rowDocs.F (n + 1)) :=
  FD.ok (fs := impl_rowDocs.fs n) mixedOk Tryz.func49 (by kernel_rfl) (by kernel_rfl) (by kernel_rfl) (by kernel_rfl) (fun _ => by kernel_rfl) (by kernel_rfl) (fun x => by kernel_rfl) (.cons (FD.lp n (impl_rowDocs.r4 n) (by kernel_rfl) fun _ _ => by kernel_rfl) (.nil))
noncomputable def impl_DocOf_f1.fs (n : Nat) : impl_DocOf_f1.d.Fs := ()
theorem impl_DocOf_f1.ok (n : Nat) : CxOk E (cx n impl_DocOf_f1.d.nt) → KPar (cx n impl_DocOf_f1.d.nt) → impl_DocOf_f1.d.Ok E (impl_DocOf_f1.F (n + 1)) :=
  FD.ok (fs := impl_DocOf_f1.fs n) mixedOk Tryz.func51 (by kernel_rfl) (by kernel_rfl) (by kernel_rfl) (by kernel_rfl) (fun _ => by kernel_rfl) (by kernel_rfl) (fun x => by kernel_rfl) (.nil)
noncomputable def slices_IndexFunc_Json_impl_DocOf_f1.fs (n : Nat) : slices_IndexFunc_Json_impl_DocOf_f1.d.Fs := (fun _ κe => slices_IndexFunc_Json_impl_DocOf_f1.loop3 n (slices_IndexFunc_Json_impl_DocOf_f1.o0.k (κe 0)) n, ())
theorem slices_IndexFunc_Json_impl_DocOf_f1.r3 (n : Nat) : slices_IndexFunc_Json_impl_DocOf_f1.d.Round (slices_IndexFunc_Json_impl_DocOf_f1.fs n) (cx n slices_IndexFunc_Json_impl_DocOf_f1.d.nt) (bodyOf Tryz.f70) 3 slices_IndexFunc_Json_impl_DocOf_f1.p3 (fun κe => slices_IndexFunc_Json_impl_DocOf_f1.step3 n (slices_IndexFunc_Json_impl_DocOf_f1.o0.k (κe 0))) := fun κ κe x y => by kernel_rfl
theorem slices_IndexFunc_Json_impl_DocOf_f1.ok (n : Nat) : CxOk E (cx n slices_IndexFunc_Json_impl_DocOf_f1.d.nt) → KPar (cx n slices_IndexFunc_Json_impl_DocOf_f1.d.nt) → slices_IndexFunc_Json_impl_DocOf_f1.d.Ok E (slices_IndexFunc_Json_impl_DocOf_f1.F (n + 1)) :=
  FD.ok (fs := slices_IndexFunc_Json_impl_DocOf_f1.fs n) mixedOk Tryz.func70 (by kernel_rfl) (by kernel_rfl) (by kernel_rfl) (by kernel_rfl) (fun _ => by kernel_rfl) (by kernel_rfl) (fun x => by kernel_rfl) (.cons (FD.lp n (slices_IndexFunc_Json_impl_DocOf_f1.r3 n) (by kernel_rfl) fun _ _ => by kernel_rfl) (.nil))
noncomputable def slices_ContainsFunc_Json_impl_DocOf_f1.fs (n : Nat) : slices_ContainsFunc_Json_impl_DocOf_f1.d.Fs := ()
theorem slices_ContainsFunc_Json_impl_DocOf_f1.ok (n : Nat) : CxOk E (cx n slices_ContainsFunc_Json_impl_DocOf_f1.d.nt) → KPar (cx n slices_ContainsFunc_Json_impl_DocOf_f1.d.nt) → slices_ContainsFunc_Json_impl_DocOf_f1.d.Ok E (slices_ContainsFunc_Json_impl_DocOf_f1.F (n + 1)) :=
  FD.ok (fs := slices_ContainsFunc_Json_impl_DocOf_f1.fs n) mixedOk Tryz.func50 (by kernel_rfl) (by kernel_rfl) (by kernel_rfl) (by kernel_rfl) (fun _ => by kernel_rfl) (by kernel_rfl) (fun x => by kernel_rfl) (.nil)
noncomputable def impl_DocOf.fs (n : Nat) : impl_DocOf.d.Fs := ()
theorem impl_DocOf.ok (n : Nat) : CxOk E (cx n impl_DocOf.d.nt) → KPar (cx n impl_DocOf.d.nt) → impl_DocOf.d.Ok E (impl_DocOf.F (n + 1)) :=
  FD.ok (fs := impl_DocOf.fs n) mixedOk Tryz.func28 (by kernel_rfl) (by kernel_rfl) (by kernel_rfl) (by kernel_rfl) (fun _ => by kernel_rfl) (by kernel_rfl) (fun x => by kernel_rfl) (.nil)
noncomputable def impl_ViewDoc.fs (n : Nat) : impl_ViewDoc.d.Fs := ()
theorem impl_ViewDoc.ok (n : Nat) : CxOk E (cx n impl_ViewDoc.d.nt) → KPar (cx n impl_ViewDoc.d.nt) → impl_ViewDoc.d.Ok E (impl_ViewDoc.F (n + 1)) :=
  FD.ok (fs := impl_ViewDoc.fs n) mixedOk Tryz.func14 (by kernel_rfl) (by kernel_rfl) (by kernel_rfl) (by kernel_rfl) (fun _ => by kernel_rfl) (by kernel_rfl) (fun x => by kernel_rfl) (.nil)
noncomputable def slices_Equal_string.fs (n : Nat) : slices_Equal_string.d.Fs := (fun _ κe => slices_Equal_string.loop6 n (slices_Equal_string.o0.k (κe 0)) n, ())
theorem slices_Equal_string.r6 (n : Nat) : slices_Equal_string.d.Round (slices_Equal_string.fs n) (cx n slices_Equal_string.d.nt) (bodyOf Tryz.f47) 6 slices_Equal_string.p6 (fun κe => slices_Equal_string.step6 n (slices_Equal_string.o0.k (κe 0))) := fun κ κe x y => by kernel_rfl
theorem slices_Equal_string.ok (n : Nat) : CxOk E (cx n slices_Equal_string.d.nt) → KPar (cx n slices_Equal_string.d.nt) → slices_Equal_string.d.Ok E (slices_Equal_string.F (n + 1)) :=
  FD.ok (fs := slices_Equal_string.fs n) mixedOk Tryz.func47 (by kernel_rfl) (by kernel_rfl) (by kernel_rfl) (by kernel_rfl) (fun _ => by kernel_rfl) (by kernel_rfl) (fun x => by kernel_rfl) (.cons (FD.lp n (slices_Equal_string.r6 n) (by kernel_rfl) fun _ _ => by kernel_rfl) (.nil))
noncomputable def slices_EqualFunc_Json_impl_alike.fs (n : Nat) : slices_EqualFunc_Json_impl_alike.d.Fs := (fun _ κe => slices_EqualFunc_Json_impl_alike.loop6 n (impl_alike n) (slices_EqualFunc_Json_impl_alike.o0.k (κe 0)) n, ())
theorem slices_EqualFunc_Json_impl_alike.r6 (n : Nat) : slices_EqualFunc_Json_impl_alike.d.Round (slices_EqualFunc_Json_impl_alike.fs n) (cx n slices_EqualFunc_Json_impl_alike.d.nt) (bodyOf Tryz.f48) 6 slices_EqualFunc_Json_impl_alike.p6 (fun κe => slices_EqualFunc_Json_impl_alike.step6 n (impl_alike n) (slices_EqualFunc_Json_impl_alike.o0.k (κe 0))) := fun κ κe x y => by kernel_rfl
theorem slices_EqualFunc_Json_impl_alike.ok (n : Nat) : CxOk E (cx n slices_EqualFunc_Json_impl_alike.d.nt) → KPar (cx n slices_EqualFunc_Json_impl_alike.d.nt) → slices_EqualFunc_Json_impl_alike.d.Ok E (slices_EqualFunc_Json_impl_alike.F (n + 1)) :=
  FD.ok (fs := slices_EqualFunc_Json_impl_alike.fs n) mixedOk Tryz.func48 (by kernel_rfl) (by kernel_rfl) (by kernel_rfl) (by kernel_rfl) (fun _ => by kernel_rfl) (by kernel_rfl) (fun x => by kernel_rfl) (.cons (FD.lp n (slices_EqualFunc_Json_impl_alike.r6 n) (by kernel_rfl) fun _ _ => by kernel_rfl) (.nil))
noncomputable def impl_alike.fs (n : Nat) : impl_alike.d.Fs := ()
theorem impl_alike.ok (n : Nat) : CxOk E (cx n impl_alike.d.nt) → KPar (cx n impl_alike.d.nt) → impl_alike.d.Ok E (impl_alike.F (n + 1)) :=
  FD.ok (fs := impl_alike.fs n) mixedOk Tryz.func27 (by kernel_rfl) (by kernel_rfl) (by kernel_rfl) (by kernel_rfl) (fun _ => by kernel_rfl) (by kernel_rfl) (fun x => by kernel_rfl) (.nil)
noncomputable def impl_JsonSame.fs (n : Nat) : impl_JsonSame.d.Fs := ()
theorem impl_JsonSame.ok (n : Nat) : CxOk E (cx n impl_JsonSame.d.nt) → KPar (cx n impl_JsonSame.d.nt) → impl_JsonSame.d.Ok E (impl_JsonSame.F (n + 1)) :=
  FD.ok (fs := impl_JsonSame.fs n) mixedOk Tryz.func13 (by kernel_rfl) (by kernel_rfl) (by kernel_rfl) (by kernel_rfl) (fun _ => by kernel_rfl) (by kernel_rfl) (fun x => by kernel_rfl) (.nil)
noncomputable def impl_SessDue.fs (n : Nat) : impl_SessDue.d.Fs := ()
theorem impl_SessDue.ok (n : Nat) : CxOk E (cx n impl_SessDue.d.nt) → KPar (cx n impl_SessDue.d.nt) → impl_SessDue.d.Ok E (impl_SessDue.F (n + 1)) :=
  FD.ok (fs := impl_SessDue.fs n) mixedOk Tryz.func7 (by kernel_rfl) (by kernel_rfl) (by kernel_rfl) (by kernel_rfl) (fun _ => by kernel_rfl) (by kernel_rfl) (fun x => by kernel_rfl) (.nil)
noncomputable def laws_eqCond.fs (n : Nat) : laws_eqCond.d.Fs := ()
theorem laws_eqCond.ok (n : Nat) : CxOk E (cx n laws_eqCond.d.nt) → KPar (cx n laws_eqCond.d.nt) → laws_eqCond.d.Ok E (laws_eqCond.F (n + 1)) :=
  FD.ok (fs := laws_eqCond.fs n) mixedOk Tryz.func71 (by kernel_rfl) (by kernel_rfl) (by kernel_rfl) (by kernel_rfl) (fun _ => by kernel_rfl) (by kernel_rfl) (fun x => by kernel_rfl) (.nil)
noncomputable def laws_eqCondS.fs (n : Nat) : laws_eqCondS.d.Fs := (fun _ κe => laws_eqCondS.loop6 n (laws_eqCondS.o0.k (κe 0)) n, ())
theorem laws_eqCondS.r6 (n : Nat) : laws_eqCondS.d.Round (laws_eqCondS.fs n) (cx n laws_eqCondS.d.nt) (bodyOf Tryz.f54) 6 laws_eqCondS.p6 (fun κe => laws_eqCondS.step6 n (laws_eqCondS.o0.k (κe 0))) := fun κ κe x y => by kernel_rfl
theorem laws_eqCondS.ok (n : Nat) : CxOk E (cx n laws_eqCondS.d.nt) → KPar (cx n laws_eqCondS.d.nt) → laws_eqCondS.d.Ok E (laws_eqCondS.F (n + 1)) :=
  FD.ok (fs := laws_eqCondS.fs n) mixedOk Tryz.func54 (by kernel_rfl) (by kernel_rfl) (by kernel_rfl) (by kernel_rfl) (fun _ => by kernel_rfl) (by kernel_rfl) (fun x => by kernel_rfl) (.cons (FD.lp n (laws_eqCondS.r6 n) (by kernel_rfl) fun _ _ => by kernel_rfl) (.nil))
noncomputable def laws_eqIntS.fs (n : Nat) : laws_eqIntS.d.Fs := (fun _ κe => laws_eqIntS.loop6 n (laws_eqIntS.o0.k (κe 0)) n, ())
theorem laws_eqIntS.r6 (n : Nat) : laws_eqIntS.d.Round (laws_eqIntS.fs n) (cx n laws_eqIntS.d.nt) (bodyOf Tryz.f55) 6 laws_eqIntS.p6 (fun κe => laws_eqIntS.step6 n (laws_eqIntS.o0.k (κe 0))) := fun κ κe x y => by kernel_rfl
theorem laws_eqIntS.ok (n : Nat) : CxOk E (cx n laws_eqIntS.d.nt) → KPar (cx n laws_eqIntS.d.nt) → laws_eqIntS.d.Ok E (laws_eqIntS.F (n + 1)) :=
  FD.ok (fs := laws_eqIntS.fs n) mixedOk Tryz.func55 (by kernel_rfl) (by kernel_rfl) (by kernel_rfl) (by kernel_rfl) (fun _ => by kernel_rfl) (by kernel_rfl) (fun x => by kernel_rfl) (.cons (FD.lp n (laws_eqIntS.r6 n) (by kernel_rfl) fun _ _ => by kernel_rfl) (.nil))
noncomputable def laws_eqQuery.fs (n : Nat) : laws_eqQuery.d.Fs := ()
theorem laws_eqQuery.ok (n : Nat) : CxOk E (cx n laws_eqQuery.d.nt) → KPar (cx n laws_eqQuery.d.nt) → laws_eqQuery.d.Ok E (laws_eqQuery.F (n + 1)) :=
  FD.ok (fs := laws_eqQuery.fs n) mixedOk Tryz.func30 (by kernel_rfl) (by kernel_rfl) (by kernel_rfl) (by kernel_rfl) (fun _ => by kernel_rfl) (by kernel_rfl) (fun x => by kernel_rfl) (.nil)
noncomputable def laws_eqRow.fs (n : Nat) : laws_eqRow.d.Fs := ()
theorem laws_eqRow.ok (n : Nat) : CxOk E (cx n laws_eqRow.d.nt) → KPar (cx n laws_eqRow.d.nt) → laws_eqRow.d.Ok E (laws_eqRow.F (n + 1)) :=
  FD.ok (fs := laws_eqRow.fs n) mixedOk Tryz.func56 (by kernel_rfl) (by kernel_rfl) (by kernel_rfl) (by kernel_rfl) (fun _ => by kernel_rfl) (by kernel_rfl) (fun x => by kernel_rfl) (.nil)
noncomputable def laws_eqRowS.fs (n : Nat) : laws_eqRowS.d.Fs := (fun _ κe => laws_eqRowS.loop6 n (laws_eqRowS.o0.k (κe 0)) n, ())
theorem laws_eqRowS.r6 (n : Nat) : laws_eqRowS.d.Round (laws_eqRowS.fs n) (cx n laws_eqRowS.d.nt) (bodyOf Tryz.f31) 6 laws_eqRowS.p6 (fun κe => laws_eqRowS.step6 n (laws_eqRowS.o0.k (κe 0))) := fun κ κe x y => by kernel_rfl
theorem laws_eqRowS.ok (n : Nat) : CxOk E (cx n laws_eqRowS.d.nt) → KPar (cx n laws_eqRowS.d.nt) → laws_eqRowS.d.Ok E (laws_eqRowS.F (n + 1)) :=
  FD.ok (fs := laws_eqRowS.fs n) mixedOk Tryz.func31 (by kernel_rfl) (by kernel_rfl) (by kernel_rfl) (by kernel_rfl) (fun _ => by kernel_rfl) (by kernel_rfl) (fun x => by kernel_rfl) (.cons (FD.lp n (laws_eqRowS.r6 n) (by kernel_rfl) fun _ _ => by kernel_rfl) (.nil))
noncomputable def laws_eqKid.fs (n : Nat) : laws_eqKid.d.Fs := ()
theorem laws_eqKid.ok (n : Nat) : CxOk E (cx n laws_eqKid.d.nt) → KPar (cx n laws_eqKid.d.nt) → laws_eqKid.d.Ok E (laws_eqKid.F (n + 1)) :=
  FD.ok (fs := laws_eqKid.fs n) mixedOk Tryz.func57 (by kernel_rfl) (by kernel_rfl) (by kernel_rfl) (by kernel_rfl) (fun _ => by kernel_rfl) (by kernel_rfl) (fun x => by kernel_rfl) (.nil)
noncomputable def laws_eqKidS.fs (n : Nat) : laws_eqKidS.d.Fs := (fun _ κe => laws_eqKidS.loop6 n (laws_eqKidS.o0.k (κe 0)) n, ())
theorem laws_eqKidS.r6 (n : Nat) : laws_eqKidS.d.Round (laws_eqKidS.fs n) (cx n laws_eqKidS.d.nt) (bodyOf Tryz.f32) 6 laws_eqKidS.p6 (fun κe => laws_eqKidS.step6 n (laws_eqKidS.o0.k (κe 0))) := fun κ κe x y => by kernel_rfl
theorem laws_eqKidS.ok (n : Nat) : CxOk E (cx n laws_eqKidS.d.nt) → KPar (cx n laws_eqKidS.d.nt) → laws_eqKidS.d.Ok E (laws_eqKidS.F (n + 1)) :=
  FD.ok (fs := laws_eqKidS.fs n) mixedOk Tryz.func32 (by kernel_rfl) (by kernel_rfl) (by kernel_rfl) (by kernel_rfl) (fun _ => by kernel_rfl) (by kernel_rfl) (fun x => by kernel_rfl) (.cons (FD.lp n (laws_eqKidS.r6 n) (by kernel_rfl) fun _ _ => by kernel_rfl) (.nil))
noncomputable def laws_eqView.fs (n : Nat) : laws_eqView.d.Fs := ()
theorem laws_eqView.ok (n : Nat) : CxOk E (cx n laws_eqView.d.nt) → KPar (cx n laws_eqView.d.nt) → laws_eqView.d.Ok E (laws_eqView.F (n + 1)) :=
  FD.ok (fs := laws_eqView.fs n) mixedOk Tryz.func15 (by kernel_rfl) (by kernel_rfl) (by kernel_rfl) (by kernel_rfl) (fun _ => by kernel_rfl) (by kernel_rfl) (fun x => by kernel_rfl) (.nil)
noncomputable def laws_eqSess.fs (n : Nat) : laws_eqSess.d.Fs := ()
theorem laws_eqSess.ok (n : Nat) : CxOk E (cx n laws_eqSess.d.nt) → KPar (cx n laws_eqSess.d.nt) → laws_eqSess.d.Ok E (laws_eqSess.F (n + 1)) :=
  FD.ok (fs := laws_eqSess.fs n) mixedOk Tryz.func8 (by kernel_rfl) (by kernel_rfl) (by kernel_rfl) (by kernel_rfl) (fun _ => by kernel_rfl) (by kernel_rfl) (fun x => by kernel_rfl) (.nil)
noncomputable def laws_FnExactSessDue.fs (n : Nat) : laws_FnExactSessDue.d.Fs := ()
theorem laws_FnExactSessDue.ok (n : Nat) : CxOk E (cx n laws_FnExactSessDue.d.nt) → KPar (cx n laws_FnExactSessDue.d.nt) → laws_FnExactSessDue.d.Ok E (laws_FnExactSessDue.F (n + 1)) :=
  FD.ok (fs := laws_FnExactSessDue.fs n) mixedOk Tryz.func3 (by kernel_rfl) (by kernel_rfl) (by kernel_rfl) (by kernel_rfl) (fun _ => by kernel_rfl) (by kernel_rfl) (fun x => by kernel_rfl) (.nil)
end Go.Pi
end
section
set_option linter.unusedVariables false
namespace Go.Pi
/-- what an insertion makes of two rows -/
def InsM (P : Program) (f : FuncId) (e : TypeId) (K B : Nat) : Prop :=
  ∀ (w : World) (S : Value) (n : Nat) (vals : List Value) (U : Value) (m : Nat) (us : List Value) (i : Nat), w.ownsRow 0 e K S n vals → w.ownsRow 0 e K U m us → (∀ b, own1 S b ≠ 0 → own1 U b = 0) → i ≤ n →
    (∀ v ∈ vals, v.oneCell' = true) → (∀ v ∈ us, v.oneCell' = true) → (n + m) * B ≤ 140737488355328 →
    Calls P f (List.toArray [S, .int .i64 i, U]) w fun e' w' => ∃ R, e' = .returned R ∧ w'.ownsRow 0 e K R (n + m) (vals.take (i * K) ++ us ++ vals.drop (i * K)) ∧ GrewC w w' (fun b => own1 S b ≠ 0) ∧
      ∀ b, own1 R b ≠ 0 → (w.heap.size ≤ b ∨ own1 S b ≠ 0) ∧ b < w'.heap.size
/-- what a deletion makes of a row -/
def DelM (P : Program) (f : FuncId) (e : TypeId) (K : Nat) : Prop :=
  ∀ (w : World) (S : Value) (n : Nat) (vals : List Value) (i j : Nat), w.ownsRow 0 e K S n vals → i ≤ j → j ≤ n → (∀ v ∈ vals, v.oneCell' = true) →
    Calls P f (List.toArray [S, .int .i64 i, .int .i64 j]) w fun e' w' => ∃ R, e' = .returned R ∧ w'.ownsRow 0 e K R (n - (j - i)) (vals.take (i * K) ++ vals.drop (j * K)) ∧ GrewC w w' (fun b => own1 S b ≠ 0) ∧
      ∀ b, own1 R b ≠ 0 → (w.heap.size ≤ b ∨ own1 S b ≠ 0) ∧ b < w'.heap.size
def M.both : M → M → M
  | .d, .d => .d
  | _, _ => .s
variable [Coding]
open Coding
variable {E : Env} {w w' : World} {F F' : Nat → Prop}
theorem RL.own_inv {m t xs v l vs φ} (hm : m ≠ .v) (h : RL E w F (.sl m t xs :: l) (v :: vs) φ) : ∃ vals φ₁ φ₂, w.ownsRow 0 (E.eid t) t.width v xs.length vals ∧ RL E w F (encRows m.sub t xs) vals φ₁ ∧ (∀ b, own1 v b ≠ 0 → F b) ∧ RL E w F l vs φ₂ ∧ ∀ b, φ b = own1 v b + φ₁ b + φ₂ b := by
  cases h with
  | scal _ _ _ _ _ h => exact h.elim
  | view => exact absurd rfl hm
  | own m t xs v vals φ₁ l vs φ₂ φ h1 h2 h3 h4 h5 h6 => exact ⟨vals, φ₁, φ₂, h2, h3, h4, h5, h6⟩
theorem RL.len_inv {a l Vs φ} (h : RL E w F (a :: l) Vs φ) : ∃ v vs, Vs = v :: vs := by
  obtain ⟨v, vs, _, _, h, _⟩ := RL.uncons h
  exact ⟨v, vs, h⟩
/-- a row that came out of one that was handed over, and what lies in it -/
theorem row_back [CodingOk] {φ : Nat → Nat} (h1 : ∀ b, φ b ≤ 1) (low : ∀ b, φ b ≠ 0 → F b ∧ b < w.heap.size) {S : Value} (hSF : ∀ b, own1 S b ≠ 0 → F b) {t : TC} {zs : List (El t)} {vals : List Value} {ψ : Nat → Nat}
    (hz : RL E w F (encRows .d t zs) vals ψ) (eφ : ∀ b, own1 S b + ψ b ≤ φ b) {R : Value} (hR : w'.ownsRow 0 (E.eid t) t.width R zs.length vals) (hg : GrewC w w' (fun b => own1 S b ≠ 0))
    (hRb : ∀ b, own1 R b ≠ 0 → (w.heap.size ≤ b ∨ own1 S b ≠ 0) ∧ b < w'.heap.size) :
    ∃ φ', RL E w' (fun b => (F b ∧ φ b = 0) ∨ φ' b ≠ 0) [.sl .d t zs] [R] φ' ∧ (∀ b, φ' b ≤ 1) ∧ (∀ b, φ' b ≠ 0 → φ b ≠ 0 ∨ w.heap.size ≤ b) ∧
      w'.os = w.os ∧ w'.tape = w.tape ∧ w'.output = w.output ∧ w.heap.size ≤ w'.heap.size ∧ ∀ b, b < w.heap.size → φ b = 0 → w'.heap[b]? = w.heap[b]? := by
  have key : ∀ b, own1 R b ≠ 0 → own1 S b ≠ 0 ∨ w.heap.size ≤ b := fun b hb => (hRb b hb).1.symm
  have elt : ∀ b, ψ b ≠ 0 → own1 R b = 0 ∧ own1 S b = 0 := fun b hb => by
    have q1 := eφ b; have q2 := h1 b
    have s0 : own1 S b = 0 := by omega
    refine ⟨Classical.byContradiction fun hr => ?_, s0⟩
    rcases key b hr with hs | hs
    · exact hs s0
    · have := (low b (by omega)).2; omega
  refine ⟨fun b => own1 R b + ψ b, ?_, fun b => ?_, fun b hb => ?_, hg.os, hg.tape, hg.output, hg.size, fun b hb h0 => hg.heap b hb fun hc => hc (by have := eφ b; omega)⟩
  · refine .own .d t zs R vals ψ [] _ (fun _ => 0) _ (by decide) hR ?_ (fun b hb => .inr (by show own1 R b + _ ≠ 0; omega)) (.nil _ fun _ => rfl) (fun b => rfl)
    refine hz.frame hg.size (fun b hb => ⟨hg.heap b (hz.low b hb).2 fun hc => hc (elt b hb).2, .inr (by show own1 R b + ψ b ≠ 0; omega)⟩) fun b hb hn => ⟨hg.heap b hb fun hc => hn (hSF b hc), fun hc => ?_⟩
    rcases hc with ⟨hf, -⟩ | hc
    · exact hn hf
    · have hc : own1 R b + ψ b ≠ 0 := hc
      by_cases hr0 : own1 R b = 0
      · exact hn (hz.low b (by omega)).1
      · rcases key b hr0 with hs | hs
        · exact hn (hSF b hs)
        · omega
  · show own1 R b + ψ b ≤ 1
    have q1 := eφ b; have q2 := h1 b; have := own1_le R b
    by_cases h0 : ψ b = 0
    · omega
    · have := elt b h0; omega
  · have hb : own1 R b + ψ b ≠ 0 := hb
    by_cases h0 : ψ b = 0
    · rcases key b (by omega) with hs | hs
      · exact .inl (by have := eφ b; omega)
      · exact .inr hs
    · exact .inl (by have := eφ b; omega)
/-- the same of a row whose elements are seen from then on -/
theorem row_back_s [CodingOk] {φ : Nat → Nat} (h1 : ∀ b, φ b ≤ 1) (low : ∀ b, φ b ≠ 0 → F b ∧ b < w.heap.size) {S : Value} (hSF : ∀ b, own1 S b ≠ 0 → F b) {t : TC} {zs : List (El t)} {L : List AV} {vals : List Value} {ψ : Nat → Nat}
    (hz : RL E w F L vals ψ) (hL : L.map AV.asView = encRows .v t zs) (eφ : ∀ b, own1 S b + ψ b ≤ φ b) {R : Value} (hR : w'.ownsRow 0 (E.eid t) t.width R zs.length vals) (hg : GrewC w w' (fun b => own1 S b ≠ 0))
    (hRb : ∀ b, own1 R b ≠ 0 → (w.heap.size ≤ b ∨ own1 S b ≠ 0) ∧ b < w'.heap.size) :
    ∃ φ', RL E w' (fun b => (F b ∧ φ b = 0) ∨ φ' b ≠ 0) [.sl .s t zs] [R] φ' ∧ (∀ b, φ' b ≤ 1) ∧ (∀ b, φ' b ≠ 0 → φ b ≠ 0 ∨ w.heap.size ≤ b) ∧
      w'.os = w.os ∧ w'.tape = w.tape ∧ w'.output = w.output ∧ w.heap.size ≤ w'.heap.size ∧ ∀ b, b < w.heap.size → φ b = 0 → w'.heap[b]? = w.heap[b]? := by
  have key : ∀ b, own1 R b ≠ 0 → own1 S b ≠ 0 ∨ w.heap.size ≤ b := fun b hb => (hRb b hb).1.symm
  have hv := hz.seen (F' := fun b => F b ∧ ψ b = 0) (fun b hb hc => hb hc.2) (fun b _ hn hc => hn hc.1)
  rw [hL] at hv
  refine ⟨own1 R, ?_, own1_le R, fun b hb => ?_, hg.os, hg.tape, hg.output, hg.size, fun b hb h0 => hg.heap b hb fun hc => hc (by have := eφ b; omega)⟩
  · refine .own .s t zs R vals (fun _ => 0) [] _ (fun _ => 0) _ (by decide) hR ?_ (fun b hb => .inr hb) (.nil _ fun _ => rfl) (fun b => rfl)
    refine hv.frame hg.size (fun b hb => absurd rfl hb) fun b hb hn => ⟨hg.heap b hb fun hc => hn ⟨hSF b hc, by have := eφ b; have := h1 b; omega⟩, fun hc => ?_⟩
    rcases hc with ⟨hf, h0⟩ | hc
    · exact hn ⟨hf, by have := eφ b; omega⟩
    · rcases key b hc with hs | hs
      · exact hn ⟨hSF b hs, by have := eφ b; have := h1 b; omega⟩
      · omega
  · rcases key b hb with hs | hs
    · exact .inl (by have := eφ b; omega)
    · exact .inr hs
theorem RL.int_inv {k n l v vs φ} (h : RL E w F (.i k n :: l) (v :: vs) φ) : v = .int k n ∧ RL E w F l vs φ := by
  cases h with
  | scal _ _ _ _ _ h1 h2 => exact ⟨h1, h2⟩
theorem codedD [CodingOk] {m : M} {t : TC} (zs : List (El t)) : ∀ a ∈ encRows m t zs, ∃ m, a.coded m := fun a ha => ⟨m, rows_coded a ha⟩
theorem ins_callOk [CodingOk] {f : FuncId} {t : TC} {m1 m2 : M} (hm1 : m1 ≠ .v) (hm2 : m2 ≠ .v) (h : InsM E.P f (E.eid t) t.width t.bytes) {xs ys : List (El t)} {i : Nat} (hi : i ≤ xs.length) (hb : (xs.length + ys.length) * t.bytes ≤ 140737488355328) :
    CallOk E f [.sl m1 t xs, .i .i64 i, .sl m2 t ys] (.sl (M.both m1 m2) t (xs.take i ++ ys ++ xs.drop i)) [] [.o, .v, .o] := by
  intro w F Vs φ hrl h1 hlow _
  have low : ∀ b, φ b ≠ 0 → F b ∧ b < w.heap.size := hrl.low
  obtain ⟨S, _, rfl⟩ := hrl.len_inv
  replace hrl := hrl.own_inv hm1
  obtain ⟨vals, φx, φ2, hS, hx, hSF, hrl, e1⟩ := hrl
  obtain ⟨I, _, rfl⟩ := hrl.len_inv
  replace hrl := hrl.int_inv
  obtain ⟨rfl, hrl⟩ := hrl
  obtain ⟨U, _, rfl⟩ := hrl.len_inv
  replace hrl := hrl.own_inv hm2
  obtain ⟨us, φy, φ4, hU, hy, hUF, hrl, e3⟩ := hrl
  obtain ⟨rfl, e4⟩ := RL.nil_inv hrl
  have eφ : ∀ b, φ b = own1 S b + φx b + (own1 U b + φy b) := fun b => by rw [e1, e3, e4]; omega
  refine (h w S xs.length vals U ys.length us i hS hU (fun b hb => by have := h1 b; have := eφ b; omega) hi (hx.one (codedD _)) (hy.one (codedD _)) hb).mono ?_
  rintro e' w' ⟨R, rfl, hR, hg, hRb⟩
  have hx' : RL E w F (encRows m1.sub t (xs.take i) ++ encRows m1.sub t (xs.drop i)) vals φx := by rw [← encRows_append, List.take_append_drop]; exact hx
  obtain ⟨va, vb, φa, φb, rfl, ha, hb', e6⟩ := hx'.split
  have hla : va.length = i * t.width := by rw [← ha.length, encRows_length, List.length_take, Nat.min_eq_left hi]
  rw [← hla, List.take_left, List.drop_left] at hR
  have hz : RL E w F (encRows m1.sub t (xs.take i) ++ encRows m2.sub t ys ++ encRows m1.sub t (xs.drop i)) (va ++ us ++ vb) (fun b => φa b + φy b + φb b) :=
    (ha.append hy (ψ := fun b => φa b + φy b) (fun b => rfl)).append hb' (fun b => rfl)
  have hl : (xs.take i ++ ys ++ xs.drop i).length = xs.length + ys.length := by simp; omega
  have he : ∀ b, own1 S b + (φa b + φy b + φb b) ≤ φ b := fun b => by have := eφ b; have := e6 b; omega
  by_cases hd : m1 = .d ∧ m2 = .d
  · obtain ⟨rfl, rfl⟩ := hd
    have hz' : RL E w F (encRows .d t (xs.take i ++ ys ++ xs.drop i)) (va ++ us ++ vb) (fun b => φa b + φy b + φb b) := by
      rw [encRows_append, encRows_append]; exact hz
    obtain ⟨φ', k1, k2⟩ := row_back (S := S) (R := R) h1 low hSF hz' he (by rw [hl]; exact hR) hg hRb
    exact ⟨R, φ', rfl, k1, k2⟩
  · have hb2 : M.both m1 m2 = .s := by cases m1 <;> cases m2 <;> first | rfl | exact absurd rfl hm1 | exact absurd rfl hm2 | exact absurd ⟨rfl, rfl⟩ hd
    rw [hb2]
    obtain ⟨φ', k1, k2⟩ := row_back_s (S := S) (R := R) (t := t) (zs := xs.take i ++ ys ++ xs.drop i) h1 low hSF hz (by rw [List.map_append, List.map_append, asView_rows, asView_rows, asView_rows, encRows_append, encRows_append]) he (by rw [hl]; exact hR) hg hRb
    exact ⟨R, φ', rfl, k1, k2⟩
theorem del_callOk [CodingOk] {f : FuncId} {t : TC} {m : M} (hm0 : m ≠ .v) (h : DelM E.P f (E.eid t) t.width) {xs : List (El t)} {i j : Nat} (hij : i ≤ j) (hj : j ≤ xs.length) :
    CallOk E f [.sl m t xs, .i .i64 i, .i .i64 j] (.sl (M.both m m) t (xs.take i ++ xs.drop j)) [] [.o, .v, .v] := by
  intro w F Vs φ hrl h1 hlow _
  have low : ∀ b, φ b ≠ 0 → F b ∧ b < w.heap.size := hrl.low
  obtain ⟨S, _, rfl⟩ := hrl.len_inv
  replace hrl := hrl.own_inv hm0
  obtain ⟨vals, φx, φ2, hS, hx, hSF, hrl, e1⟩ := hrl
  obtain ⟨I, _, rfl⟩ := hrl.len_inv
  replace hrl := hrl.int_inv
  obtain ⟨rfl, hrl⟩ := hrl
  obtain ⟨J, _, rfl⟩ := hrl.len_inv
  replace hrl := hrl.int_inv
  obtain ⟨rfl, hrl⟩ := hrl
  obtain ⟨rfl, e4⟩ := RL.nil_inv hrl
  have eφ : ∀ b, φ b = own1 S b + φx b := fun b => by rw [e1, e4]; omega
  refine (h w S xs.length vals i j hS hij hj (hx.one (codedD _))).mono ?_
  rintro e' w' ⟨R, rfl, hR, hg, hRb⟩
  have hx' : RL E w F (encRows m.sub t (xs.take i) ++ (encRows m.sub t ((xs.drop i).take (j - i)) ++ encRows m.sub t (xs.drop j))) vals φx := by
    rw [← encRows_append, ← encRows_append]
    have : xs.drop j = (xs.drop i).drop (j - i) := by rw [List.drop_drop]; congr 1; omega
    rw [this, List.take_append_drop, List.take_append_drop]; exact hx
  obtain ⟨va, vc, φa, φc, rfl, ha, hc, e6⟩ := hx'.split
  obtain ⟨vm, vb, φm, φb, rfl, hm, hb', e7⟩ := hc.split
  have hla : va.length = i * t.width := by rw [← ha.length, encRows_length, List.length_take, Nat.min_eq_left (by omega)]
  have hlm : vm.length = (j - i) * t.width := by rw [← hm.length, encRows_length, List.length_take, List.length_drop, Nat.min_eq_left (by omega)]
  have hlj : (va ++ vm).length = j * t.width := by rw [List.length_append, hla, hlm, ← Nat.add_mul]; congr 1; omega
  rw [← hla, List.take_left, ← hlj, ← List.append_assoc, List.drop_left] at hR
  have hz : RL E w F (encRows m.sub t (xs.take i) ++ encRows m.sub t (xs.drop j)) (va ++ vb) (fun b => φa b + φb b) := ha.append hb' (fun b => rfl)
  have hl : (xs.take i ++ xs.drop j).length = xs.length - (j - i) := by simp; omega
  have he : ∀ b, own1 S b + (φa b + φb b) ≤ φ b := fun b => by have := eφ b; have := e6 b; have := e7 b; omega
  cases m with
  | v => exact absurd rfl hm0
  | d =>
    have hz' : RL E w F (encRows .d t (xs.take i ++ xs.drop j)) (va ++ vb) (fun b => φa b + φb b) := by
      rw [encRows_append]; exact hz
    obtain ⟨φ', k1, k2⟩ := row_back (S := S) (R := R) h1 low hSF hz' he (by rw [hl]; exact hR) hg hRb
    exact ⟨R, φ', rfl, k1, k2⟩
  | s =>
    obtain ⟨φ', k1, k2⟩ := row_back_s (S := S) (R := R) (t := t) (zs := xs.take i ++ xs.drop j) h1 low hSF hz (by rw [List.map_append, asView_rows, asView_rows, encRows_append]) he (by rw [hl]; exact hR) hg hRb
    exact ⟨R, φ', rfl, k1, k2⟩
theorem nDel_ok [CodingOk] {f : FuncId} {t : TC} {m : M} (hm0 : m ≠ .v) (h : DelM E.P f (E.eid t) t.width) {xs r : List (El t)} {i j : Int} (hr : nDelete xs i j = some r) :
    CallOk E f [.sl m t xs, .i .i64 i, .i .i64 j] (.sl (M.both m m) t r) [] [.o, .v, .v] := by
  unfold nDelete at hr
  by_cases hc : 0 ≤ i ∧ i ≤ j ∧ j ≤ (xs.length : Int)
  · obtain ⟨h1, h2, h3⟩ := hc
    obtain ⟨i, rfl⟩ := Int.eq_ofNat_of_zero_le h1
    obtain ⟨j, rfl⟩ := Int.eq_ofNat_of_zero_le (Int.le_trans h1 h2)
    simp only [h1, h2, h3, decide_true, Bool.and_true, cond_true, Option.some.injEq] at hr
    subst hr
    exact del_callOk hm0 h (by omega) (by omega)
  · have : (decide (0 ≤ i) && (decide (i ≤ j) && decide (j ≤ (xs.length : Int)))) = false := by
      rw [Bool.eq_false_iff]; intro h; simp only [Bool.and_eq_true, decide_eq_true_eq] at h; exact hc h
    rw [this] at hr; cases hr
theorem nIns_ok [CodingOk] {f : FuncId} {t : TC} {m1 m2 : M} (hm1 : m1 ≠ .v) (hm2 : m2 ≠ .v) (h : InsM E.P f (E.eid t) t.width t.bytes) {xs ys r : List (El t)} {i : Int} (hr : nInsert t.bytes xs i ys = some r) :
    CallOk E f [.sl m1 t xs, .i .i64 i, .sl m2 t ys] (.sl (M.both m1 m2) t r) [] [.o, .v, .o] := by
  unfold nInsert at hr
  by_cases hc : 0 ≤ i ∧ i ≤ (xs.length : Int)
  · obtain ⟨h1, h2⟩ := hc
    obtain ⟨i, rfl⟩ := Int.eq_ofNat_of_zero_le h1
    by_cases hb : (xs.length + ys.length) * t.bytes ≤ 140737488355328
    · simp only [h1, h2, hb, decide_true, Bool.and_true, cond_true, Option.some.injEq] at hr
      subst hr
      exact ins_callOk hm1 hm2 h (by omega) hb
    · simp [h1, h2, hb] at hr
  · have : (decide (0 ≤ i) && decide (i ≤ (xs.length : Int))) = false := by
      rw [Bool.eq_false_iff]; intro h; simp only [Bool.and_eq_true, decide_eq_true_eq] at h; exact hc h
    rw [this] at hr; cases hr
end Go.Pi
end
section
set_option linter.unusedVariables false
set_option linter.unusedSimpArgs false
namespace Go.Proofs
open Go.Shelf Go.RowKit Go.Lib Go.Pi
section
variable {P : Program}
theorem step_append_runI {ops : Array Oper} {o : Oper} {a : Act} {w : World} {K : Act → World → Prop} {Q : Exit → Act → World → Prop} {E : Prop}
    (hg : o.guard = none) (d x : Operand) (dT sT : TypeId) (hop : o.op = Op.call { callee := Callee.builtin Builtin.append, args := #[d, x], argTypes := #[dT, sT] })
    (v u : Value) (hd : a.eval d = v) (hx : a.eval x = u) {v' : Value} {w' : World} (hr : (Builtin.append_ #[dT, sT] o.type #[v, u]).run P w = .ok v' w') (hK : K (a.put o.dst v') w') :
    if Region.wanted o (yielded ops a.tmps) = true then Oper.wp P o a w K Q else E := by
  have hw : Region.wanted o (yielded ops a.tmps) = true := by simp [Region.wanted, hg]
  rw [if_pos hw]
  unfold Oper.wp
  simp [execOp, hop, resolve, invoke, builtin, hd, hx, hr, Result.andThen]
  exact hK
theorem wpList_clear_runI (w : World) {ops : Array Oper} {rest : List Oper} {o : Oper} {a : Act} {Q : Exit → Act → World → Prop} (hgd : o.guard = none) (d : Operand) (t : TypeId)
    (ho : o.op = .call { callee := .builtin .clear, args := #[d], argTypes := #[t] }) (v : Value) (hd : a.eval d = v) {v' : Value} {w' : World}
    (hr : (Builtin.clear_ #[t] o.type #[v]).run P w = .ok v' w') (h : wpList P ops Q rest (a.put o.dst v') w') : wpList P ops Q (o :: rest) a w :=
  wpList_plain hgd fun _ hK => by
    unfold Oper.wp execOp
    simp only [ho, resolve, invoke, builtin, Sem.run_bind, Sem.run_pure, Result.andThen_ok, List.map_toArray, List.map_cons, List.map_nil, hd, hr]
    exact hK _ _ h
theorem run_clear_k (w : World) (t e ty : TypeId) (z : Value) (ht : P.underlying t = some (.slice e)) (hv : ∀ w, (zeroValue e).run P w = .ok z w) (g o n c : Nat) (hn : 0 < n) (cur : Array Value) (T : TypeId) (hg : w.heap[g]? = some (.cells cur T (0, 0)))
    (hfit : o + (Builtin.zeroCells z.cells n).toList.length ≤ cur.size) (h1 : ∀ v ∈ (Builtin.zeroCells z.cells n).toList, v.oneCell' = true) :
    (Builtin.clear_ #[t] ty #[.slice (some ⟨g, o, none⟩) n c]).run P w = .ok (.tuple #[]) (w.setRow g (cur.toList.take o ++ (Builtin.zeroCells z.cells n).toList ++ cur.toList.drop (o + (Builtin.zeroCells z.cells n).toList.length)).toArray) := by
  have hst := run_storeCells_at P g o T (Builtin.zeroCells z.cells n).toList 0 cur w hg (by simpa using hfit) h1
  obtain ⟨m, rfl⟩ : ∃ m, n = m + 1 := ⟨n - 1, by omega⟩
  simp only [Builtin.clear_, run_underlying ht, Sem.run_bind, Result.andThen_ok, hv]
  simp only [List.getElem?_toArray, List.getElem?_cons_zero, Sem.run_bind, run_underlying ht, Result.andThen_ok, hv, hst, Nat.add_zero, Sem.run_pure]
end
theorem wpList_copy_runI (w : World) {P : Program} {ops : Array Oper} {rest : List Oper} {o : Oper} {a : Act} {Q : Exit → Act → World → Prop} (hgd : o.guard = none) (d s : Operand) (t t' : TypeId)
    (ho : o.op = .call { callee := .builtin .copy, args := #[d, s], argTypes := #[t, t'] }) (v u : Value) (hd : a.eval d = v) (hs : a.eval s = u) {v' : Value} {w' : World}
    (hr : (Builtin.copy_ #[t, t'] o.type #[v, u]).run P w = .ok v' w') (h : wpList P ops Q rest (a.put o.dst v') w') : wpList P ops Q (o :: rest) a w :=
  wpList_plain hgd fun _ hK => by
    unfold Oper.wp execOp
    simp only [ho, resolve, invoke, builtin, Sem.run_bind, Sem.run_pure, Result.andThen_ok, List.map_toArray, List.map_cons, List.map_nil, hd, hs, hr]
    exact hK _ _ h
theorem step_copy_runI {P : Program} {ops : Array Oper} {o : Oper} {a : Act} {w : World} {K : Act → World → Prop} {Q : Exit → Act → World → Prop} {E : Prop}
    (hg : o.guard = none) (d x : Operand) (dT sT : TypeId) (hop : o.op = Op.call { callee := Callee.builtin Builtin.copy, args := #[d, x], argTypes := #[dT, sT] })
    (v u : Value) (hd : a.eval d = v) (hx : a.eval x = u) {v' : Value} {w' : World} (hr : (Builtin.copy_ #[dT, sT] o.type #[v, u]).run P w = .ok v' w') (hK : K (a.put o.dst v') w') :
    if Region.wanted o (yielded ops a.tmps) = true then Oper.wp P o a w K Q else E := by
  have hw : Region.wanted o (yielded ops a.tmps) = true := by simp [Region.wanted, hg]
  rw [if_pos hw]
  unfold Oper.wp
  simp [execOp, hop, resolve, invoke, builtin, hd, hx, hr, Result.andThen]
  exact hK
theorem run_copy_rowK {P : Program} (w : World) (dT sT ty elem : TypeId) (k : Nat) (g o dLen dCap : Nat) (a : Addr) (sLen sCap : Nat) (cur : Array Value) (t : TypeId) (cs : List Value)
    (hu : P.underlying dT = some (.slice elem)) (hs : (P.info? elem).map (·.size) = some k)
    (hg : w.heap[g]? = some (.cells cur t (0, 0))) (hn : cs.length = Nat.min sLen dLen * k)
    (hsrc : ∀ j v, cs[j]? = some v → w.cell? (a.add j) = some v) (hfit : o + cs.length ≤ cur.size) (h1 : ∀ v ∈ cs, v.oneCell' = true) :
    (Builtin.copy_ #[dT, sT] ty #[.slice (some ⟨g, o, none⟩) dLen dCap, .slice (some a) sLen sCap]).run P w =
      .ok (goInt (Nat.min sLen dLen)) (w.setRow g (cur.toList.take o ++ cs ++ cur.toList.drop (o + cs.length)).toArray) := by
  have hl := run_loadCells_list (P := P) w a cs hsrc
  have hst := run_storeCells_at P g o t cs 0 cur w hg (by simpa using hfit) h1
  cases hq : P.info? elem with
  | none => simp [hq] at hs
  | some i =>
    have hi : i.size = k := by simpa [hq] using hs
    simp [Builtin.copy_, run_underlying hu, Builtin.lenOf, Builtin.firstCells, sizeOf, typeInfo, hq, hi, ← hn, hl, hst]
theorem zc_one (cs : Array Value) (h : cs.toList.all Value.oneCell' = true) (n : Nat) : ∀ v ∈ (Builtin.zeroCells cs n).toList, v.oneCell' = true := by
  intro v hv
  simp only [Builtin.zeroCells, Array.toList_map, List.mem_map, Array.toList_range, List.mem_range] at hv
  obtain ⟨x, hx, rfl⟩ := hv
  have h0 : 0 < cs.size := Nat.pos_of_mul_pos_left (by omega : 0 < n * cs.size)
  have : x % cs.size < cs.size := Nat.mod_lt _ h0
  rw [getElem!_pos cs _ this]
  exact List.all_eq_true.1 h _ (by simp)
theorem own_low {w : World} {e : TypeId} {K : Nat} {S : Value} {n : Nat} {vals : List Value} (h : w.ownsRow 0 e K S n vals) : ∀ b, own1 S b ≠ 0 → b < w.heap.size := by
  intro b hb
  rcases h.2 with ⟨rfl, _⟩ | ⟨g, cap, cur, rfl, _, hg, _⟩
  · simp [own1] at hb
  · have : g = b := by simp only [own1] at hb; exact Classical.byContradiction fun h => hb (if_neg h)
    subst this
    exact (Array.getElem?_eq_some_iff.1 hg).1
theorem drow_size (w : World) (g : Nat) (A : Array Value) : w.heap.size ≤ (w.drew.setRow g A).heap.size := by
  have : (w.drew.setRow g A).heap.size = w.drew.heap.size := by simp [World.setRow]
  rw [this]; exact Nat.le_refl _
theorem owns1_iff {w : World} {e : TypeId} {v : Value} {n : Nat} {xs : List Value} : w.ownsRow 0 e 1 v n xs ↔
    (xs.length = n ∧ (v = .slice none 0 0 ∧ n = 0 ∨ ∃ g cap cur, v = .slice (some ⟨g, 0, none⟩) n cap ∧ 0 ≤ g ∧ w.heap[g]? = some (.cells cur e (0, 0)) ∧ n ≤ cap ∧ cap ≤ maxLen ∧ cur.size = cap ∧ cur.toList.take n = xs)) := by
  unfold World.ownsRow
  simp only [Nat.mul_one]
end Go.Proofs
end
section
set_option linter.unusedVariables false
set_option linter.unusedSimpArgs false
namespace Go.Proofs
open Go.Shelf
def Tryz.laysM171_ren : Go.Shelf.Ren := ⟨fun | 171 => 81 | 243 => 85 | 246 => 92 | 283 => 96 | 284 => 97 | 285 => 98 | 286 => 99 | 129 => 103 | 317 => 102 | 318 => 104 | 319 => 105 | 320 => 106 | 337 => 107 | 338 => 108 | n => n, fun | 3 => 3 | 9 => 9 | 2 => 2 | 4 => 4 | 171 => 121 | 0 => 0 | 53 => 122 | 37 => 106 | 5 => 5 | 173 => 125 | 212 => 131 | 51 => 132 | 20 => 20 | 213 => 133 | 46 => 115 | 232 => 136 | 233 => 137 | n => n, fun | 17 => 0 | 18 => 1 | 19 => 2 | n => n⟩
theorem Tryz.laysM171 : Go.Proofs.LaysM.n171 Tryz.prog Tryz.laysM171_ren := {
  mixed := by kernel_rfl
  f129 := Tryz.func103.trans (congrArg some (by kernel_rfl))
  f171 := Tryz.func81.trans (congrArg some (by kernel_rfl))
  f243 := Tryz.func85.trans (congrArg some (by kernel_rfl))
  f246 := Tryz.func92.trans (congrArg some (by kernel_rfl))
  f283 := Tryz.func96.trans (congrArg some (by kernel_rfl))
  f284 := Tryz.func97.trans (congrArg some (by kernel_rfl))
  f285 := Tryz.func98.trans (congrArg some (by kernel_rfl))
  f286 := Tryz.func99.trans (congrArg some (by kernel_rfl))
  f317 := Tryz.func102.trans (congrArg some (by kernel_rfl))
  f318 := Tryz.func104.trans (congrArg some (by kernel_rfl))
  f319 := Tryz.func105.trans (congrArg some (by kernel_rfl))
  f320 := Tryz.func106.trans (congrArg some (by kernel_rfl))
  f337 := Tryz.func107.trans (congrArg some (by kernel_rfl))
  f338 := Tryz.func108.trans (congrArg some (by kernel_rfl))
  t0 := Tryz.underlying0
  a0 := Tryz.isAgg0
  z0 := Tryz.sizeOf0
  v0 := Tryz.zeroValue0
  t2 := Tryz.underlying2
  a2 := Tryz.isAgg2
  z2 := Tryz.sizeOf2
  v2 := Tryz.zeroValue2
  t3 := Tryz.underlying3
  a3 := Tryz.isAgg3
  z3 := Tryz.sizeOf3
  v3 := Tryz.zeroValue3
  t4 := Tryz.underlying4
  a4 := Tryz.isAgg4
  z4 := Tryz.sizeOf4
  v4 := Tryz.zeroValue4
  t5 := Tryz.underlying5
  a5 := Tryz.isAgg5
  z5 := Tryz.sizeOf5
  v5 := Tryz.zeroValue5
  t9 := Tryz.underlying9
  a9 := Tryz.isAgg9
  z9 := Tryz.sizeOf9
  v9 := Tryz.zeroValue9
  t20 := Tryz.underlying20
  a20 := Tryz.isAgg20
  z20 := Tryz.sizeOf20
  v20 := Tryz.zeroValue20
  t37 := Tryz.underlying106
  a37 := Tryz.isAgg106
  z37 := Tryz.sizeOf106
  v37 := Tryz.zeroValue106
  t46 := Tryz.underlying115
  a46 := Tryz.isAgg115
  z46 := Tryz.sizeOf115
  v46 := Tryz.zeroValue115
  t51 := Tryz.underlying132
  a51 := Tryz.isAgg132
  z51 := Tryz.sizeOf132
  v51 := Tryz.zeroValue132
  t53 := Tryz.underlying122
  a53 := Tryz.isAgg122
  z53 := Tryz.sizeOf122
  v53 := Tryz.zeroValue122
  t171 := Tryz.underlying121
  a171 := Tryz.isAgg121
  z171 := Tryz.sizeOf121
  v171 := Tryz.zeroValue121
  t173 := Tryz.underlying125
  a173 := Tryz.isAgg125
  z173 := Tryz.sizeOf125
  v173 := Tryz.zeroValue125
  t212 := Tryz.underlying131
  a212 := Tryz.isAgg131
  z212 := Tryz.sizeOf131
  v212 := Tryz.zeroValue131
  t213 := Tryz.underlying133
  a213 := Tryz.isAgg133
  z213 := Tryz.sizeOf133
  t232 := Tryz.underlying136
  a232 := Tryz.isAgg136
  z232 := Tryz.sizeOf136
  v232 := Tryz.zeroValue136
  t233 := Tryz.underlying137
  a233 := Tryz.isAgg137
  z233 := Tryz.sizeOf137
  v233 := Tryz.zeroValue137
  g17 := by kernel_rfl
  g18 := by kernel_rfl
  g19 := by kernel_rfl
  i0 := by kernel_rfl
  i2 := by kernel_rfl
  i3 := by kernel_rfl
  i4 := by kernel_rfl
  i5 := by kernel_rfl
  i9 := by kernel_rfl
  i20 := by kernel_rfl
  i37 := by kernel_rfl
  i46 := by kernel_rfl
  i51 := by kernel_rfl
  i53 := by kernel_rfl
  i171 := by kernel_rfl
  i173 := by kernel_rfl
  i212 := by kernel_rfl
  i232 := by kernel_rfl
  i233 := by kernel_rfl
  m17 := by kernel_rfl
  m18 := by kernel_rfl
  m19 := by kernel_rfl }
open Go.RowKit Go.Sort Go.Lib in
theorem Tryz.strconv_Itoa (n : Int) (h0 : -9223372036854775808 ≤ n) (h1 : n ≤ 9223372036854775807) (w : World) (htab : Lib.TabIs Tryz.prog w "internal/strconv.uint64pow10" .u64 Lib.pow10Tab) :
    Calls Tryz.prog 81 #[.int .i64 n] w fun e w' => e = .returned (.string ⟨(Lib.itoa n).toArray⟩) ∧ ∃ k os, w' = grow (w.drewN k) os := Any.strconv_Itoa Tryz.laysM171 n h0 h1 w htab
end Go.Proofs
namespace Go.Pi
open Go.Proofs
theorem globNamed : E.P.globalNamed "internal/strconv.uint64pow10" = some 0 := by kernel_rfl
theorem strconv_Itoa.ok (n : Nat) (_ : CxOk E (cx n strconv_Itoa.d.nt)) (_ : KPar (cx n strconv_Itoa.d.nt)) : strconv_Itoa.d.Ok E (strconv_Itoa.F (n + 1)) := fun _ _ h => nItoa_ok (fun n h0 h1 w ht => Tryz.strconv_Itoa n h0 h1 w ht) (.head _) globNamed h
end Go.Pi
end
section
set_option linter.unusedVariables false
set_option linter.unusedSimpArgs false
namespace Go.Proofs
open Go.Shelf Go.RowKit Go.Lib Go.Pi
section
variable {P : Program}
/-- the larger row of an insertion, and what comes into it -/
theorem insGrow83 (TS TE : TypeId) (TI : TypeId) (Z : Value) (i0 : TypeInfo) (uS : P.underlying TS = some (.slice TE)) (uI : P.underlying TI = some (.int .i64)) (hi0 : P.info? TE = some i0) (hz2 : i0.zero = some Z) (hz0 : i0.size = 1) (hz1 : i0.bytes = 16) (hZK : Z.cells.size = 1)
    (w : World) (g n c i : Nat) (cur : Array Value) (hg : w.heap[g]? = some (.cells cur TE (0, 0))) (hs : cur.size = c) (hnc : n ≤ c) (hi : i < n)
    (gv m vc : Nat) (curv : Array Value) (Tv : TypeId) (hgv : w.heap[gv]? = some (.cells curv Tv (0, 0))) (hmv : m ≤ curv.size) (us : List Value) (hul : us = curv.toList.take (m)) (h1u : ∀ v ∈ us, v.oneCell' = true) (hm : 0 < m) (hroom : c < n + m)
    (hbig : (n + m) * 16 ≤ 140737488355328) (h1 : ∀ v ∈ cur.toList.take (n), v.oneCell' = true) :
    ∃ G N W1 R1 W2 A, Hid (N = w.heap.size) ∧ n + m ≤ G ∧ G ≤ maxLen ∧
      (∀ ty, (Builtin.append_ #[TS, TI] ty #[.slice (some ⟨g, 0, none⟩) i c, .int .i64 ((n : Int) + (m : Int) - (i : Int))]).run P w = .ok (.slice (some ⟨N, 0, none⟩) (n + m) G) W1) ∧
      (∀ ty dc, (Builtin.copy_ #[TS, TS] ty #[.slice (some ⟨N, i, none⟩) (n + m - i) dc, .slice (some ⟨gv, 0, none⟩) m vc]).run P W1 = .ok (goInt m) (W1.setRow N R1)) ∧
      (W1.setRow N R1).drew = W2 ∧
      (∀ ty dc sc, (Builtin.copy_ #[TS, TS] ty #[.slice (some ⟨N, (i + m), none⟩) (n + m - (i + m)) dc, .slice (some ⟨g, i, none⟩) (n - i) sc]).run P W2 = .ok (goInt (n - i)) (W2.setRow N A)) ∧
      Hid (n + m ≤ G ∧ G ≤ maxLen ∧ (W2.setRow N A).heap[w.heap.size]? = some (.cells A TE (0, 0)) ∧ A.size = G ∧ A.toList.take ((n + m)) = (cur.toList.take (n)).take (i) ++ us ++ (cur.toList.take (n)).drop (i) ∧ w.grownBy (W2.setRow N A) none) := by
  have hul2 : us.length = m := by rw [hul, List.length_take, Array.length_toList]; omega
  have hsz : (P.info? TE).map (·.size) = some 1 := by rw [hi0]; simp [hz0]
  have hgd : w.drew.heap[g]? = some (.cells cur TE (0, 0)) := hg
  have hgl : g < w.heap.size := (Array.getElem?_eq_some_iff.1 hg).1
  have hgvl : gv < w.heap.size := (Array.getElem?_eq_some_iff.1 hgv).1
  obtain ⟨olds, holds⟩ : ∃ olds, olds = (cur.toList.take (n)).take (i) := ⟨_, rfl⟩
  have hol : olds.length = i := by rw [holds]; simp [hs]; omega
  obtain ⟨G, hG⟩ : ∃ G, G = grownCap w (n + m) c TE := ⟨_, rfl⟩
  have hGn : n + m ≤ G := by rw [hG]; exact grownCap_ge w _ _ _
  have hGm : G ≤ maxLen := by rw [hG]; exact grownCap_le_maxLen w (n + m) c TE (by unfold maxLen; omega)
  obtain ⟨ROW, hROW⟩ : ∃ ROW : Array Value, ROW = olds.toArray ++ Builtin.zeroCells Z.cells (n + m - i) ++ Builtin.zeroCells Z.cells (G - (n + m)) := ⟨_, rfl⟩
  have hRl : ROW.size = G := by rw [hROW]; simp [Builtin.zeroCells, hol, hZK]; omega
  have hRt : ROW.toList.take (i) = olds := by
    rw [hROW]; simp only [Array.toList_append, List.append_assoc]
    rw [List.take_append_of_le_length (by simp [hol]), List.take_of_length_le (by simp [hol])]
  have hkk : (n : Int) + (m : Int) - (i : Int) = ((n + m - i : Nat) : Int) := by omega
  have hrz : ∀ ty, (Builtin.append_ #[TS, TI] ty #[.slice (some ⟨g, 0, none⟩) i c, .int .i64 ((n : Int) + (m : Int) - (i : Int))]).run P w =
      .ok (.slice (some ⟨w.heap.size, 0, none⟩) (n + m) G) (w.drew.alloc (.cells ROW TE)) := fun ty => by
    have h := Lib.run_append_grow_zeros (P := P) w TS TI ty TE i0 _ .i64 .i64 uS uI hi0 hz2 (some ⟨g, 0, none⟩) i c olds (by
      rw [hz0]
      exact run_firstCells_some w.drew 1 i ⟨g, 0, none⟩ i c olds (by rw [Nat.mul_one]; exact hol) (fun j v hj => by
        have hj2 := (List.getElem?_eq_some_iff.1 hj).1
        rw [holds, List.getElem?_take_of_lt (by omega), List.getElem?_take_of_lt (by omega), Array.getElem?_toList] at hj
        rw [Addr.add_lit, Nat.zero_add]
        simp only [World.cell?, hgd]
        exact hj)) (n + m - i) (by omega) (by omega) (by omega) (by omega) (by rw [hz1]; omega) (by rw [hz1, show i + (n + m - i) = n + m by omega]; exact growslice_fits hroom hbig)
    rw [show i + (n + m - i) = n + m by omega, ← hG, ← hROW] at h
    rw [hkk]
    exact h
  obtain ⟨N, hN⟩ : ∃ N, N = w.heap.size := ⟨_, rfl⟩
  rw [← hN] at hrz
  obtain ⟨W1, hW1⟩ : ∃ W1, W1 = w.drew.alloc (.cells ROW TE) := ⟨_, rfl⟩
  rw [← hW1] at hrz
  have hN1 : W1.heap[N]? = some (.cells ROW TE (0, 0)) := by rw [hW1, hN]; exact heap_alloc_new w.drew _
  have hold : ∀ b, b < w.heap.size → W1.heap[b]? = w.heap[b]? := fun b hb => by rw [hW1]; exact heap_alloc_old w.drew _ hb
  have hgr1 : w.grownBy W1 none := by rw [hW1]; exact ⟨rfl, rfl, rfl, by simp, fun k hk _ => heap_alloc_old w.drew _ hk⟩
  obtain ⟨R1, hR1⟩ : ∃ R1, R1 = (ROW.toList.take (i) ++ us ++ ROW.toList.drop (i + us.length)).toArray := ⟨_, rfl⟩
  have hR1s : R1.size = G := by rw [hR1]; simp [hul2, hRl]; omega
  have hcp1 : ∀ ty dc, (Builtin.copy_ #[TS, TS] ty #[.slice (some ⟨N, i, none⟩) (n + m - i) dc, .slice (some ⟨gv, 0, none⟩) m vc]).run P W1 = .ok (goInt m) (W1.setRow N R1) := fun ty dc => by
    have := run_copy_rowK (P := P) W1 TS TS ty TE 1 N (i) (n + m - i) dc ⟨gv, 0, none⟩ m vc ROW TE us uS hsz hN1 (by rw [hul2]; simp only [Nat.min_def]; split <;> omega)
      (fun j v hj => by
        have hj2 := (List.getElem?_eq_some_iff.1 hj).1
        rw [hul, List.getElem?_take_of_lt (by omega), Array.getElem?_toList] at hj
        rw [Addr.add_lit, Nat.zero_add]
        simp only [World.cell?, hold gv hgvl, hgv]
        exact hj) (by rw [hul2, hRl]; omega) h1u
    rw [this, hR1]
    congr 2
    simp only [Nat.min_def]; split <;> omega
  obtain ⟨W2, hW2⟩ : ∃ W2, W2 = (W1.setRow N R1).drew := ⟨_, rfl⟩
  have hN2 : W2.heap[N]? = some (.cells R1 TE (0, 0)) := by rw [hW2]; exact setRow_heap _ _ _ _ _ _ hN1
  have hg2 : W2.heap[g]? = some (.cells cur TE (0, 0)) := by
    rw [hW2]; show (W1.setRow N R1).heap[g]? = _
    rw [setRow_other _ _ _ _ (by omega), hold g hgl]; exact hg
  obtain ⟨mv, hmv2⟩ : ∃ mv, mv = (cur.toList.take (n)).drop (i) := ⟨_, rfl⟩
  have hml : mv.length = (n - i) := by rw [hmv2]; simp [hs]; omega
  obtain ⟨A, hA⟩ : ∃ A, A = (R1.toList.take ((i + m)) ++ mv ++ R1.toList.drop ((i + m) + mv.length)).toArray := ⟨_, rfl⟩
  have hcp2 : ∀ ty dc sc, (Builtin.copy_ #[TS, TS] ty #[.slice (some ⟨N, (i + m), none⟩) (n + m - (i + m)) dc, .slice (some ⟨g, i, none⟩) (n - i) sc]).run P W2 = .ok (goInt (n - i)) (W2.setRow N A) := fun ty dc sc => by
    have := run_copy_rowK (P := P) W2 TS TS ty TE 1 N ((i + m)) (n + m - (i + m)) dc ⟨g, i, none⟩ (n - i) sc R1 TE mv uS hsz hN2 (by rw [hml]; simp only [Nat.min_def]; split <;> omega)
      (fun j v hj => by
        have hj2 := (List.getElem?_eq_some_iff.1 hj).1
        rw [hmv2, List.getElem?_drop, List.getElem?_take_of_lt (by omega), Array.getElem?_toList] at hj
        rw [Addr.add_lit]
        simp only [World.cell?, hg2]
        exact hj) (by rw [hml, hR1s]; omega) (fun v hv => h1 v (by rw [hmv2] at hv; exact List.mem_of_mem_drop hv))
    rw [this, hA]
    congr 2
    simp only [Nat.min_def]; split <;> omega
  have kA : Hid (n + m ≤ G ∧ G ≤ maxLen ∧ (W2.setRow N A).heap[w.heap.size]? = some (.cells A TE (0, 0)) ∧ A.size = G ∧ A.toList.take ((n + m)) = (cur.toList.take (n)).take (i) ++ us ++ (cur.toList.take (n)).drop (i) ∧ w.grownBy (W2.setRow N A) none) := by
    refine ⟨hGn, hGm, by rw [← hN]; exact setRow_heap _ _ _ _ _ _ hN2, by rw [hA]; simp [hml, hR1s]; omega, ?_, ?_⟩
    · have e1 : R1.toList.take ((i + m)) = olds ++ us := by
        rw [hR1]; simp only [List.toList_toArray]
        rw [List.take_append_of_le_length (by simp [hul2, hRl]; omega), List.take_of_length_le (by simp [hul2, hRl]; omega), hRt]
      rw [hA]; simp only [List.toList_toArray]
      rw [e1, List.take_append_of_le_length (by simp [hol, hul2, hml]; omega), List.take_of_length_le (by simp [hol, hul2, hml]; omega), holds, hmv2]
    · refine ⟨by rw [hW2]; exact hgr1.os, by rw [hW2]; exact hgr1.tape, by rw [hW2]; exact hgr1.output, ?_, fun k hk hne => ?_⟩
      · have : (W2.setRow N A).heap.size = W1.heap.size := by rw [hW2]; simp [World.setRow, World.drew]
        rw [this]; exact hgr1.size
      · rw [setRow_other _ _ _ _ (by omega), hW2]
        show (W1.setRow N R1).heap[k]? = _
        rw [setRow_other _ _ _ _ (by omega)]; exact hold k hk
  exact ⟨G, N, W1, R1, W2, A, hN, hGn, hGm, hrz, hcp1, hW2.symm, hcp2, kA⟩
end
set_option maxRecDepth 1000000 in
theorem InsEnd83 (w : World) (S : Value) (n : Nat) (vals : List Value) (hS : w.ownsRow 0 9 1 S n vals) (gv m vc : Nat) (us : List Value) (hul : us.length = m) (hus : ∀ j u, us[j]? = some u → w.cell? ⟨gv, j, none⟩ = some u) (h1u : ∀ v ∈ us, v.oneCell' = true) (hm : 0 < m) (hb : (n + m) * 16 ≤ 140737488355328) :
    Calls Tryz.prog 83 #[S, .int .i64 n, .slice (some ⟨gv, 0, none⟩) m vc] w fun e w' => ∃ R, e = .returned R ∧ w'.ownsRow 0 9 1 R (n + m) (vals ++ us) ∧ GrewC w w' (fun b => own1 S b ≠ 0) ∧
      ∀ b, own1 R b ≠ 0 → (w.heap.size ≤ b ∨ own1 S b ≠ 0) ∧ b < w'.heap.size := by
  obtain ⟨i0, hi0⟩ := Option.isSome_iff_exists.1 (show (Tryz.prog.info? 9).isSome = true by kernel_rfl)
  have hz0 : i0.size = 1 := by
    have : (Tryz.prog.info? 9).map (·.size) = some 1 := by kernel_rfl
    rw [hi0] at this; simpa using this
  have hz1 : i0.bytes = 16 := by
    have : (Tryz.prog.info? 9).map (·.bytes) = some 16 := by kernel_rfl
    rw [hi0] at this; simpa using this
  have hz2 : i0.zero = some (.string ByteArray.empty) := by
    have : (Tryz.prog.info? 9).bind (·.zero) = some (.string ByteArray.empty) := by kernel_rfl
    rw [hi0] at this; simpa using this
  have hz3 : ¬ ((m : Int) = 0) := by omega
  have mixed : Tryz.prog.follows .mixedOrders = true := by kernel_rfl
  have key : ∀ ty, ∃ v' w', (Builtin.append_ #[49, 49] ty #[S, .slice (some ⟨gv, 0, none⟩) m vc]).run Tryz.prog w = .ok v' w' ∧ w'.ownsRow 0 9 1 v' (n + m) (vals ++ us) ∧ GrewC w w' (fun b => own1 S b ≠ 0) ∧
      ∀ b, own1 v' b ≠ 0 → (w.heap.size ≤ b ∨ own1 S b ≠ 0) ∧ b < w'.heap.size := fun ty => by
    have := run_append_at (P := Tryz.prog) w 49 ty 9 i0 _ Tryz.underlying49 hi0 hz2 (by rw [hz0]; rfl) (by rw [hz0]; decide) S n vals (by rw [hz0]; exact hS) (.slice (some ⟨gv, 0, none⟩) m vc) m us (by rw [hz0, Nat.mul_one]; exact hul) (.inl ⟨_, _, rfl, fun j u h => by rw [Addr.add_lit, Nat.zero_add]; exact hus j u h⟩) h1u (by unfold maxLen; omega) (by rw [hz1]; exact hb)
    rw [hz0] at this
    exact this
  obtain ⟨v', w', k1, k2, k3⟩ := key 49
  rcases (owns1_iff.1 hS).2 with ⟨rfl, rfl⟩ | ⟨g, c, cur, rfl, -, hg, hnc, hcm, hcs, htake⟩
  · clear key hS hus hz2 hi0 hz0 hz1
    go_enter Tryz.func83, Tryz.ntmps83
    go_wp2_with (at_builtin; refine Lib.wpList_append_run _ rfl _ _ 49 49 rfl _ _ rfl rfl _ _ k1 ?_)
    go_ret
    exact ⟨_, rfl, k2, k3⟩
  · clear key hS hus hz2 hg htake hcs hi0 hz0 hz1
    unfold maxLen at hcm
    go_enter Tryz.func83, Tryz.ntmps83
    go_wp2_with (at_builtin; refine Lib.wpList_append_run _ rfl _ _ 49 49 rfl _ _ rfl rfl _ _ k1 ?_)
    all_goals (go_ret; exact ⟨_, rfl, k2, k3⟩)
set_option maxRecDepth 1000000 in
theorem InsNone83 (w : World) (S : Value) (n i : Nat) (vals : List Value) (hS : w.ownsRow 0 9 1 S n vals) (U : Value) (us : List Value) (hU : w.ownsRow 0 9 1 U 0 us) (hi : i ≤ n) :
    Calls Tryz.prog 83 #[S, .int .i64 i, U] w fun e w' => e = .returned S ∧ w' = w := by
  rcases (owns1_iff.1 hS).2 with ⟨rfl, rfl⟩ | ⟨g, c, cur, rfl, -, hg, hnc, hcm, hcs, htake⟩
  · have hi0 : i = 0 := by omega
    subst hi0
    rcases (owns1_iff.1 hU).2 with ⟨rfl, -⟩ | ⟨gv, vc, curv, rfl, -, hgv, hmc, hcm, hcs, htake⟩
    · clear hS hU
      go_enter Tryz.func83, Tryz.ntmps83
      go_wp2_with fail
      go_ret
      exact ⟨rfl, rfl⟩
    · clear hS hU hgv hcs htake
      go_enter Tryz.func83, Tryz.ntmps83
      go_wp2_with fail
      go_ret
      exact ⟨rfl, rfl⟩
  · unfold maxLen at hcm
    have hic : i ≤ c := by omega
    rcases (owns1_iff.1 hU).2 with ⟨rfl, -⟩ | ⟨gv, vc, curv, rfl, -, hgv, hmc, hcm2, hcs2, htake2⟩
    · clear hS hU hg hcs htake
      go_enter Tryz.func83, Tryz.ntmps83
      go_wp2_with fail
      all_goals (go_ret; exact ⟨rfl, rfl⟩)
    · clear hS hU hg hcs htake hgv hcs2 htake2
      go_enter Tryz.func83, Tryz.ntmps83
      go_wp2_with fail
      all_goals (go_ret; exact ⟨rfl, rfl⟩)
set_option maxRecDepth 1000000 in
theorem InsShift83 (w : World) (g n c i : Nat) (cur : Array Value) (hg : w.heap[g]? = some (.cells cur 9 (0, 0))) (hs : cur.size = c) (hc : c ≤ 9223372036854775807) (hi : i < n)
    (gv m vc : Nat) (curv : Array Value) (Tv : TypeId) (hgv : w.heap[gv]? = some (.cells curv Tv (0, 0))) (hmv : m ≤ curv.size) (hne : gv ≠ g) (us : List Value) (hul : us = curv.toList.take (m)) (h1u : ∀ v ∈ us, v.oneCell' = true) (hm : 0 < m) (hroom : n + m ≤ c)
    (h1 : ∀ v ∈ cur.toList.take (n), v.oneCell' = true) :
    Calls Tryz.prog 83 #[.slice (some ⟨g, 0, none⟩) n c, .int .i64 i, .slice (some ⟨gv, 0, none⟩) m vc] w fun e w' => e = .returned (.slice (some ⟨g, 0, none⟩) (n + m) c) ∧
      ∃ A, w' = w.drew.setRow g A ∧ A.size = cur.size ∧ A.toList.take ((n + m)) = (cur.toList.take (n)).take (i) ++ us ++ (cur.toList.take (n)).drop (i) := by
  have hsz : (Tryz.prog.info? 9).map (·.size) = some 1 := by kernel_rfl
  have hul2 : us.length = m := by rw [hul, List.length_take, Array.length_toList]; omega
  have hov : ∀ lb cb, (callFunc 88 #[.slice (some ⟨gv, 0, none⟩) m vc, .slice (some ⟨g, (i + m), none⟩) lb cb]).run Tryz.prog w = .ok (.value (.bool false)) w := fun lb cb => by
    rw [run_callFunc_extern Tryz.func88 (by kernel_rfl) (by kernel_rfl) (by kernel_rfl) (e := Extern.SlicesOverlaps.overlaps #[49, 49] #[4]) (by kernel_rfl),
      Lib.run_overlaps_apart w 49 4 9 Tryz.underlying49 1 Tryz.sizeOf9 ⟨gv, 0, none⟩ ⟨g, (i + m), none⟩ m vc lb cb hne Tv 9 curv.size cur.size (by simp [World.shape?, hgv]) (by simp [World.shape?, hg]) (by omega) (by simp [World.frozen?, hgv]) (by simp [World.frozen?, hgv])]
    rfl
  obtain ⟨mv, hmv2⟩ : ∃ mv, mv = (cur.toList.take (n)).drop (i) := ⟨_, rfl⟩
  have hml : mv.length = (n - i) := by rw [hmv2]; simp [hs]; omega
  have hgd : w.drew.heap[g]? = some (.cells cur 9 (0, 0)) := hg
  obtain ⟨B, hB⟩ : ∃ B, B = (cur.toList.take ((i + m)) ++ mv ++ cur.toList.drop ((i + m) + mv.length)).toArray := ⟨_, rfl⟩
  have hcp1 : ∀ ty dc sc, (Builtin.copy_ #[49, 49] ty #[.slice (some ⟨g, (i + m), none⟩) (n + m - (i + m)) dc, .slice (some ⟨g, i, none⟩) (n + m - i) sc]).run Tryz.prog w.drew = .ok (goInt (n - i)) (w.drew.setRow g B) := fun ty dc sc => by
    have := run_copy_rowK (P := Tryz.prog) w.drew 49 49 ty 9 1 g ((i + m)) (n + m - (i + m)) dc ⟨g, i, none⟩ (n + m - i) sc cur 9 mv Tryz.underlying49 hsz hgd (by rw [hml]; simp only [Nat.min_def]; split <;> omega)
      (fun j v hj => by
        have hj2 := (List.getElem?_eq_some_iff.1 hj).1
        rw [hmv2, List.getElem?_drop, List.getElem?_take_of_lt (by omega), Array.getElem?_toList] at hj
        rw [Addr.add_lit]
        simp only [World.cell?, hgd]
        exact hj) (by rw [hml, hs]; omega) (fun v hv => h1 v (by rw [hmv2] at hv; exact List.mem_of_mem_drop hv))
    rw [this, hB]
    congr 2
    simp only [Nat.min_def]; split <;> omega
  have hBs : B.size = cur.size := by rw [hB]; simp [hml, hs]; omega
  have hgB : (w.drew.setRow g B).heap[g]? = some (.cells B 9 (0, 0)) := setRow_heap _ _ _ _ _ _ hgd
  obtain ⟨A, hA⟩ : ∃ A, A = (B.toList.take (i) ++ us ++ B.toList.drop (i + us.length)).toArray := ⟨_, rfl⟩
  have hcp2 : ∀ ty dc, (Builtin.copy_ #[49, 49] ty #[.slice (some ⟨g, i, none⟩) (n + m - i) dc, .slice (some ⟨gv, 0, none⟩) m vc]).run Tryz.prog (w.drew.setRow g B) = .ok (goInt m) (w.drew.setRow g A) := fun ty dc => by
    have := run_copy_rowK (P := Tryz.prog) (w.drew.setRow g B) 49 49 ty 9 1 g (i) (n + m - i) dc ⟨gv, 0, none⟩ m vc B 9 us Tryz.underlying49 hsz hgB (by rw [hul2]; simp only [Nat.min_def]; split <;> omega)
      (fun j v hj => by
        have hj2 := (List.getElem?_eq_some_iff.1 hj).1
        rw [hul, List.getElem?_take_of_lt (by omega), Array.getElem?_toList] at hj
        rw [Addr.add_lit, Nat.zero_add]
        have e : (w.drew.setRow g B).heap[gv]? = some (.cells curv Tv (0, 0)) := by rw [setRow_other _ _ _ _ hne]; exact hgv
        simp only [World.cell?, e]
        exact hj) (by rw [hul2, hBs, hs]; omega) h1u
    rw [this, hA, setRow_setRow]
    congr 2
    simp only [Nat.min_def]; split <;> omega
  have kA : Hid (A.size = cur.size ∧ A.toList.take ((n + m)) = (cur.toList.take (n)).take (i) ++ us ++ mv) := by
    have e1 : B.toList.take (i) = (cur.toList.take (n)).take (i) := by
      rw [hB]; simp only [List.toList_toArray, List.append_assoc]
      rw [List.take_append_of_le_length (by simp [hs]; omega), List.take_take, List.take_take]
      congr 1; omega
    have e2 : (B.toList.drop (i + us.length)).take mv.length = mv := by
      rw [hB]; simp only [List.toList_toArray, List.append_assoc]
      rw [List.drop_append, List.drop_eq_nil_of_le (by simp [hul2, hs]; omega), List.nil_append, List.length_take, show i + us.length - min ((i + m)) cur.toList.length = 0 by simp [hul2, hs]; omega, List.drop_zero, List.take_append_of_le_length (Nat.le_refl _), List.take_of_length_le (Nat.le_refl _)]
    refine ⟨by rw [hA]; simp [hul2, hBs, hs]; omega, ?_⟩
    rw [hA]; simp only [List.toList_toArray]
    rw [List.take_append, List.take_of_length_le (by simp [hul2, hBs, hs]; omega), e1]
    congr 1
    rw [show (n + m) - (List.take (i) (List.take (n) cur.toList) ++ us).length = mv.length by simp [hul2, hml, hs]; omega]
    exact e2
  rw [hmv2] at kA
  have hnc : n ≤ c := by omega
  have hic : i ≤ c := by omega
  have hz1 : ¬ ((m : Int) = 0) := by omega
  have hz2 : ¬ ((i : Int) = (n : Int)) := by omega
  have mixed : Tryz.prog.follows .mixedOrders = true := by kernel_rfl
  have hw1 : IntKind.i64.wrap ((i : Int) + (m : Int)) = (i : Int) + (m : Int) := by rw [IntKind.wrap_i64]; omega
  have hb1 : (0 : Int) ≤ (i : Int) + (m : Int) := by omega
  have hin : i ≤ n := by omega
  have htn : ((i : Int) + (m : Int)).toNat = i + m := by omega
  have hb2 : ¬ (c = i + m) := by omega
  have hb3 : (i : Int) ≤ (n : Int) + (m : Int) := by omega
  have hb4 : ¬ (c = i) := by omega
  clear hB hBs hgB hA hmv2 hml hgd hg hgv hul hul2 h1 h1u hsz hs hmv
  go_enter Tryz.func83, Tryz.ntmps83
  go_wp2_with (simp only [hov])
  go_region_law_o (refine step_copy_runI rfl _ _ 49 49 rfl _ _ (by simp [Act.eval, Act.put]) (by simp [Act.eval, Act.put]) (hcp1 _ _ _) ?_)
  go_wp2_with (at_builtin; refine wpList_copy_runI _ rfl _ _ 49 49 rfl _ _ rfl rfl (hcp2 _ _) ?_)
  go_ret
  exact ⟨rfl, A, rfl, kA.out.1, kA.out.2⟩
set_option maxRecDepth 1000000 in
theorem InsGrow83 (w : World) (g n c i : Nat) (cur : Array Value) (hg : w.heap[g]? = some (.cells cur 9 (0, 0))) (hs : cur.size = c) (hnc : n ≤ c) (hi : i < n)
    (gv m vc : Nat) (curv : Array Value) (Tv : TypeId) (hgv : w.heap[gv]? = some (.cells curv Tv (0, 0))) (hmv : m ≤ curv.size) (us : List Value) (hul : us = curv.toList.take (m)) (h1u : ∀ v ∈ us, v.oneCell' = true) (hm : 0 < m) (hroom : c < n + m)
    (hbig : (n + m) * 16 ≤ 140737488355328) (h1 : ∀ v ∈ cur.toList.take (n), v.oneCell' = true) :
    Calls Tryz.prog 83 #[.slice (some ⟨g, 0, none⟩) n c, .int .i64 i, .slice (some ⟨gv, 0, none⟩) m vc] w fun e w' => ∃ C A, e = .returned (.slice (some ⟨w.heap.size, 0, none⟩) (n + m) C) ∧ n + m ≤ C ∧ C ≤ maxLen ∧
      w'.heap[w.heap.size]? = some (.cells A 9 (0, 0)) ∧ A.size = C ∧ A.toList.take ((n + m)) = (cur.toList.take (n)).take (i) ++ us ++ (cur.toList.take (n)).drop (i) ∧ w.grownBy w' none := by
  obtain ⟨i0, hi0⟩ := Option.isSome_iff_exists.1 (show (Tryz.prog.info? 9).isSome = true by kernel_rfl)
  have hz0 : i0.size = 1 := by
    have : (Tryz.prog.info? 9).map (·.size) = some 1 := by kernel_rfl
    rw [hi0] at this; simpa using this
  have hz1 : i0.bytes = 16 := by
    have : (Tryz.prog.info? 9).map (·.bytes) = some 16 := by kernel_rfl
    rw [hi0] at this; simpa using this
  have hz2 : i0.zero = some (.string ByteArray.empty) := by
    have : (Tryz.prog.info? 9).bind (·.zero) = some (.string ByteArray.empty) := by kernel_rfl
    rw [hi0] at this; simpa using this
  obtain ⟨G, N, W1, R1, W2, A, hNN, hGn, hGm, hrz, hcp1, hW2', hcp2, kA⟩ := insGrow83 49 9 3 _ i0 Tryz.underlying49 Tryz.underlying3 hi0 hz2 hz0 hz1 rfl w g n c i cur hg hs hnc hi gv m vc curv Tv hgv hmv us hul h1u hm hroom hbig h1
  have hic : i ≤ c := by omega
  have hz3 : ¬ ((m : Int) = 0) := by omega
  have hz4 : ¬ ((i : Int) = (n : Int)) := by omega
  have hz5 : (c : Int) < (n : Int) + (m : Int) := by omega
  have mixed : Tryz.prog.follows .mixedOrders = true := by kernel_rfl
  have hG63 : G ≤ 9223372036854775807 := by unfold maxLen at hGm; omega
  have hw1 : IntKind.i64.wrap ((n : Int) + (m : Int)) = (n : Int) + (m : Int) := by rw [IntKind.wrap_i64]; omega
  have hw2 : IntKind.i64.wrap ((n : Int) + (m : Int) - (i : Int)) = (n : Int) + (m : Int) - (i : Int) := by rw [IntKind.wrap_i64]; omega
  have hw3 : IntKind.i64.wrap ((i : Int) + (m : Int)) = (i : Int) + (m : Int) := by rw [IntKind.wrap_i64]; omega
  have hb1 : (0 : Int) ≤ (i : Int) + (m : Int) := by omega
  have htn : ((i : Int) + (m : Int)).toNat = i + m := by omega
  have hGi : ¬ (G = i) := by omega
  have hGim : ¬ (G = i + m) := by omega
  have hb3 : (i : Int) ≤ (n : Int) + (m : Int) := by omega
  have hb4 : ¬ (c = i) := by omega
  have hinm : i ≤ n + m := by omega
  have himn : i + m ≤ n + m := by omega
  have hin : i ≤ n := by omega
  clear hul h1 h1u hg hgv hs hmv hz0 hz1 hz2 hi0 hbig
  go_enter Tryz.func83, Tryz.ntmps83
  go_wp2_with (at_builtin; refine Lib.wpList_append_run _ rfl _ _ 49 3 rfl _ _ rfl rfl _ _ (hrz _) ?_)
  go_region_law_o (simp only [hW2']; refine step_copy_runI rfl _ _ 49 49 rfl _ _ (by simp [Act.eval, Act.put]) (by simp [Act.eval, Act.put]) (hcp2 _ _ _) ?_)
  go_wp2_with fail
  go_ret
  exact ⟨G, A, by rw [hNN.out]; rfl, kA.out⟩
theorem insM83 : InsM Tryz.prog 83 9 1 16 := by
  intro w S n vals U m us i hS hU hdis hi h1 h1u hb
  simp only [Nat.mul_one]
  have hvl := (owns1_iff.1 hS).1
  by_cases hm : m = 0
  · subst hm
    have hus : us = [] := by have := (owns1_iff.1 hU).1; (try rw [Nat.zero_mul] at this); exact List.eq_nil_of_length_eq_zero this
    subst hus
    refine (InsNone83 w S n i vals hS U [] hU hi).mono ?_
    rintro e w' ⟨rfl, rfl⟩
    refine ⟨S, rfl, by rw [List.append_nil, List.take_append_drop]; exact hS, ⟨rfl, rfl, rfl, Nat.le_refl _, fun _ _ _ => rfl⟩, fun b hb => ⟨.inr hb, own_low hS b hb⟩⟩
  · rcases (owns1_iff.1 hU).2 with ⟨rfl, h0⟩ | ⟨gv, vc, curv, rfl, -, hgv, hmc, hcm, hcs, htake⟩
    · exact absurd h0 hm
    · by_cases hin : i = n
      · subst hin
        rw [List.take_of_length_le (by omega), List.drop_eq_nil_of_le (by omega), List.append_nil]
        exact InsEnd83 w S i vals hS gv m vc us (owns1_iff.1 hU).1 (fun j u h => by have := hU.cells (g := gv) rfl j u h; rwa [Addr.add_lit, Nat.zero_add] at this) h1u (by omega) hb
      · rcases (owns1_iff.1 hS).2 with ⟨rfl, h0⟩ | ⟨g, c, cur, rfl, -, hg, hnc, hcm', hcs', htake'⟩
        · omega
        · have hne : gv ≠ g := fun e => by subst e; have := hdis gv (by simp [own1]); simp [own1] at this
          have hmv : m ≤ curv.size := by rw [hcs]; exact hmc
          by_cases hroom : n + m ≤ c
          · refine (InsShift83 w g n c i cur hg hcs' (by unfold maxLen at hcm'; omega) (by omega) gv m vc curv 9 hgv hmv hne us htake.symm h1u (by omega) hroom (by rw [htake']; exact h1)).mono ?_
            rintro e w' ⟨rfl, A, rfl, hA, ht⟩
            rw [htake'] at ht
            have hgd : w.drew.heap[g]? = some (.cells cur 9 (0, 0)) := hg
            have hA2 := setRow_heap w.drew g cur A _ _ hgd
            refine ⟨_, rfl, owns1_iff.2 ⟨by rw [← ht]; simp [hA, hcs']; omega, .inr ⟨g, c, A, rfl, Nat.zero_le _, hA2, hroom, hcm', by rw [hA, hcs'], ht⟩⟩, ⟨rfl, rfl, rfl, drow_size w g A, fun b _ hn => ?_⟩, fun b hb => ⟨.inr hb, ?_⟩⟩
            · rw [setRow_other _ _ _ _ (fun e => hn (by subst e; simp [own1]))]; rfl
            · have : g = b := by simp only [own1] at hb; exact Classical.byContradiction fun h => hb (if_neg h)
              subst this
              exact (Array.getElem?_eq_some_iff.1 hA2).1
          · refine (InsGrow83 w g n c i cur hg hcs' hnc (by omega) gv m vc curv 9 hgv hmv us htake.symm h1u (by omega) (by omega) hb (by rw [htake']; exact h1)).mono ?_
            rintro e w' ⟨C, A, rfl, hC, hCm, hN, hA, ht, hgr⟩
            rw [htake'] at ht
            refine ⟨_, rfl, owns1_iff.2 ⟨by rw [← ht]; simp [hA]; omega, .inr ⟨_, C, A, rfl, Nat.zero_le _, hN, hC, hCm, hA, ht⟩⟩, ⟨hgr.os, hgr.tape, hgr.output, hgr.size, fun b hb _ => hgr.block b hb (by simp)⟩, fun b hb => ?_⟩
            have : w.heap.size = b := by simp only [own1] at hb; exact Classical.byContradiction fun h => hb (if_neg h)
            subst this
            exact ⟨.inl (Nat.le_refl _), (Array.getElem?_eq_some_iff.1 hN).1⟩
end Go.Proofs
namespace Go.Pi
open Go.Proofs
theorem slices_Insert_string.ok (n : Nat) (_ : CxOk E (cx n slices_Insert_string.d.nt)) (_ : KPar (cx n slices_Insert_string.d.nt)) : slices_Insert_string.d.Ok E (slices_Insert_string.F (n + 1)) := fun _ _ h => nIns_ok (t := .str) (m1 := .d) (m2 := .d) (by decide) (by decide) insM83 h
end Go.Pi
end
section
set_option linter.unusedVariables false
set_option linter.unusedSimpArgs false
namespace Go.Proofs
open Go.Shelf Go.RowKit Go.Lib Go.Pi
section
variable {P : Program}
/-- the larger row of an insertion, and what comes into it -/
theorem insGrow84 (TS TE : TypeId) (TI : TypeId) (Z : Value) (i0 : TypeInfo) (uS : P.underlying TS = some (.slice TE)) (uI : P.underlying TI = some (.int .i64)) (hi0 : P.info? TE = some i0) (hz2 : i0.zero = some Z) (hz0 : i0.size = 5) (hz1 : i0.bytes = 80) (hZK : Z.cells.size = 5)
    (w : World) (g n c i : Nat) (cur : Array Value) (hg : w.heap[g]? = some (.cells cur TE (0, 0))) (hs : cur.size = c * 5) (hnc : n ≤ c) (hi : i < n)
    (gv m vc : Nat) (curv : Array Value) (Tv : TypeId) (hgv : w.heap[gv]? = some (.cells curv Tv (0, 0))) (hmv : m * 5 ≤ curv.size) (us : List Value) (hul : us = curv.toList.take (m * 5)) (h1u : ∀ v ∈ us, v.oneCell' = true) (hm : 0 < m) (hroom : c < n + m)
    (hbig : (n + m) * 80 ≤ 140737488355328) (h1 : ∀ v ∈ cur.toList.take (n * 5), v.oneCell' = true) :
    ∃ G N W1 R1 W2 A, Hid (N = w.heap.size) ∧ n + m ≤ G ∧ G ≤ maxLen ∧
      (∀ ty, (Builtin.append_ #[TS, TI] ty #[.slice (some ⟨g, 0, none⟩) i c, .int .i64 ((n : Int) + (m : Int) - (i : Int))]).run P w = .ok (.slice (some ⟨N, 0, none⟩) (n + m) G) W1) ∧
      (∀ ty dc, (Builtin.copy_ #[TS, TS] ty #[.slice (some ⟨N, i * 5, none⟩) (n + m - i) dc, .slice (some ⟨gv, 0, none⟩) m vc]).run P W1 = .ok (goInt m) (W1.setRow N R1)) ∧
      (W1.setRow N R1).drew = W2 ∧
      (∀ ty dc sc, (Builtin.copy_ #[TS, TS] ty #[.slice (some ⟨N, (i + m) * 5, none⟩) (n + m - (i + m)) dc, .slice (some ⟨g, i * 5, none⟩) (n - i) sc]).run P W2 = .ok (goInt (n - i)) (W2.setRow N A)) ∧
      Hid (n + m ≤ G ∧ G ≤ maxLen ∧ (W2.setRow N A).heap[w.heap.size]? = some (.cells A TE (0, 0)) ∧ A.size = G * 5 ∧ A.toList.take ((n + m) * 5) = (cur.toList.take (n * 5)).take (i * 5) ++ us ++ (cur.toList.take (n * 5)).drop (i * 5) ∧ w.grownBy (W2.setRow N A) none) := by
  have hul2 : us.length = m * 5 := by rw [hul, List.length_take, Array.length_toList]; omega
  have hsz : (P.info? TE).map (·.size) = some 5 := by rw [hi0]; simp [hz0]
  have hgd : w.drew.heap[g]? = some (.cells cur TE (0, 0)) := hg
  have hgl : g < w.heap.size := (Array.getElem?_eq_some_iff.1 hg).1
  have hgvl : gv < w.heap.size := (Array.getElem?_eq_some_iff.1 hgv).1
  obtain ⟨olds, holds⟩ : ∃ olds, olds = (cur.toList.take (n * 5)).take (i * 5) := ⟨_, rfl⟩
  have hol : olds.length = i * 5 := by rw [holds]; simp [hs]; omega
  obtain ⟨G, hG⟩ : ∃ G, G = grownCap w (n + m) c TE := ⟨_, rfl⟩
  have hGn : n + m ≤ G := by rw [hG]; exact grownCap_ge w _ _ _
  have hGm : G ≤ maxLen := by rw [hG]; exact grownCap_le_maxLen w (n + m) c TE (by unfold maxLen; omega)
  obtain ⟨ROW, hROW⟩ : ∃ ROW : Array Value, ROW = olds.toArray ++ Builtin.zeroCells Z.cells (n + m - i) ++ Builtin.zeroCells Z.cells (G - (n + m)) := ⟨_, rfl⟩
  have hRl : ROW.size = G * 5 := by rw [hROW]; simp [Builtin.zeroCells, hol, hZK]; omega
  have hRt : ROW.toList.take (i * 5) = olds := by
    rw [hROW]; simp only [Array.toList_append, List.append_assoc]
    rw [List.take_append_of_le_length (by simp [hol]), List.take_of_length_le (by simp [hol])]
  have hkk : (n : Int) + (m : Int) - (i : Int) = ((n + m - i : Nat) : Int) := by omega
  have hrz : ∀ ty, (Builtin.append_ #[TS, TI] ty #[.slice (some ⟨g, 0, none⟩) i c, .int .i64 ((n : Int) + (m : Int) - (i : Int))]).run P w =
      .ok (.slice (some ⟨w.heap.size, 0, none⟩) (n + m) G) (w.drew.alloc (.cells ROW TE)) := fun ty => by
    have h := Lib.run_append_grow_zeros (P := P) w TS TI ty TE i0 _ .i64 .i64 uS uI hi0 hz2 (some ⟨g, 0, none⟩) i c olds (by
      rw [hz0]
      exact run_firstCells_some w.drew 5 i ⟨g, 0, none⟩ i c olds hol (fun j v hj => by
        have hj2 := (List.getElem?_eq_some_iff.1 hj).1
        rw [holds, List.getElem?_take_of_lt (by omega), List.getElem?_take_of_lt (by omega), Array.getElem?_toList] at hj
        rw [Addr.add_lit, Nat.zero_add]
        simp only [World.cell?, hgd]
        exact hj)) (n + m - i) (by omega) (by omega) (by omega) (by omega) (by rw [hz1]; omega) (by rw [hz1, show i + (n + m - i) = n + m by omega]; exact growslice_fits hroom hbig)
    rw [show i + (n + m - i) = n + m by omega, ← hG, ← hROW] at h
    rw [hkk]
    exact h
  obtain ⟨N, hN⟩ : ∃ N, N = w.heap.size := ⟨_, rfl⟩
  rw [← hN] at hrz
  obtain ⟨W1, hW1⟩ : ∃ W1, W1 = w.drew.alloc (.cells ROW TE) := ⟨_, rfl⟩
  rw [← hW1] at hrz
  have hN1 : W1.heap[N]? = some (.cells ROW TE (0, 0)) := by rw [hW1, hN]; exact heap_alloc_new w.drew _
  have hold : ∀ b, b < w.heap.size → W1.heap[b]? = w.heap[b]? := fun b hb => by rw [hW1]; exact heap_alloc_old w.drew _ hb
  have hgr1 : w.grownBy W1 none := by rw [hW1]; exact ⟨rfl, rfl, rfl, by simp, fun k hk _ => heap_alloc_old w.drew _ hk⟩
  obtain ⟨R1, hR1⟩ : ∃ R1, R1 = (ROW.toList.take (i * 5) ++ us ++ ROW.toList.drop (i * 5 + us.length)).toArray := ⟨_, rfl⟩
  have hR1s : R1.size = G * 5 := by rw [hR1]; simp [hul2, hRl]; omega
  have hcp1 : ∀ ty dc, (Builtin.copy_ #[TS, TS] ty #[.slice (some ⟨N, i * 5, none⟩) (n + m - i) dc, .slice (some ⟨gv, 0, none⟩) m vc]).run P W1 = .ok (goInt m) (W1.setRow N R1) := fun ty dc => by
    have := run_copy_rowK (P := P) W1 TS TS ty TE 5 N (i * 5) (n + m - i) dc ⟨gv, 0, none⟩ m vc ROW TE us uS hsz hN1 (by rw [hul2]; simp only [Nat.min_def]; split <;> omega)
      (fun j v hj => by
        have hj2 := (List.getElem?_eq_some_iff.1 hj).1
        rw [hul, List.getElem?_take_of_lt (by omega), Array.getElem?_toList] at hj
        rw [Addr.add_lit, Nat.zero_add]
        simp only [World.cell?, hold gv hgvl, hgv]
        exact hj) (by rw [hul2, hRl]; omega) h1u
    rw [this, hR1]
    congr 2
    simp only [Nat.min_def]; split <;> omega
  obtain ⟨W2, hW2⟩ : ∃ W2, W2 = (W1.setRow N R1).drew := ⟨_, rfl⟩
  have hN2 : W2.heap[N]? = some (.cells R1 TE (0, 0)) := by rw [hW2]; exact setRow_heap _ _ _ _ _ _ hN1
  have hg2 : W2.heap[g]? = some (.cells cur TE (0, 0)) := by
    rw [hW2]; show (W1.setRow N R1).heap[g]? = _
    rw [setRow_other _ _ _ _ (by omega), hold g hgl]; exact hg
  obtain ⟨mv, hmv2⟩ : ∃ mv, mv = (cur.toList.take (n * 5)).drop (i * 5) := ⟨_, rfl⟩
  have hml : mv.length = (n - i) * 5 := by rw [hmv2]; simp [hs]; omega
  obtain ⟨A, hA⟩ : ∃ A, A = (R1.toList.take ((i + m) * 5) ++ mv ++ R1.toList.drop ((i + m) * 5 + mv.length)).toArray := ⟨_, rfl⟩
  have hcp2 : ∀ ty dc sc, (Builtin.copy_ #[TS, TS] ty #[.slice (some ⟨N, (i + m) * 5, none⟩) (n + m - (i + m)) dc, .slice (some ⟨g, i * 5, none⟩) (n - i) sc]).run P W2 = .ok (goInt (n - i)) (W2.setRow N A) := fun ty dc sc => by
    have := run_copy_rowK (P := P) W2 TS TS ty TE 5 N ((i + m) * 5) (n + m - (i + m)) dc ⟨g, i * 5, none⟩ (n - i) sc R1 TE mv uS hsz hN2 (by rw [hml]; simp only [Nat.min_def]; split <;> omega)
      (fun j v hj => by
        have hj2 := (List.getElem?_eq_some_iff.1 hj).1
        rw [hmv2, List.getElem?_drop, List.getElem?_take_of_lt (by omega), Array.getElem?_toList] at hj
        rw [Addr.add_lit]
        simp only [World.cell?, hg2]
        exact hj) (by rw [hml, hR1s]; omega) (fun v hv => h1 v (by rw [hmv2] at hv; exact List.mem_of_mem_drop hv))
    rw [this, hA]
    congr 2
    simp only [Nat.min_def]; split <;> omega
  have kA : Hid (n + m ≤ G ∧ G ≤ maxLen ∧ (W2.setRow N A).heap[w.heap.size]? = some (.cells A TE (0, 0)) ∧ A.size = G * 5 ∧ A.toList.take ((n + m) * 5) = (cur.toList.take (n * 5)).take (i * 5) ++ us ++ (cur.toList.take (n * 5)).drop (i * 5) ∧ w.grownBy (W2.setRow N A) none) := by
    refine ⟨hGn, hGm, by rw [← hN]; exact setRow_heap _ _ _ _ _ _ hN2, by rw [hA]; simp [hml, hR1s]; omega, ?_, ?_⟩
    · have e1 : R1.toList.take ((i + m) * 5) = olds ++ us := by
        rw [hR1]; simp only [List.toList_toArray]
        rw [List.take_append_of_le_length (by simp [hul2, hRl]; omega), List.take_of_length_le (by simp [hul2, hRl]; omega), hRt]
      rw [hA]; simp only [List.toList_toArray]
      rw [e1, List.take_append_of_le_length (by simp [hol, hul2, hml]; omega), List.take_of_length_le (by simp [hol, hul2, hml]; omega), holds, hmv2]
    · refine ⟨by rw [hW2]; exact hgr1.os, by rw [hW2]; exact hgr1.tape, by rw [hW2]; exact hgr1.output, ?_, fun k hk hne => ?_⟩
      · have : (W2.setRow N A).heap.size = W1.heap.size := by rw [hW2]; simp [World.setRow, World.drew]
        rw [this]; exact hgr1.size
      · rw [setRow_other _ _ _ _ (by omega), hW2]
        show (W1.setRow N R1).heap[k]? = _
        rw [setRow_other _ _ _ _ (by omega)]; exact hold k hk
  exact ⟨G, N, W1, R1, W2, A, hN, hGn, hGm, hrz, hcp1, hW2.symm, hcp2, kA⟩
end
set_option maxRecDepth 1000000 in
theorem InsEnd84 (w : World) (S : Value) (n : Nat) (vals : List Value) (hS : w.ownsRow 0 51 5 S n vals) (gv m vc : Nat) (us : List Value) (hul : us.length = m * 5) (hus : ∀ j u, us[j]? = some u → w.cell? ⟨gv, j, none⟩ = some u) (h1u : ∀ v ∈ us, v.oneCell' = true) (hm : 0 < m) (hb : (n + m) * 80 ≤ 140737488355328) :
    Calls Tryz.prog 84 #[S, .int .i64 n, .slice (some ⟨gv, 0, none⟩) m vc] w fun e w' => ∃ R, e = .returned R ∧ w'.ownsRow 0 51 5 R (n + m) (vals ++ us) ∧ GrewC w w' (fun b => own1 S b ≠ 0) ∧
      ∀ b, own1 R b ≠ 0 → (w.heap.size ≤ b ∨ own1 S b ≠ 0) ∧ b < w'.heap.size := by
  obtain ⟨i0, hi0⟩ := Option.isSome_iff_exists.1 (show (Tryz.prog.info? 51).isSome = true by kernel_rfl)
  have hz0 : i0.size = 5 := by
    have : (Tryz.prog.info? 51).map (·.size) = some 5 := by kernel_rfl
    rw [hi0] at this; simpa using this
  have hz1 : i0.bytes = 80 := by
    have : (Tryz.prog.info? 51).map (·.bytes) = some 80 := by kernel_rfl
    rw [hi0] at this; simpa using this
  have hz2 : i0.zero = some (.agg #[.int .i64 0, .int .i64 0, .string ByteArray.empty, .slice none 0 0, .slice none 0 0]) := by
    have : (Tryz.prog.info? 51).bind (·.zero) = some (.agg #[.int .i64 0, .int .i64 0, .string ByteArray.empty, .slice none 0 0, .slice none 0 0]) := by kernel_rfl
    rw [hi0] at this; simpa using this
  have hz3 : ¬ ((m : Int) = 0) := by omega
  have mixed : Tryz.prog.follows .mixedOrders = true := by kernel_rfl
  have key : ∀ ty, ∃ v' w', (Builtin.append_ #[48, 48] ty #[S, .slice (some ⟨gv, 0, none⟩) m vc]).run Tryz.prog w = .ok v' w' ∧ w'.ownsRow 0 51 5 v' (n + m) (vals ++ us) ∧ GrewC w w' (fun b => own1 S b ≠ 0) ∧
      ∀ b, own1 v' b ≠ 0 → (w.heap.size ≤ b ∨ own1 S b ≠ 0) ∧ b < w'.heap.size := fun ty => by
    have := run_append_at (P := Tryz.prog) w 48 ty 51 i0 _ Tryz.underlying48 hi0 hz2 (by rw [hz0]; rfl) (by rw [hz0]; decide) S n vals (by rw [hz0]; exact hS) (.slice (some ⟨gv, 0, none⟩) m vc) m us (by rw [hz0]; exact hul) (.inl ⟨_, _, rfl, fun j u h => by rw [Addr.add_lit, Nat.zero_add]; exact hus j u h⟩) h1u (by unfold maxLen; omega) (by rw [hz1]; exact hb)
    rw [hz0] at this
    exact this
  obtain ⟨v', w', k1, k2, k3⟩ := key 48
  rcases hS.2 with ⟨rfl, rfl⟩ | ⟨g, c, cur, rfl, -, hg, hnc, hcm, hcs, htake⟩
  · clear key hS hus hz2 hi0 hz0 hz1
    go_enter Tryz.func84, Tryz.ntmps84
    go_wp2_with (at_builtin; refine Lib.wpList_append_run _ rfl _ _ 48 48 rfl _ _ rfl rfl _ _ k1 ?_)
    go_ret
    exact ⟨_, rfl, k2, k3⟩
  · clear key hS hus hz2 hg htake hcs hi0 hz0 hz1
    unfold maxLen at hcm
    go_enter Tryz.func84, Tryz.ntmps84
    go_wp2_with (at_builtin; refine Lib.wpList_append_run _ rfl _ _ 48 48 rfl _ _ rfl rfl _ _ k1 ?_)
    all_goals (go_ret; exact ⟨_, rfl, k2, k3⟩)
set_option maxRecDepth 1000000 in
theorem InsNone84 (w : World) (S : Value) (n i : Nat) (vals : List Value) (hS : w.ownsRow 0 51 5 S n vals) (U : Value) (us : List Value) (hU : w.ownsRow 0 51 5 U 0 us) (hi : i ≤ n) :
    Calls Tryz.prog 84 #[S, .int .i64 i, U] w fun e w' => e = .returned S ∧ w' = w := by
  rcases hS.2 with ⟨rfl, rfl⟩ | ⟨g, c, cur, rfl, -, hg, hnc, hcm, hcs, htake⟩
  · have hi0 : i = 0 := by omega
    subst hi0
    rcases hU.2 with ⟨rfl, -⟩ | ⟨gv, vc, curv, rfl, -, hgv, hmc, hcm, hcs, htake⟩
    · clear hS hU
      go_enter Tryz.func84, Tryz.ntmps84
      go_wp2_with fail
      go_ret
      exact ⟨rfl, rfl⟩
    · clear hS hU hgv hcs htake
      go_enter Tryz.func84, Tryz.ntmps84
      go_wp2_with fail
      go_ret
      exact ⟨rfl, rfl⟩
  · unfold maxLen at hcm
    have hic : i ≤ c := by omega
    rcases hU.2 with ⟨rfl, -⟩ | ⟨gv, vc, curv, rfl, -, hgv, hmc, hcm2, hcs2, htake2⟩
    · clear hS hU hg hcs htake
      go_enter Tryz.func84, Tryz.ntmps84
      go_wp2_with fail
      all_goals (go_ret; exact ⟨rfl, rfl⟩)
    · clear hS hU hg hcs htake hgv hcs2 htake2
      go_enter Tryz.func84, Tryz.ntmps84
      go_wp2_with fail
      all_goals (go_ret; exact ⟨rfl, rfl⟩)
set_option maxRecDepth 1000000 in
theorem InsShift84 (w : World) (g n c i : Nat) (cur : Array Value) (hg : w.heap[g]? = some (.cells cur 51 (0, 0))) (hs : cur.size = c * 5) (hc : c ≤ 9223372036854775807) (hi : i < n)
    (gv m vc : Nat) (curv : Array Value) (Tv : TypeId) (hgv : w.heap[gv]? = some (.cells curv Tv (0, 0))) (hmv : m * 5 ≤ curv.size) (hne : gv ≠ g) (us : List Value) (hul : us = curv.toList.take (m * 5)) (h1u : ∀ v ∈ us, v.oneCell' = true) (hm : 0 < m) (hroom : n + m ≤ c)
    (h1 : ∀ v ∈ cur.toList.take (n * 5), v.oneCell' = true) :
    Calls Tryz.prog 84 #[.slice (some ⟨g, 0, none⟩) n c, .int .i64 i, .slice (some ⟨gv, 0, none⟩) m vc] w fun e w' => e = .returned (.slice (some ⟨g, 0, none⟩) (n + m) c) ∧
      ∃ A, w' = w.drew.setRow g A ∧ A.size = cur.size ∧ A.toList.take ((n + m) * 5) = (cur.toList.take (n * 5)).take (i * 5) ++ us ++ (cur.toList.take (n * 5)).drop (i * 5) := by
  have hsz : (Tryz.prog.info? 51).map (·.size) = some 5 := by kernel_rfl
  have hul2 : us.length = m * 5 := by rw [hul, List.length_take, Array.length_toList]; omega
  have hov : ∀ lb cb, (callFunc 90 #[.slice (some ⟨gv, 0, none⟩) m vc, .slice (some ⟨g, (i + m) * 5, none⟩) lb cb]).run Tryz.prog w = .ok (.value (.bool false)) w := fun lb cb => by
    rw [run_callFunc_extern Tryz.func90 (by kernel_rfl) (by kernel_rfl) (by kernel_rfl) (e := Extern.SlicesOverlaps.overlaps #[48, 48] #[4]) (by kernel_rfl),
      Lib.run_overlaps_apart w 48 4 51 Tryz.underlying48 5 Tryz.sizeOf51 ⟨gv, 0, none⟩ ⟨g, (i + m) * 5, none⟩ m vc lb cb hne Tv 51 curv.size cur.size (by simp [World.shape?, hgv]) (by simp [World.shape?, hg]) (by omega) (by simp [World.frozen?, hgv]) (by simp [World.frozen?, hgv])]
    rfl
  obtain ⟨mv, hmv2⟩ : ∃ mv, mv = (cur.toList.take (n * 5)).drop (i * 5) := ⟨_, rfl⟩
  have hml : mv.length = (n - i) * 5 := by rw [hmv2]; simp [hs]; omega
  have hgd : w.drew.heap[g]? = some (.cells cur 51 (0, 0)) := hg
  obtain ⟨B, hB⟩ : ∃ B, B = (cur.toList.take ((i + m) * 5) ++ mv ++ cur.toList.drop ((i + m) * 5 + mv.length)).toArray := ⟨_, rfl⟩
  have hcp1 : ∀ ty dc sc, (Builtin.copy_ #[48, 48] ty #[.slice (some ⟨g, (i + m) * 5, none⟩) (n + m - (i + m)) dc, .slice (some ⟨g, i * 5, none⟩) (n + m - i) sc]).run Tryz.prog w.drew = .ok (goInt (n - i)) (w.drew.setRow g B) := fun ty dc sc => by
    have := run_copy_rowK (P := Tryz.prog) w.drew 48 48 ty 51 5 g ((i + m) * 5) (n + m - (i + m)) dc ⟨g, i * 5, none⟩ (n + m - i) sc cur 51 mv Tryz.underlying48 hsz hgd (by rw [hml]; simp only [Nat.min_def]; split <;> omega)
      (fun j v hj => by
        have hj2 := (List.getElem?_eq_some_iff.1 hj).1
        rw [hmv2, List.getElem?_drop, List.getElem?_take_of_lt (by omega), Array.getElem?_toList] at hj
        rw [Addr.add_lit]
        simp only [World.cell?, hgd]
        exact hj) (by rw [hml, hs]; omega) (fun v hv => h1 v (by rw [hmv2] at hv; exact List.mem_of_mem_drop hv))
    rw [this, hB]
    congr 2
    simp only [Nat.min_def]; split <;> omega
  have hBs : B.size = cur.size := by rw [hB]; simp [hml, hs]; omega
  have hgB : (w.drew.setRow g B).heap[g]? = some (.cells B 51 (0, 0)) := setRow_heap _ _ _ _ _ _ hgd
  obtain ⟨A, hA⟩ : ∃ A, A = (B.toList.take (i * 5) ++ us ++ B.toList.drop (i * 5 + us.length)).toArray := ⟨_, rfl⟩
  have hcp2 : ∀ ty dc, (Builtin.copy_ #[48, 48] ty #[.slice (some ⟨g, i * 5, none⟩) (n + m - i) dc, .slice (some ⟨gv, 0, none⟩) m vc]).run Tryz.prog (w.drew.setRow g B) = .ok (goInt m) (w.drew.setRow g A) := fun ty dc => by
    have := run_copy_rowK (P := Tryz.prog) (w.drew.setRow g B) 48 48 ty 51 5 g (i * 5) (n + m - i) dc ⟨gv, 0, none⟩ m vc B 51 us Tryz.underlying48 hsz hgB (by rw [hul2]; simp only [Nat.min_def]; split <;> omega)
      (fun j v hj => by
        have hj2 := (List.getElem?_eq_some_iff.1 hj).1
        rw [hul, List.getElem?_take_of_lt (by omega), Array.getElem?_toList] at hj
        rw [Addr.add_lit, Nat.zero_add]
        have e : (w.drew.setRow g B).heap[gv]? = some (.cells curv Tv (0, 0)) := by rw [setRow_other _ _ _ _ hne]; exact hgv
        simp only [World.cell?, e]
        exact hj) (by rw [hul2, hBs, hs]; omega) h1u
    rw [this, hA, setRow_setRow]
    congr 2
    simp only [Nat.min_def]; split <;> omega
  have kA : Hid (A.size = cur.size ∧ A.toList.take ((n + m) * 5) = (cur.toList.take (n * 5)).take (i * 5) ++ us ++ mv) := by
    have e1 : B.toList.take (i * 5) = (cur.toList.take (n * 5)).take (i * 5) := by
      rw [hB]; simp only [List.toList_toArray, List.append_assoc]
      rw [List.take_append_of_le_length (by simp [hs]; omega), List.take_take, List.take_take]
      congr 1; omega
    have e2 : (B.toList.drop (i * 5 + us.length)).take mv.length = mv := by
      rw [hB]; simp only [List.toList_toArray, List.append_assoc]
      rw [List.drop_append, List.drop_eq_nil_of_le (by simp [hul2, hs]; omega), List.nil_append, List.length_take, show i * 5 + us.length - min ((i + m) * 5) cur.toList.length = 0 by simp [hul2, hs]; omega, List.drop_zero, List.take_append_of_le_length (Nat.le_refl _), List.take_of_length_le (Nat.le_refl _)]
    refine ⟨by rw [hA]; simp [hul2, hBs, hs]; omega, ?_⟩
    rw [hA]; simp only [List.toList_toArray]
    rw [List.take_append, List.take_of_length_le (by simp [hul2, hBs, hs]; omega), e1]
    congr 1
    rw [show (n + m) * 5 - (List.take (i * 5) (List.take (n * 5) cur.toList) ++ us).length = mv.length by simp [hul2, hml, hs]; omega]
    exact e2
  rw [hmv2] at kA
  have hnc : n ≤ c := by omega
  have hic : i ≤ c := by omega
  have hz1 : ¬ ((m : Int) = 0) := by omega
  have hz2 : ¬ ((i : Int) = (n : Int)) := by omega
  have mixed : Tryz.prog.follows .mixedOrders = true := by kernel_rfl
  have hw1 : IntKind.i64.wrap ((i : Int) + (m : Int)) = (i : Int) + (m : Int) := by rw [IntKind.wrap_i64]; omega
  have hb1 : (0 : Int) ≤ (i : Int) + (m : Int) := by omega
  have hin : i ≤ n := by omega
  have htn : ((i : Int) + (m : Int)).toNat = i + m := by omega
  have hb2 : ¬ (c = i + m) := by omega
  have hb3 : (i : Int) ≤ (n : Int) + (m : Int) := by omega
  have hb4 : ¬ (c = i) := by omega
  clear hB hBs hgB hA hmv2 hml hgd hg hgv hul hul2 h1 h1u hsz hs hmv
  go_enter Tryz.func84, Tryz.ntmps84
  go_wp2_with (simp only [hov])
  go_region_law_o (refine step_copy_runI rfl _ _ 48 48 rfl _ _ (by simp [Act.eval, Act.put]) (by simp [Act.eval, Act.put]) (hcp1 _ _ _) ?_)
  go_wp2_with (at_builtin; refine wpList_copy_runI _ rfl _ _ 48 48 rfl _ _ rfl rfl (hcp2 _ _) ?_)
  go_ret
  exact ⟨rfl, A, rfl, kA.out.1, kA.out.2⟩
set_option maxRecDepth 1000000 in
theorem InsGrow84 (w : World) (g n c i : Nat) (cur : Array Value) (hg : w.heap[g]? = some (.cells cur 51 (0, 0))) (hs : cur.size = c * 5) (hnc : n ≤ c) (hi : i < n)
    (gv m vc : Nat) (curv : Array Value) (Tv : TypeId) (hgv : w.heap[gv]? = some (.cells curv Tv (0, 0))) (hmv : m * 5 ≤ curv.size) (us : List Value) (hul : us = curv.toList.take (m * 5)) (h1u : ∀ v ∈ us, v.oneCell' = true) (hm : 0 < m) (hroom : c < n + m)
    (hbig : (n + m) * 80 ≤ 140737488355328) (h1 : ∀ v ∈ cur.toList.take (n * 5), v.oneCell' = true) :
    Calls Tryz.prog 84 #[.slice (some ⟨g, 0, none⟩) n c, .int .i64 i, .slice (some ⟨gv, 0, none⟩) m vc] w fun e w' => ∃ C A, e = .returned (.slice (some ⟨w.heap.size, 0, none⟩) (n + m) C) ∧ n + m ≤ C ∧ C ≤ maxLen ∧
      w'.heap[w.heap.size]? = some (.cells A 51 (0, 0)) ∧ A.size = C * 5 ∧ A.toList.take ((n + m) * 5) = (cur.toList.take (n * 5)).take (i * 5) ++ us ++ (cur.toList.take (n * 5)).drop (i * 5) ∧ w.grownBy w' none := by
  obtain ⟨i0, hi0⟩ := Option.isSome_iff_exists.1 (show (Tryz.prog.info? 51).isSome = true by kernel_rfl)
  have hz0 : i0.size = 5 := by
    have : (Tryz.prog.info? 51).map (·.size) = some 5 := by kernel_rfl
    rw [hi0] at this; simpa using this
  have hz1 : i0.bytes = 80 := by
    have : (Tryz.prog.info? 51).map (·.bytes) = some 80 := by kernel_rfl
    rw [hi0] at this; simpa using this
  have hz2 : i0.zero = some (.agg #[.int .i64 0, .int .i64 0, .string ByteArray.empty, .slice none 0 0, .slice none 0 0]) := by
    have : (Tryz.prog.info? 51).bind (·.zero) = some (.agg #[.int .i64 0, .int .i64 0, .string ByteArray.empty, .slice none 0 0, .slice none 0 0]) := by kernel_rfl
    rw [hi0] at this; simpa using this
  obtain ⟨G, N, W1, R1, W2, A, hNN, hGn, hGm, hrz, hcp1, hW2', hcp2, kA⟩ := insGrow84 48 51 3 _ i0 Tryz.underlying48 Tryz.underlying3 hi0 hz2 hz0 hz1 rfl w g n c i cur hg hs hnc hi gv m vc curv Tv hgv hmv us hul h1u hm hroom hbig h1
  have hic : i ≤ c := by omega
  have hz3 : ¬ ((m : Int) = 0) := by omega
  have hz4 : ¬ ((i : Int) = (n : Int)) := by omega
  have hz5 : (c : Int) < (n : Int) + (m : Int) := by omega
  have mixed : Tryz.prog.follows .mixedOrders = true := by kernel_rfl
  have hG63 : G ≤ 9223372036854775807 := by unfold maxLen at hGm; omega
  have hw1 : IntKind.i64.wrap ((n : Int) + (m : Int)) = (n : Int) + (m : Int) := by rw [IntKind.wrap_i64]; omega
  have hw2 : IntKind.i64.wrap ((n : Int) + (m : Int) - (i : Int)) = (n : Int) + (m : Int) - (i : Int) := by rw [IntKind.wrap_i64]; omega
  have hw3 : IntKind.i64.wrap ((i : Int) + (m : Int)) = (i : Int) + (m : Int) := by rw [IntKind.wrap_i64]; omega
  have hb1 : (0 : Int) ≤ (i : Int) + (m : Int) := by omega
  have htn : ((i : Int) + (m : Int)).toNat = i + m := by omega
  have hGi : ¬ (G = i) := by omega
  have hGim : ¬ (G = i + m) := by omega
  have hb3 : (i : Int) ≤ (n : Int) + (m : Int) := by omega
  have hb4 : ¬ (c = i) := by omega
  have hinm : i ≤ n + m := by omega
  have himn : i + m ≤ n + m := by omega
  have hin : i ≤ n := by omega
  clear hul h1 h1u hg hgv hs hmv hz0 hz1 hz2 hi0 hbig
  go_enter Tryz.func84, Tryz.ntmps84
  go_wp2_with (at_builtin; refine Lib.wpList_append_run _ rfl _ _ 48 3 rfl _ _ rfl rfl _ _ (hrz _) ?_)
  go_region_law_o (simp only [hW2']; refine step_copy_runI rfl _ _ 48 48 rfl _ _ (by simp [Act.eval, Act.put]) (by simp [Act.eval, Act.put]) (hcp2 _ _ _) ?_)
  go_wp2_with fail
  go_ret
  exact ⟨G, A, by rw [hNN.out]; rfl, kA.out⟩
theorem insM84 : InsM Tryz.prog 84 51 5 80 := by
  intro w S n vals U m us i hS hU hdis hi h1 h1u hb
  have hvl := hS.1
  by_cases hm : m = 0
  · subst hm
    have hus : us = [] := by have := hU.1; rw [Nat.zero_mul] at this; exact List.eq_nil_of_length_eq_zero this
    subst hus
    refine (InsNone84 w S n i vals hS U [] hU hi).mono ?_
    rintro e w' ⟨rfl, rfl⟩
    refine ⟨S, rfl, by rw [List.append_nil, List.take_append_drop]; exact hS, ⟨rfl, rfl, rfl, Nat.le_refl _, fun _ _ _ => rfl⟩, fun b hb => ⟨.inr hb, own_low hS b hb⟩⟩
  · rcases hU.2 with ⟨rfl, h0⟩ | ⟨gv, vc, curv, rfl, -, hgv, hmc, hcm, hcs, htake⟩
    · exact absurd h0 hm
    · by_cases hin : i = n
      · subst hin
        rw [List.take_of_length_le (by omega), List.drop_eq_nil_of_le (by omega), List.append_nil]
        exact InsEnd84 w S i vals hS gv m vc us hU.1 (fun j u h => by have := hU.cells (g := gv) rfl j u h; rwa [Addr.add_lit, Nat.zero_add] at this) h1u (by omega) hb
      · rcases hS.2 with ⟨rfl, h0⟩ | ⟨g, c, cur, rfl, -, hg, hnc, hcm', hcs', htake'⟩
        · omega
        · have hne : gv ≠ g := fun e => by subst e; have := hdis gv (by simp [own1]); simp [own1] at this
          have hmv : m * 5 ≤ curv.size := by rw [hcs]; exact Nat.mul_le_mul_right _ hmc
          by_cases hroom : n + m ≤ c
          · refine (InsShift84 w g n c i cur hg hcs' (by unfold maxLen at hcm'; omega) (by omega) gv m vc curv 51 hgv hmv hne us htake.symm h1u (by omega) hroom (by rw [htake']; exact h1)).mono ?_
            rintro e w' ⟨rfl, A, rfl, hA, ht⟩
            rw [htake'] at ht
            have hgd : w.drew.heap[g]? = some (.cells cur 51 (0, 0)) := hg
            have hA2 := setRow_heap w.drew g cur A _ _ hgd
            refine ⟨_, rfl, ⟨by rw [← ht]; simp [hA, hcs']; omega, .inr ⟨g, c, A, rfl, Nat.zero_le _, hA2, hroom, hcm', by rw [hA, hcs'], ht⟩⟩, ⟨rfl, rfl, rfl, drow_size w g A, fun b _ hn => ?_⟩, fun b hb => ⟨.inr hb, ?_⟩⟩
            · rw [setRow_other _ _ _ _ (fun e => hn (by subst e; simp [own1]))]; rfl
            · have : g = b := by simp only [own1] at hb; exact Classical.byContradiction fun h => hb (if_neg h)
              subst this
              exact (Array.getElem?_eq_some_iff.1 hA2).1
          · refine (InsGrow84 w g n c i cur hg hcs' hnc (by omega) gv m vc curv 51 hgv hmv us htake.symm h1u (by omega) (by omega) hb (by rw [htake']; exact h1)).mono ?_
            rintro e w' ⟨C, A, rfl, hC, hCm, hN, hA, ht, hgr⟩
            rw [htake'] at ht
            refine ⟨_, rfl, ⟨by rw [← ht]; simp [hA]; omega, .inr ⟨_, C, A, rfl, Nat.zero_le _, hN, hC, hCm, hA, ht⟩⟩, ⟨hgr.os, hgr.tape, hgr.output, hgr.size, fun b hb _ => hgr.block b hb (by simp)⟩, fun b hb => ?_⟩
            have : w.heap.size = b := by simp only [own1] at hb; exact Classical.byContradiction fun h => hb (if_neg h)
            subst this
            exact ⟨.inl (Nat.le_refl _), (Array.getElem?_eq_some_iff.1 hN).1⟩
end Go.Proofs
namespace Go.Pi
open Go.Proofs
theorem slices_Insert_Json.ok (n : Nat) (_ : CxOk E (cx n slices_Insert_Json.d.nt)) (_ : KPar (cx n slices_Insert_Json.d.nt)) : slices_Insert_Json.d.Ok E (slices_Insert_Json.F (n + 1)) := fun _ _ h => nIns_ok (t := .iJson) (m1 := .d) (m2 := .d) (by decide) (by decide) insM84 h
end Go.Pi
end
section
set_option linter.unusedVariables false
set_option maxRecDepth 100000
namespace Go.Pi
open Go.Proofs
theorem kpar (n nt : Nat) : KPar (cx n nt) := KH_par (l := KL n) ⟨FD.kp, FD.kp, FD.kp, FD.kp, FD.kp, FD.kp, FD.kp, FD.kp, FD.kp, FD.kp, FD.kp, FD.kp, FD.kp, FD.kp, FD.kp, FD.kp, FD.kp, FD.kp, FD.kp, FD.kp, FD.kp, FD.kp, FD.kp, FD.kp, FD.kp, FD.kp, FD.kp, FD.kp, FD.kp, FD.kp, FD.kp, FD.kp, FD.kp, FD.kp, FD.kp, FD.kp, FD.kp, FD.kp, FD.kp, FD.kp, FD.kp, FD.kp, FD.kp, FD.kp, FD.kp, FD.kp, FD.kp, FD.kp, FD.kp, FD.kp, FD.kp, FD.kp, FD.kp, FD.kp, FD.kp, FD.kp, FD.kp, FD.kp, FD.kp, FD.kp, FD.kp, FD.kp, FD.kp, FD.kp, FD.kp, FD.kp, FD.kp, FD.kp, FD.kp, FD.kp, FD.kp, FD.kp, FD.kp, FD.kp, FD.kp, FD.kp, FD.kp, FD.kp, FD.kp, FD.kp, FD.kp, FD.kp, FD.kp, FD.kp, FD.kp, trivial⟩
structure AllOk (n : Nat) : Prop where
  h0 : laws_szCondS.d.Ok E (laws_szCondS.F n)
  h1 : laws_szIntS.d.Ok E (laws_szIntS.F n)
  h2 : laws_szQuery.d.Ok E (laws_szQuery.F n)
  h3 : laws_szRow.d.Ok E (laws_szRow.F n)
  h4 : laws_szRowS.d.Ok E (laws_szRowS.F n)
  h5 : laws_szKidS.d.Ok E (laws_szKidS.F n)
  h6 : laws_szView.d.Ok E (laws_szView.F n)
  h7 : laws_szSess.d.Ok E (laws_szSess.F n)
  h8 : laws_toCond.d.Ok E (laws_toCond.F n)
  h9 : laws_toCondS.d.Ok E (laws_toCondS.F n)
  h10 : laws_toIntS.d.Ok E (laws_toIntS.F n)
  h11 : laws_toQuery.d.Ok E (laws_toQuery.F n)
  h12 : laws_toRow.d.Ok E (laws_toRow.F n)
  h13 : laws_toRowS.d.Ok E (laws_toRowS.F n)
  h14 : laws_toKid.d.Ok E (laws_toKid.F n)
  h15 : laws_toKidS.d.Ok E (laws_toKidS.F n)
  h16 : laws_toView.d.Ok E (laws_toView.F n)
  h17 : laws_toSess.d.Ok E (laws_toSess.F n)
  h18 : spec_KidsIn.d.Ok E (spec_KidsIn.F n)
  h19 : spec_l13Counts.d.Ok E (spec_l13Counts.F n)
  h20 : spec_l1Min.d.Ok E (spec_l1Min.F n)
  h21 : spec_l1Max.d.Ok E (spec_l1Max.F n)
  h22 : spec_l11First.d.Ok E (spec_l11First.F n)
  h23 : spec_l2Digits.d.Ok E (spec_l2Digits.F n)
  h24 : spec_l1In.d.Ok E (spec_l1In.F n)
  h25 : spec_l9Cell.d.Ok E (spec_l9Cell.F n)
  h26 : spec_l11Num.d.Ok E (spec_l11Num.F n)
  h27 : spec_l1Put.d.Ok E (spec_l1Put.F n)
  h28 : spec_l11Row.d.Ok E (spec_l11Row.F n)
  h29 : spec_l1Text.d.Ok E (spec_l1Text.F n)
  h30 : spec_l1Names.d.Ok E (spec_l1Names.F n)
  h31 : spec_l1Great.d.Ok E (spec_l1Great.F n)
  h32 : spec_JsonOk.d.Ok E (spec_JsonOk.F n)
  h33 : spec_l11Right.d.Ok E (spec_l11Right.F n)
  h34 : spec_DocOf.d.Ok E (spec_DocOf.F n)
  h35 : spec_ViewDoc.d.Ok E (spec_ViewDoc.F n)
  h36 : spec_l1Same.d.Ok E (spec_l1Same.F n)
  h37 : spec_JsonSame.d.Ok E (spec_JsonSame.F n)
  h38 : spec_SessDue.d.Ok E (spec_SessDue.F n)
  h39 : impl_KidsIn.d.Ok E (impl_KidsIn.F n)
  h40 : impl_kidsOfRows.d.Ok E (impl_kidsOfRows.F n)
  h41 : impl_firstOf.d.Ok E (impl_firstOf.F n)
  h42 : slices_Index_int.d.Ok E (slices_Index_int.F n)
  h43 : slices_Contains_int.d.Ok E (slices_Contains_int.F n)
  h44 : strconv_Itoa.d.Ok E (strconv_Itoa.F n)
  h45 : impl_digits.d.Ok E (impl_digits.F n)
  h46 : impl_within.d.Ok E (impl_within.F n)
  h47 : impl_cellOf.d.Ok E (impl_cellOf.F n)
  h48 : cmp_isNaN_string_.d.Ok E (cmp_isNaN_string_.F n)
  h49 : cmp_Less_string_.d.Ok E (cmp_Less_string_.F n)
  h50 : slices_isNaN_string.d.Ok E (slices_isNaN_string.F n)
  h51 : slices_BinarySearch_string.d.Ok E (slices_BinarySearch_string.F n)
  h52 : slices_Insert_string.d.Ok E (slices_Insert_string.F n)
  h53 : slices_Insert_Json.d.Ok E (slices_Insert_Json.F n)
  h54 : impl_objOf.d.Ok E (impl_objOf.F n)
  h55 : impl_isNum.d.Ok E (impl_isNum.F n)
  h56 : impl_textOk.d.Ok E (impl_textOk.F n)
  h57 : impl_namesOk.d.Ok E (impl_namesOk.F n)
  h58 : impl_ownOk.d.Ok E (impl_ownOk.F n)
  h59 : impl_sizeIn.d.Ok E (impl_sizeIn.F n)
  h60 : impl_JsonOk.d.Ok E (impl_JsonOk.F n)
  h61 : impl_orNull.d.Ok E (impl_orNull.F n)
  h62 : impl_RowDoc.d.Ok E (impl_RowDoc.F n)
  h63 : impl_rowDocs.d.Ok E (impl_rowDocs.F n)
  h64 : impl_DocOf_f1.d.Ok E (impl_DocOf_f1.F n)
  h65 : slices_IndexFunc_Json_impl_DocOf_f1.d.Ok E (slices_IndexFunc_Json_impl_DocOf_f1.F n)
  h66 : slices_ContainsFunc_Json_impl_DocOf_f1.d.Ok E (slices_ContainsFunc_Json_impl_DocOf_f1.F n)
  h67 : impl_DocOf.d.Ok E (impl_DocOf.F n)
  h68 : impl_ViewDoc.d.Ok E (impl_ViewDoc.F n)
  h69 : slices_Equal_string.d.Ok E (slices_Equal_string.F n)
  h70 : slices_EqualFunc_Json_impl_alike.d.Ok E (slices_EqualFunc_Json_impl_alike.F n)
  h71 : impl_alike.d.Ok E (impl_alike.F n)
  h72 : impl_JsonSame.d.Ok E (impl_JsonSame.F n)
  h73 : impl_SessDue.d.Ok E (impl_SessDue.F n)
  h74 : laws_eqCond.d.Ok E (laws_eqCond.F n)
  h75 : laws_eqCondS.d.Ok E (laws_eqCondS.F n)
  h76 : laws_eqIntS.d.Ok E (laws_eqIntS.F n)
  h77 : laws_eqQuery.d.Ok E (laws_eqQuery.F n)
  h78 : laws_eqRow.d.Ok E (laws_eqRow.F n)
  h79 : laws_eqRowS.d.Ok E (laws_eqRowS.F n)
  h80 : laws_eqKid.d.Ok E (laws_eqKid.F n)
  h81 : laws_eqKidS.d.Ok E (laws_eqKidS.F n)
  h82 : laws_eqView.d.Ok E (laws_eqView.F n)
  h83 : laws_eqSess.d.Ok E (laws_eqSess.F n)
  h84 : laws_FnExactSessDue.d.Ok E (laws_FnExactSessDue.F n)
theorem kok (n nt : Nat) (a : AllOk n) : KOk E (cx n nt) := KH_ok (l := KL n) ⟨FD.kf (d := laws_FnExactSessDue.d) Tryz.func3 (by kernel_rfl) (by kernel_rfl) (by kernel_rfl) a.h84, FD.kf (d := laws_szSess.d) Tryz.func4 (by kernel_rfl) (by kernel_rfl) (by kernel_rfl) a.h7, FD.kf (d := spec_SessDue.d) Tryz.func5 (by kernel_rfl) (by kernel_rfl) (by kernel_rfl) a.h38, FD.kf (d := laws_toSess.d) Tryz.func6 (by kernel_rfl) (by kernel_rfl) (by kernel_rfl) a.h17, FD.kf (d := impl_SessDue.d) Tryz.func7 (by kernel_rfl) (by kernel_rfl) (by kernel_rfl) a.h73, FD.kf (d := laws_eqSess.d) Tryz.func8 (by kernel_rfl) (by kernel_rfl) (by kernel_rfl) a.h83, FD.kf (d := laws_szView.d) Tryz.func9 (by kernel_rfl) (by kernel_rfl) (by kernel_rfl) a.h6, FD.kf (d := spec_JsonSame.d) Tryz.func10 (by kernel_rfl) (by kernel_rfl) (by kernel_rfl) a.h37, FD.kf (d := spec_ViewDoc.d) Tryz.func11 (by kernel_rfl) (by kernel_rfl) (by kernel_rfl) a.h35, FD.kf (d := laws_toView.d) Tryz.func12 (by kernel_rfl) (by kernel_rfl) (by kernel_rfl) a.h16, FD.kf (d := impl_JsonSame.d) Tryz.func13 (by kernel_rfl) (by kernel_rfl) (by kernel_rfl) a.h72, FD.kf (d := impl_ViewDoc.d) Tryz.func14 (by kernel_rfl) (by kernel_rfl) (by kernel_rfl) a.h68, FD.kf (d := laws_eqView.d) Tryz.func15 (by kernel_rfl) (by kernel_rfl) (by kernel_rfl) a.h82, FD.kf (d := laws_szQuery.d) Tryz.func16 (by kernel_rfl) (by kernel_rfl) (by kernel_rfl) a.h2, FD.kf (d := laws_szRowS.d) Tryz.func17 (by kernel_rfl) (by kernel_rfl) (by kernel_rfl) a.h4, FD.kf (d := laws_szKidS.d) Tryz.func18 (by kernel_rfl) (by kernel_rfl) (by kernel_rfl) a.h5, FD.kf (d := spec_JsonOk.d) Tryz.func19 (by kernel_rfl) (by kernel_rfl) (by kernel_rfl) a.h32, FD.kf (d := spec_l1Same.d) Tryz.func20 (by kernel_rfl) (by kernel_rfl) (by kernel_rfl) a.h36, FD.kf (d := spec_DocOf.d) Tryz.func21 (by kernel_rfl) (by kernel_rfl) (by kernel_rfl) a.h34, FD.kf (d := spec_l13Counts.d) Tryz.func22 (by kernel_rfl) (by kernel_rfl) (by kernel_rfl) a.h19, FD.kf (d := laws_toQuery.d) Tryz.func23 (by kernel_rfl) (by kernel_rfl) (by kernel_rfl) a.h11, FD.kf (d := laws_toRowS.d) Tryz.func24 (by kernel_rfl) (by kernel_rfl) (by kernel_rfl) a.h13, FD.kf (d := laws_toKidS.d) Tryz.func25 (by kernel_rfl) (by kernel_rfl) (by kernel_rfl) a.h15, FD.kf (d := impl_JsonOk.d) Tryz.func26 (by kernel_rfl) (by kernel_rfl) (by kernel_rfl) a.h60, FD.kf (d := impl_alike.d) Tryz.func27 (by kernel_rfl) (by kernel_rfl) (by kernel_rfl) a.h71, FD.kf (d := impl_DocOf.d) Tryz.func28 (by kernel_rfl) (by kernel_rfl) (by kernel_rfl) a.h67, FD.kf (d := impl_kidsOfRows.d) Tryz.func29 (by kernel_rfl) (by kernel_rfl) (by kernel_rfl) a.h40, FD.kf (d := laws_eqQuery.d) Tryz.func30 (by kernel_rfl) (by kernel_rfl) (by kernel_rfl) a.h77, FD.kf (d := laws_eqRowS.d) Tryz.func31 (by kernel_rfl) (by kernel_rfl) (by kernel_rfl) a.h79, FD.kf (d := laws_eqKidS.d) Tryz.func32 (by kernel_rfl) (by kernel_rfl) (by kernel_rfl) a.h81, FD.kf (d := laws_szCondS.d) Tryz.func33 (by kernel_rfl) (by kernel_rfl) (by kernel_rfl) a.h0, FD.kf (d := laws_szIntS.d) Tryz.func34 (by kernel_rfl) (by kernel_rfl) (by kernel_rfl) a.h1, FD.kf (d := laws_szRow.d) Tryz.func35 (by kernel_rfl) (by kernel_rfl) (by kernel_rfl) a.h3, FD.kf (d := spec_l1Great.d) Tryz.func36 (by kernel_rfl) (by kernel_rfl) (by kernel_rfl) a.h31, FD.kf (d := spec_l11First.d) Tryz.func37 (by kernel_rfl) (by kernel_rfl) (by kernel_rfl) a.h22, FD.kf (d := spec_l11Row.d) Tryz.func38 (by kernel_rfl) (by kernel_rfl) (by kernel_rfl) a.h28, FD.kf (d := spec_l11Right.d) Tryz.func39 (by kernel_rfl) (by kernel_rfl) (by kernel_rfl) a.h33, FD.kf (d := spec_l11Num.d) Tryz.func40 (by kernel_rfl) (by kernel_rfl) (by kernel_rfl) a.h26, FD.kf (d := spec_KidsIn.d) Tryz.func41 (by kernel_rfl) (by kernel_rfl) (by kernel_rfl) a.h18, FD.kf (d := laws_toCondS.d) Tryz.func42 (by kernel_rfl) (by kernel_rfl) (by kernel_rfl) a.h9, FD.kf (d := laws_toIntS.d) Tryz.func43 (by kernel_rfl) (by kernel_rfl) (by kernel_rfl) a.h10, FD.kf (d := laws_toRow.d) Tryz.func44 (by kernel_rfl) (by kernel_rfl) (by kernel_rfl) a.h12, FD.kf (d := laws_toKid.d) Tryz.func45 (by kernel_rfl) (by kernel_rfl) (by kernel_rfl) a.h14, FD.kf (d := impl_sizeIn.d) Tryz.func46 (by kernel_rfl) (by kernel_rfl) (by kernel_rfl) a.h59, FD.kf (d := slices_Equal_string.d) Tryz.func47 (by kernel_rfl) (by kernel_rfl) (by kernel_rfl) a.h69, FD.kf (d := slices_EqualFunc_Json_impl_alike.d) Tryz.func48 (by kernel_rfl) (by kernel_rfl) (by kernel_rfl) a.h70, FD.kf (d := impl_rowDocs.d) Tryz.func49 (by kernel_rfl) (by kernel_rfl) (by kernel_rfl) a.h63, FD.kf (d := slices_ContainsFunc_Json_impl_DocOf_f1.d) Tryz.func50 (by kernel_rfl) (by kernel_rfl) (by kernel_rfl) a.h66, FD.kf (d := impl_DocOf_f1.d) Tryz.func51 (by kernel_rfl) (by kernel_rfl) (by kernel_rfl) a.h64, FD.kf (d := impl_orNull.d) Tryz.func52 (by kernel_rfl) (by kernel_rfl) (by kernel_rfl) a.h61, FD.kf (d := impl_KidsIn.d) Tryz.func53 (by kernel_rfl) (by kernel_rfl) (by kernel_rfl) a.h39, FD.kf (d := laws_eqCondS.d) Tryz.func54 (by kernel_rfl) (by kernel_rfl) (by kernel_rfl) a.h75, FD.kf (d := laws_eqIntS.d) Tryz.func55 (by kernel_rfl) (by kernel_rfl) (by kernel_rfl) a.h76, FD.kf (d := laws_eqRow.d) Tryz.func56 (by kernel_rfl) (by kernel_rfl) (by kernel_rfl) a.h78, FD.kf (d := laws_eqKid.d) Tryz.func57 (by kernel_rfl) (by kernel_rfl) (by kernel_rfl) a.h80, FD.kf (d := spec_l1In.d) Tryz.func58 (by kernel_rfl) (by kernel_rfl) (by kernel_rfl) a.h24, FD.kf (d := spec_l1Text.d) Tryz.func59 (by kernel_rfl) (by kernel_rfl) (by kernel_rfl) a.h29, FD.kf (d := spec_l1Names.d) Tryz.func60 (by kernel_rfl) (by kernel_rfl) (by kernel_rfl) a.h30, FD.kf (d := spec_l1Max.d) Tryz.func61 (by kernel_rfl) (by kernel_rfl) (by kernel_rfl) a.h21, FD.kf (d := spec_l1Min.d) Tryz.func62 (by kernel_rfl) (by kernel_rfl) (by kernel_rfl) a.h20, FD.kf (d := spec_l1Put.d) Tryz.func63 (by kernel_rfl) (by kernel_rfl) (by kernel_rfl) a.h27, FD.kf (d := spec_l2Digits.d) Tryz.func64 (by kernel_rfl) (by kernel_rfl) (by kernel_rfl) a.h23, FD.kf (d := spec_l9Cell.d) Tryz.func65 (by kernel_rfl) (by kernel_rfl) (by kernel_rfl) a.h25, FD.kf (d := laws_toCond.d) Tryz.func66 (by kernel_rfl) (by kernel_rfl) (by kernel_rfl) a.h8, FD.kf (d := impl_ownOk.d) Tryz.func67 (by kernel_rfl) (by kernel_rfl) (by kernel_rfl) a.h58, FD.kf (d := impl_firstOf.d) Tryz.func68 (by kernel_rfl) (by kernel_rfl) (by kernel_rfl) a.h41, FD.kf (d := impl_RowDoc.d) Tryz.func69 (by kernel_rfl) (by kernel_rfl) (by kernel_rfl) a.h62, FD.kf (d := slices_IndexFunc_Json_impl_DocOf_f1.d) Tryz.func70 (by kernel_rfl) (by kernel_rfl) (by kernel_rfl) a.h65, FD.kf (d := laws_eqCond.d) Tryz.func71 (by kernel_rfl) (by kernel_rfl) (by kernel_rfl) a.h74, FD.kf (d := impl_within.d) Tryz.func72 (by kernel_rfl) (by kernel_rfl) (by kernel_rfl) a.h46, FD.kf (d := impl_isNum.d) Tryz.func73 (by kernel_rfl) (by kernel_rfl) (by kernel_rfl) a.h55, FD.kf (d := impl_textOk.d) Tryz.func74 (by kernel_rfl) (by kernel_rfl) (by kernel_rfl) a.h56, FD.kf (d := impl_namesOk.d) Tryz.func75 (by kernel_rfl) (by kernel_rfl) (by kernel_rfl) a.h57, FD.kf (d := slices_Contains_int.d) Tryz.func76 (by kernel_rfl) (by kernel_rfl) (by kernel_rfl) a.h43, FD.kf (d := impl_digits.d) Tryz.func77 (by kernel_rfl) (by kernel_rfl) (by kernel_rfl) a.h45, FD.kf (d := impl_cellOf.d) Tryz.func78 (by kernel_rfl) (by kernel_rfl) (by kernel_rfl) a.h47, FD.kf (d := impl_objOf.d) Tryz.func79 (by kernel_rfl) (by kernel_rfl) (by kernel_rfl) a.h54, FD.kf (d := slices_Index_int.d) Tryz.func80 (by kernel_rfl) (by kernel_rfl) (by kernel_rfl) a.h42, FD.kf (d := strconv_Itoa.d) Tryz.func81 (by kernel_rfl) (by kernel_rfl) (by kernel_rfl) a.h44, FD.kf (d := slices_BinarySearch_string.d) Tryz.func82 (by kernel_rfl) (by kernel_rfl) (by kernel_rfl) a.h51, FD.kf (d := slices_Insert_string.d) Tryz.func83 (by kernel_rfl) (by kernel_rfl) (by kernel_rfl) a.h52, FD.kf (d := slices_Insert_Json.d) Tryz.func84 (by kernel_rfl) (by kernel_rfl) (by kernel_rfl) a.h53, FD.kf (d := cmp_Less_string_.d) Tryz.func86 (by kernel_rfl) (by kernel_rfl) (by kernel_rfl) a.h49, FD.kf (d := slices_isNaN_string.d) Tryz.func87 (by kernel_rfl) (by kernel_rfl) (by kernel_rfl) a.h50, FD.kf (d := cmp_isNaN_string_.d) Tryz.func93 (by kernel_rfl) (by kernel_rfl) (by kernel_rfl) a.h48, trivial⟩
theorem cxok (n nt : Nat) (a : AllOk n) : CxOk E (cx n nt) := ⟨ttOk, tcOk, u8Ok, kok n nt a⟩
theorem allOk : ∀ n, AllOk n
  | 0 => ⟨fun _ _ h => (by cases h), fun _ _ h => (by cases h), fun _ _ h => (by cases h), fun _ _ h => (by cases h), fun _ _ h => (by cases h), fun _ _ h => (by cases h), fun _ _ h => (by cases h), fun _ _ h => (by cases h), fun _ _ h => (by cases h), fun _ _ h => (by cases h), fun _ _ h => (by cases h), fun _ _ h => (by cases h), fun _ _ h => (by cases h), fun _ _ h => (by cases h), fun _ _ h => (by cases h), fun _ _ h => (by cases h), fun _ _ h => (by cases h), fun _ _ h => (by cases h), fun _ _ h => (by cases h), fun _ _ h => (by cases h), fun _ _ h => (by cases h), fun _ _ h => (by cases h), fun _ _ h => (by cases h), fun _ _ h => (by cases h), fun _ _ h => (by cases h), fun _ _ h => (by cases h), fun _ _ h => (by cases h), fun _ _ h => (by cases h), fun _ _ h => (by cases h), fun _ _ h => (by cases h), fun _ _ h => (by cases h), fun _ _ h => (by cases h), fun _ _ h => (by cases h), fun _ _ h => (by cases h), fun _ _ h => (by cases h), fun _ _ h => (by cases h), fun _ _ h => (by cases h), fun _ _ h => (by cases h), fun _ _ h => (by cases h), fun _ _ h => (by cases h), fun _ _ h => (by cases h), fun _ _ h => (by cases h), fun _ _ h => (by cases h), fun _ _ h => (by cases h), fun _ _ h => (by cases h), fun _ _ h => (by cases h), fun _ _ h => (by cases h), fun _ _ h => (by cases h), fun _ _ h => (by cases h), fun _ _ h => (by cases h), fun _ _ h => (by cases h), fun _ _ h => (by cases h), fun _ _ h => (by cases h), fun _ _ h => (by cases h), fun _ _ h => (by cases h), fun _ _ h => (by cases h), fun _ _ h => (by cases h), fun _ _ h => (by cases h), fun _ _ h => (by cases h), fun _ _ h => (by cases h), fun _ _ h => (by cases h), fun _ _ h => (by cases h), fun _ _ h => (by cases h), fun _ _ h => (by cases h), fun _ _ h => (by cases h), fun _ _ h => (by cases h), fun _ _ h => (by cases h), fun _ _ h => (by cases h), fun _ _ h => (by cases h), fun _ _ h => (by cases h), fun _ _ h => (by cases h), fun _ _ h => (by cases h), fun _ _ h => (by cases h), fun _ _ h => (by cases h), fun _ _ h => (by cases h), fun _ _ h => (by cases h), fun _ _ h => (by cases h), fun _ _ h => (by cases h), fun _ _ h => (by cases h), fun _ _ h => (by cases h), fun _ _ h => (by cases h), fun _ _ h => (by cases h), fun _ _ h => (by cases h), fun _ _ h => (by cases h), fun _ _ h => (by cases h)⟩
  | n + 1 => ⟨laws_szCondS.ok n (cxok n _ (allOk n)) (kpar n _), laws_szIntS.ok n (cxok n _ (allOk n)) (kpar n _), laws_szQuery.ok n (cxok n _ (allOk n)) (kpar n _), laws_szRow.ok n (cxok n _ (allOk n)) (kpar n _), laws_szRowS.ok n (cxok n _ (allOk n)) (kpar n _), laws_szKidS.ok n (cxok n _ (allOk n)) (kpar n _), laws_szView.ok n (cxok n _ (allOk n)) (kpar n _), laws_szSess.ok n (cxok n _ (allOk n)) (kpar n _), laws_toCond.ok n (cxok n _ (allOk n)) (kpar n _), laws_toCondS.ok n (cxok n _ (allOk n)) (kpar n _), laws_toIntS.ok n (cxok n _ (allOk n)) (kpar n _), laws_toQuery.ok n (cxok n _ (allOk n)) (kpar n _), laws_toRow.ok n (cxok n _ (allOk n)) (kpar n _), laws_toRowS.ok n (cxok n _ (allOk n)) (kpar n _), laws_toKid.ok n (cxok n _ (allOk n)) (kpar n _), laws_toKidS.ok n (cxok n _ (allOk n)) (kpar n _), laws_toView.ok n (cxok n _ (allOk n)) (kpar n _), laws_toSess.ok n (cxok n _ (allOk n)) (kpar n _), spec_KidsIn.ok n (cxok n _ (allOk n)) (kpar n _), spec_l13Counts.ok n (cxok n _ (allOk n)) (kpar n _), spec_l1Min.ok n (cxok n _ (allOk n)) (kpar n _), spec_l1Max.ok n (cxok n _ (allOk n)) (kpar n _), spec_l11First.ok n (cxok n _ (allOk n)) (kpar n _), spec_l2Digits.ok n (cxok n _ (allOk n)) (kpar n _), spec_l1In.ok n (cxok n _ (allOk n)) (kpar n _), spec_l9Cell.ok n (cxok n _ (allOk n)) (kpar n _), spec_l11Num.ok n (cxok n _ (allOk n)) (kpar n _), spec_l1Put.ok n (cxok n _ (allOk n)) (kpar n _), spec_l11Row.ok n (cxok n _ (allOk n)) (kpar n _), spec_l1Text.ok n (cxok n _ (allOk n)) (kpar n _), spec_l1Names.ok n (cxok n _ (allOk n)) (kpar n _), spec_l1Great.ok n (cxok n _ (allOk n)) (kpar n _), spec_JsonOk.ok n (cxok n _ (allOk n)) (kpar n _), spec_l11Right.ok n (cxok n _ (allOk n)) (kpar n _), spec_DocOf.ok n (cxok n _ (allOk n)) (kpar n _), spec_ViewDoc.ok n (cxok n _ (allOk n)) (kpar n _), spec_l1Same.ok n (cxok n _ (allOk n)) (kpar n _), spec_JsonSame.ok n (cxok n _ (allOk n)) (kpar n _), spec_SessDue.ok n (cxok n _ (allOk n)) (kpar n _), impl_KidsIn.ok n (cxok n _ (allOk n)) (kpar n _), impl_kidsOfRows.ok n (cxok n _ (allOk n)) (kpar n _), impl_firstOf.ok n (cxok n _ (allOk n)) (kpar n _), slices_Index_int.ok n (cxok n _ (allOk n)) (kpar n _), slices_Contains_int.ok n (cxok n _ (allOk n)) (kpar n _), strconv_Itoa.ok n (cxok n _ (allOk n)) (kpar n _), impl_digits.ok n (cxok n _ (allOk n)) (kpar n _), impl_within.ok n (cxok n _ (allOk n)) (kpar n _), impl_cellOf.ok n (cxok n _ (allOk n)) (kpar n _), cmp_isNaN_string_.ok n (cxok n _ (allOk n)) (kpar n _), cmp_Less_string_.ok n (cxok n _ (allOk n)) (kpar n _), slices_isNaN_string.ok n (cxok n _ (allOk n)) (kpar n _), slices_BinarySearch_string.ok n (cxok n _ (allOk n)) (kpar n _), slices_Insert_string.ok n (cxok n _ (allOk n)) (kpar n _), slices_Insert_Json.ok n (cxok n _ (allOk n)) (kpar n _), impl_objOf.ok n (cxok n _ (allOk n)) (kpar n _), impl_isNum.ok n (cxok n _ (allOk n)) (kpar n _), impl_textOk.ok n (cxok n _ (allOk n)) (kpar n _), impl_namesOk.ok n (cxok n _ (allOk n)) (kpar n _), impl_ownOk.ok n (cxok n _ (allOk n)) (kpar n _), impl_sizeIn.ok n (cxok n _ (allOk n)) (kpar n _), impl_JsonOk.ok n (cxok n _ (allOk n)) (kpar n _), impl_orNull.ok n (cxok n _ (allOk n)) (kpar n _), impl_RowDoc.ok n (cxok n _ (allOk n)) (kpar n _), impl_rowDocs.ok n (cxok n _ (allOk n)) (kpar n _), impl_DocOf_f1.ok n (cxok n _ (allOk n)) (kpar n _), slices_IndexFunc_Json_impl_DocOf_f1.ok n (cxok n _ (allOk n)) (kpar n _), slices_ContainsFunc_Json_impl_DocOf_f1.ok n (cxok n _ (allOk n)) (kpar n _), impl_DocOf.ok n (cxok n _ (allOk n)) (kpar n _), impl_ViewDoc.ok n (cxok n _ (allOk n)) (kpar n _), slices_Equal_string.ok n (cxok n _ (allOk n)) (kpar n _), slices_EqualFunc_Json_impl_alike.ok n (cxok n _ (allOk n)) (kpar n _), impl_alike.ok n (cxok n _ (allOk n)) (kpar n _), impl_JsonSame.ok n (cxok n _ (allOk n)) (kpar n _), impl_SessDue.ok n (cxok n _ (allOk n)) (kpar n _), laws_eqCond.ok n (cxok n _ (allOk n)) (kpar n _), laws_eqCondS.ok n (cxok n _ (allOk n)) (kpar n _), laws_eqIntS.ok n (cxok n _ (allOk n)) (kpar n _), laws_eqQuery.ok n (cxok n _ (allOk n)) (kpar n _), laws_eqRow.ok n (cxok n _ (allOk n)) (kpar n _), laws_eqRowS.ok n (cxok n _ (allOk n)) (kpar n _), laws_eqKid.ok n (cxok n _ (allOk n)) (kpar n _), laws_eqKidS.ok n (cxok n _ (allOk n)) (kpar n _), laws_eqView.ok n (cxok n _ (allOk n)) (kpar n _), laws_eqSess.ok n (cxok n _ (allOk n)) (kpar n _), laws_FnExactSessDue.ok n (cxok n _ (allOk n)) (kpar n _)⟩
end Go.Pi
end
section
set_option linter.unusedVariables false
namespace Go.Pi
/-! ### What a law is handed: data that anybody may read -/
inductive Kd where
  | i (k : IntKind)
  | b
  | s
  | sl (t : TC)
def kdsL (P : Program) (rec_ : TypeId → Option (List Kd)) : List Field → Nat → Option (List Kd)
  | [], _ => some []
  | f :: fs, off => cond (Nat.beq f.offset off) (match rec_ f.type with
    | some ks => cond (Nat.beq (P.cellsOf f.type) ks.length) (match kdsL P rec_ fs (off + ks.length) with
      | some r => some (ks ++ r)
      | none => none) none
    | none => none) none
def kds (P : Program) (code : TypeId → Option TC) : Nat → TypeId → Option (List Kd)
  | 0, _ => none
  | d + 1, T => match P.underlying T with
    | some (.int k) => some [.i k]
    | some .bool => some [.b]
    | some .string => some [.s]
    | some (.slice e) => match code e with
      | some t => some [.sl t]
      | none => none
    | some (.struct fs) => match kdsL P (kds P code d) fs.toList 0 with
      | some ks => cond (Nat.beq (P.cellsOf T) ks.length) (some ks) none
      | none => none
    | _ => none
/-- the lengths and ranges of what is read -/
inductive Good [Coding] : AV → Prop
  | i (k n) : (Lit.int k n).wf = true → Good (.i k n)
  | b (q) : Good (.b q)
  | s (l) : l.length ≤ maxLen → Good (.s l)
  | sl (t xs) : xs.length ≤ maxLen → (∀ x ∈ xs, ∀ c ∈ Coding.enc .v t x, Good c) → Good (.sl .v t xs)
def KindOk : Kd → AV → Prop
  | .i k, a => ∃ n, a = .i k n
  | .b, a => ∃ q, a = .b q
  | .s, a => ∃ l, a = .s l
  | .sl t, a => ∃ xs, a = .sl .v t xs
def Kinded : List Kd → List AV → Prop
  | [], [] => True
  | k :: ks, a :: l => KindOk k a ∧ Kinded ks l
  | _, _ => False
section
variable {H : Type} {enc : TypeId × Value → H} {P : Program} {w : World} {spare : Nat → Bool}
/-- a cell of a kind, whose rows are read with less -/
def CellOk (enc : TypeId × Value → H) (P : Program) (w : World) (spare : Nat → Bool) (eid : TC → TypeId) (F : Nat) : Kd → Value → Prop
  | .i k, v => ∃ n, v = .int k n ∧ (Lit.int k n).wf = true
  | .b, v => ∃ q, v = .bool q
  | .s, v => ∃ s : ByteArray, v = .string s ∧ s.size ≤ maxLen
  | .sl t, v => v = .slice none 0 0 ∨ ∃ (a : Addr) (len cap N : Nat), v = .slice (some a) len cap ∧ len ≤ cap ∧ cap ≤ maxLen ∧ N < F ∧
      ∀ i, i < len → ∃ cs x, w.cells? 0 (a.add (i * P.cellsOf (eid t))) (P.cellsOf (eid t)) = some cs ∧ DataW.trod enc P w 0 spare true N (eid t) cs = some x
def CellsOk (enc : TypeId × Value → H) (P : Program) (w : World) (spare : Nat → Bool) (eid : TC → TypeId) (F : Nat) : List Kd → List Value → Prop
  | [], [] => True
  | k :: ks, v :: vs => CellOk enc P w spare eid F k v ∧ CellsOk enc P w spare eid F ks vs
  | _, _ => False
theorem CellOk.mono {eid : TC → TypeId} {F F' : Nat} (hF : F ≤ F') {k : Kd} {v : Value} (h : CellOk enc P w spare eid F k v) : CellOk enc P w spare eid F' k v := by
  cases k with
  | sl t =>
    rcases h with h | ⟨a, len, cap, N, h1, h2, h3, h4, h5⟩
    · exact .inl h
    · exact .inr ⟨a, len, cap, N, h1, h2, h3, Nat.lt_of_lt_of_le h4 hF, h5⟩
  | _ => exact h
theorem CellsOk.mono {eid : TC → TypeId} {F F' : Nat} (hF : F ≤ F') : ∀ {ks : List Kd} {vs : List Value}, CellsOk enc P w spare eid F ks vs → CellsOk enc P w spare eid F' ks vs
  | [], [], _ => trivial
  | k :: ks, v :: vs, h => ⟨h.1.mono hF, CellsOk.mono hF h.2⟩
  | [], _ :: _, h => h.elim
  | _ :: _, [], h => h.elim
theorem CellsOk.append {eid : TC → TypeId} {F : Nat} : ∀ {ks : List Kd} {vs : List Value} {ks' : List Kd} {vs' : List Value}, CellsOk enc P w spare eid F ks vs → CellsOk enc P w spare eid F ks' vs' → CellsOk enc P w spare eid F (ks ++ ks') (vs ++ vs')
  | [], [], _, _, _, h => h
  | k :: ks, v :: vs, _, _, h, h' => ⟨h.1, CellsOk.append h.2 h'⟩
  | [], _ :: _, _, _, h, _ => h.elim
  | _ :: _, [], _, _, h, _ => h.elim
theorem fields_kds {code : TypeId → Option TC} {eid : TC → TypeId} {n : Nat} {rec_ : TypeId → Option (List Kd)} {cs : List Value} (hrec : ∀ T ks cs x, rec_ T = some ks → DataW.trod enc P w 0 spare true n T cs = some x → CellsOk enc P w spare eid n ks cs) :
    ∀ (fs : List Field) (off : Nat) (ks : List Kd), kdsL P rec_ fs off = some ks → (∀ f ∈ fs, ∃ x, DataW.trod enc P w 0 spare true n f.type ((cs.drop f.offset).take (P.cellsOf f.type)) = some x) → off + ks.length = cs.length → CellsOk enc P w spare eid n ks (cs.drop off)
  | [], off, ks, h, _, hl => by
    simp only [kdsL, Option.some.injEq] at h
    subst h
    rw [List.drop_eq_nil_of_le (by simp at hl; omega)]
    trivial
  | f :: fs, off, ks, h, hx, hl => by
    simp only [kdsL] at h
    obtain ⟨h1, h2⟩ := cond_some h
    have h1 := beq_iff.1 h1
    cases hr : rec_ f.type with
    | none => rw [hr] at h2; cases h2
    | some k1 =>
      rw [hr] at h2
      obtain ⟨h3, h4⟩ := cond_some h2
      have h3 := beq_iff.1 h3
      cases hk : kdsL P rec_ fs (off + k1.length) with
      | none => rw [hk] at h4; cases h4
      | some r =>
        rw [hk] at h4
        simp only [Option.some.injEq] at h4
        subst h4
        obtain ⟨x, hx1⟩ := hx f (List.mem_cons_self ..)
        have h5 := hrec _ _ _ _ hr hx1
        have h6 := fields_kds (code := code) hrec fs (off + k1.length) r hk (fun g hg => hx g (List.mem_cons_of_mem _ hg)) (by simp at hl; omega)
        rw [h1, h3] at h5
        have : cs.drop off = (cs.drop off).take k1.length ++ cs.drop (off + k1.length) := by rw [← List.drop_drop, List.take_append_drop]
        rw [this]
        exact h5.append h6
theorem trod_kds {code : TypeId → Option TC} {eid : TC → TypeId} (hcode : ∀ e t, code e = some t → eid t = e) : ∀ (d F : Nat) (T : TypeId) (ks : List Kd) (cs : List Value) (x : DataW H × List MemPlace), kds P code d T = some ks → DataW.trod enc P w 0 spare true F T cs = some x → CellsOk enc P w spare eid F ks cs
  | 0, F, T, ks, cs, x, hk, h => by cases hk
  | d + 1, F, T, ks, cs, x, hk, h => by
    simp only [kds] at hk
    cases hu : P.underlying T with
    | none => rw [hu] at hk; cases hk
    | some u =>
      rw [hu] at hk
      cases u <;> simp only at hk <;> (try (cases hk; done))
      case bool =>
        cases hk
        obtain ⟨q, rfl, _⟩ := DataW.trod_bool hu h
        exact ⟨⟨q, rfl⟩, trivial⟩
      case int k =>
        cases hk
        obtain ⟨n, rfl, _, hw⟩ := DataW.trod_int hu h
        exact ⟨⟨n, rfl, hw⟩, trivial⟩
      case string =>
        cases hk
        obtain ⟨s, rfl, _, hs⟩ := DataW.trod_string hu h
        exact ⟨⟨s, rfl, hs⟩, trivial⟩
      case slice e =>
        cases hc : code e with
        | none => rw [hc] at hk; cases hk
        | some t =>
          rw [hc] at hk
          cases hk
          have he := hcode e t hc
          rcases DataW.trod_slice hu h with ⟨rfl, _⟩ | ⟨a, len, cap, elems, rest, n, hF, rfl, _, _, hl, hm, hlen, hel, _, _⟩
          · exact ⟨.inl rfl, trivial⟩
          · refine ⟨.inr ⟨a, len, cap, n, rfl, hl, hm, by omega, fun i hi => ?_⟩, trivial⟩
            have h1 := hel i hi
            rw [List.getElem?_eq_getElem (by omega)] at h1
            rw [Option.bind_eq_some_iff] at h1
            obtain ⟨cs, k1, k2⟩ := h1
            exact ⟨cs, _, by rw [he]; exact k1, by rw [he]; exact k2⟩
      case struct fs =>
        obtain ⟨xs, n, hF, _, hcl, hxl, hx⟩ := DataW.trod_struct hu h
        cases hks : kdsL P (kds P code d) fs.toList 0 with
        | none => rw [hks] at hk; cases hk
        | some ks' =>
          rw [hks] at hk
          obtain ⟨h1, h2⟩ := cond_some hk
          have h1 := beq_iff.1 h1
          cases h2
          subst hF
          have := fields_kds (code := code) (eid := eid) (n := n) (cs := cs) (fun T ks cs x k1 k2 => trod_kds hcode d n T ks cs x k1 k2) fs.toList 0 ks hks (fun f hf => by
            obtain ⟨i, hi⟩ := List.getElem?_of_mem hf
            have hi' : fs[i]? = some f := by simpa using hi
            have h3 := hx i f hi'
            have hlt : i < xs.length := by rw [hxl]; exact (Array.getElem?_eq_some_iff.1 hi').1
            rw [List.getElem?_eq_getElem hlt] at h3
            exact ⟨_, h3⟩) (by omega)
          exact (this.mono (Nat.le_succ n))
end
end Go.Pi
end
section
set_option linter.unusedVariables false
namespace Go.Pi
variable [Coding]
open Coding
variable {H : Type} {enc' : TypeId × Value → H} {E : Env} {w : World} {spare : Nat → Bool}
abbrev NoF : Nat → Prop := fun _ => False
omit [Coding] in
theorem sims_kinded : ∀ {ks : List Kd} {l c : List AV}, Kinded ks l → sims .v l c → c = l
  | [], [], [], _, _ => rfl
  | k :: ks, a :: l, b :: c, h, hs => by
    have e := sims_kinded h.2 hs.2
    subst e
    have h1 := h.1
    have h2 := hs.1
    cases k <;> obtain ⟨x, rfl⟩ := h1 <;> simp only [AV.sim] at h2 <;> rw [h2]
  | [], [], _ :: _, _, h => h.elim
  | [], _ :: _, _, h, _ => h.elim
  | _ :: _, [], _, h, _ => h.elim
  | _ :: _, _ :: _, [], _, h => h.elim
/-- what is asked of the table of kinds -/
structure KindsOk (E : Env) (code : TypeId → Option TC) (kinds : TC → List Kd) (d : Nat) : Prop where
  codeOk : ∀ e t, code e = some t → E.eid t = e
  kdsOk : ∀ t, kds E.P code d (E.eid t) = some (kinds t)
  dec : ∀ t l, Kinded (kinds t) l → ∃ y, dec t l = some y
  cells : ∀ t, E.P.cellsOf (E.eid t) = t.width
theorem rows_open [CodingOk] {t : TC} {N : Nat} (hel : ∀ cs x, DataW.trod enc' E.P w 0 spare true N (E.eid t) cs = some x → ∃ y : El t, RL E w NoF (enc .v t y) cs (fun _ => 0) ∧ ∀ c ∈ enc .v t y, Good c) {b o : Nat} (hW : E.P.cellsOf (E.eid t) = t.width) :
    ∀ len, (∀ i, i < len → ∃ cs x, w.cells? 0 ((⟨b, o, none⟩ : Addr).add (i * E.P.cellsOf (E.eid t))) (E.P.cellsOf (E.eid t)) = some cs ∧ DataW.trod enc' E.P w 0 spare true N (E.eid t) cs = some x) →
    ∃ (xs : List (El t)) (vals : List Value), xs.length = len ∧ vals.length = len * t.width ∧ RL E w NoF (encRows .v t xs) vals (fun _ => 0) ∧ w.rangeAt b o vals ∧ ∀ x ∈ xs, ∀ c ∈ enc .v t x, Good c
  | 0, _ => ⟨[], [], rfl, by simp, RL.nil (fun _ => 0) fun _ => rfl, fun j v h => by simp at h, fun x hx => by cases hx⟩
  | len + 1, h => by
    obtain ⟨xs, vals, h1, h2, h3, h4, h5⟩ := rows_open hel hW len fun i hi => h i (by omega)
    obtain ⟨cs, x, k1, k2⟩ := h len (Nat.lt_succ_self _)
    obtain ⟨y, j1, j2⟩ := hel cs x k2
    obtain ⟨_, hl, hc⟩ := World.cells?_some k1
    rw [hW] at hl hc
    refine ⟨xs ++ [y], vals ++ cs, by simp [h1], by rw [List.length_append, h2, hl]; exact (Nat.succ_mul _ _).symm, ?_, fun j v hj => ?_, fun x hx => ?_⟩
    · rw [encRows_append]
      refine RL.append h3 (φ' := fun _ => 0) ?_ (fun b => rfl)
      simpa [encRows] using j1
    · by_cases hlt : j < vals.length
      · rw [List.getElem?_append_left hlt] at hj
        exact h4 j v hj
      · rw [List.getElem?_append_right (by omega)] at hj
        have hjl : j - vals.length < t.width := by rw [← hl]; exact (List.getElem?_eq_some_iff.1 hj).1
        have := hc (j - vals.length) hjl
        rw [Addr.add_mid, Addr.add_mid, hj] at this
        rw [← this]
        congr 2
        omega
    · rcases List.mem_append.1 hx with hx | hx
      · exact h5 x hx
      · rw [List.mem_singleton] at hx; subst hx; exact j2
theorem cell_open [CodingOk] {code : TypeId → Option TC} {kinds : TC → List Kd} {d : Nat} (hk : KindsOk E code kinds d) {F : Nat} (ih : ∀ N, N < F → ∀ t cs x, DataW.trod enc' E.P w 0 spare true N (E.eid t) cs = some x → ∃ y : El t, RL E w NoF (enc .v t y) cs (fun _ => 0) ∧ ∀ c ∈ enc .v t y, Good c) {k : Kd} {v : Value} (h : CellOk enc' E.P w spare E.eid F k v) :
    ∃ a, KindOk k a ∧ RL E w NoF [a] [v] (fun _ => 0) ∧ Good a := by
  cases k with
  | i k => obtain ⟨n, rfl, hw⟩ := h; exact ⟨.i k n, ⟨n, rfl⟩, .scal _ _ _ _ _ rfl (.nil _ fun _ => rfl), .i _ _ hw⟩
  | b => obtain ⟨q, rfl⟩ := h; exact ⟨.b q, ⟨q, rfl⟩, .scal _ _ _ _ _ rfl (.nil _ fun _ => rfl), .b _⟩
  | s =>
    obtain ⟨s, rfl, hs⟩ := h
    refine ⟨.s s.data.toList, ⟨_, rfl⟩, .scal _ _ _ _ _ ?_ (.nil _ fun _ => rfl), .s _ ?_⟩
    · show Value.string s = .string ⟨s.data.toList.toArray⟩
      simp
    · rw [Array.length_toList]; exact hs
  | sl t =>
    rcases h with rfl | ⟨a, len, cap, N, rfl, hl, hm, hN, hel⟩
    · exact ⟨.sl .v t [], ⟨_, rfl⟩, .view t [] none 0 0 [] (fun _ => 0) _ _ _ ⟨rfl, Nat.le_refl _⟩ (.nil _ fun _ => rfl) (fun _ => rfl) (fun hp => by omega) (.nil _ fun _ => rfl), .sl _ _ (Nat.zero_le _) (fun x hx => by cases hx)⟩
    · cases len with
      | zero => exact ⟨.sl .v t [], ⟨_, rfl⟩, .view t [] (some a) 0 cap [] (fun _ => 0) _ _ _ ⟨rfl, hl⟩ (.nil _ fun _ => rfl) (fun _ => rfl) (fun hp => by omega) (.nil _ fun _ => rfl), .sl _ _ (Nat.zero_le _) (fun x hx => by cases hx)⟩
      | succ len =>
        have hW := hk.cells t
        have hpos : 0 < t.width := CodingOk.pos t
        obtain ⟨cs0, x0, k1, _⟩ := hel 0 (Nat.succ_pos _)
        obtain ⟨_, hl0, hc0⟩ := World.cells?_some k1
        have hcell := hc0 0 (by rw [hW]; exact hpos)
        rw [List.getElem?_eq_getElem (by rw [hl0, hW]; exact hpos)] at hcell
        have ha : a.spot = none := by
          have h0 : (a.add (0 * E.P.cellsOf (E.eid t))).add 0 = a := by simp [Addr.add]
          rw [h0] at hcell
          unfold World.cell? at hcell
          split at hcell
          · cases hs : a.spot with
            | none => rfl
            | some q => simp [hs] at hcell
          · cases hcell
        obtain ⟨b, o, sp⟩ := a
        simp only at ha
        subst ha
        have hb : b < w.heap.size := World.cells?_block k1 (by rw [hW]; exact hpos) |> fun h => by simpa [Addr.add] using h
        obtain ⟨xs, vals, e1, e2, e3, e4, e5⟩ := rows_open (ih N hN t) hW (len + 1) hel
        refine ⟨.sl .v t xs, ⟨_, rfl⟩, ?_, .sl _ _ (by omega) e5⟩
        exact .view t xs (some ⟨b, o, none⟩) (len + 1) cap vals (fun _ => 0) _ _ _ ⟨e1.symm, hl⟩ e3 (fun _ => rfl) (fun _ => ⟨b, o, rfl, e4, hb, fun h => h⟩) (.nil _ fun _ => rfl)
theorem cells_open [CodingOk] {code : TypeId → Option TC} {kinds : TC → List Kd} {d : Nat} (hk : KindsOk E code kinds d) {F : Nat} (ih : ∀ N, N < F → ∀ t cs x, DataW.trod enc' E.P w 0 spare true N (E.eid t) cs = some x → ∃ y : El t, RL E w NoF (enc .v t y) cs (fun _ => 0) ∧ ∀ c ∈ enc .v t y, Good c) :
    ∀ {ks : List Kd} {vs : List Value}, CellsOk enc' E.P w spare E.eid F ks vs → ∃ l, Kinded ks l ∧ RL E w NoF l vs (fun _ => 0) ∧ ∀ c ∈ l, Good c
  | [], [], _ => ⟨[], trivial, .nil _ fun _ => rfl, fun c hc => by cases hc⟩
  | k :: ks, v :: vs, h => by
    obtain ⟨a, h1, h2, h3⟩ := cell_open hk ih h.1
    obtain ⟨l, k1, k2, k3⟩ := cells_open hk ih h.2
    refine ⟨a :: l, ⟨h1, k1⟩, RL.cons h2 k2 (fun b => rfl), fun c hc => ?_⟩
    rcases List.mem_cons.1 hc with rfl | hc
    · exact h3
    · exact k3 c hc
  | [], _ :: _, h => h.elim
  | _ :: _, [], h => h.elim
theorem el_open [CodingOk] {code : TypeId → Option TC} {kinds : TC → List Kd} {d : Nat} (hk : KindsOk E code kinds d) : ∀ (F : Nat) (t : TC) (cs : List Value) (x : DataW H × List MemPlace), DataW.trod enc' E.P w 0 spare true F (E.eid t) cs = some x →
    ∃ y : El t, RL E w NoF (enc .v t y) cs (fun _ => 0) ∧ ∀ c ∈ enc .v t y, Good c := by
  intro F
  induction F using Nat.strongRecOn with
  | _ F ih =>
    intro t cs x h
    have h1 := trod_kds hk.codeOk d F _ _ _ _ (hk.kdsOk t) h
    obtain ⟨l, h2, h3, h4⟩ := cells_open hk ih h1
    obtain ⟨y, hy⟩ := hk.dec t l h2
    have h5 := CodingOk.dec .v t l y hy
    have h6 := sims_kinded h2 h5
    exact ⟨y, by rw [h6]; exact h3, by rw [h6]; exact h4⟩
/-- an argument of any of the types -/
theorem arg_open [CodingOk] {code : TypeId → Option TC} {kinds : TC → List Kd} {d : Nat} (hk : KindsOk E code kinds d) {T : TypeId} {ks : List Kd} (hT : kds E.P code d T = some ks) {v : Value} {dd : DataW H} {ps : List MemPlace} (h : DataW.Trod enc' E.P w 0 spare true T v dd ps) :
    ∃ l, Kinded ks l ∧ RL E w NoF l v.cells.toList (fun _ => 0) ∧ ∀ c ∈ l, Good c := by
  obtain ⟨F, hF⟩ := h
  exact cells_open hk (fun N _ => el_open hk N) (trod_kds hk.codeOk d F T ks _ _ hT hF)
end Go.Pi
end
section
set_option linter.unusedVariables false
namespace Go.Pi
open Go.RowKit
variable [Coding]
open Coding
omit [Coding] in
theorem kinded_cons {k : Kd} {ks : List Kd} {l : List AV} (h : Kinded (k :: ks) l) : ∃ a l', l = a :: l' ∧ KindOk k a ∧ Kinded ks l' := by
  cases l with
  | nil => exact h.elim
  | cons a l => exact ⟨a, l, rfl, h.1, h.2⟩
omit [Coding] in
theorem kinded_nil {l : List AV} (h : Kinded [] l) : l = [] := by
  cases l with
  | nil => rfl
  | cons a l => exact h.elim
def codeL (eid : TC → TypeId) : List TC → TypeId → Option TC
  | [], _ => none
  | t :: ts, e => cond (Nat.beq (eid t) e) (some t) (codeL eid ts e)
omit [Coding] in
theorem codeL_ok {eid : TC → TypeId} {e : TypeId} {t : TC} : ∀ ts, codeL eid ts e = some t → eid t = e
  | [], h => by cases h
  | u :: ts, h => by
    simp only [codeL] at h
    cases hb : Nat.beq (eid u) e with
    | true => rw [hb] at h; cases h; exact beq_iff.1 hb
    | false => rw [hb] at h; exact codeL_ok ts h
/-- a law that answers true -/
theorem law_true [CodingOk] {E : Env} {f : FuncId} {avs : List AV} {outs : List AV} {ps : List PS} (h : CallOk E f avs (.b true) outs ps) {w : World} (hgl : Glob E w NoF) {Vs : List Value} (hr : RL E w NoF avs Vs (fun _ => 0)) :
    Calls E.P f Vs.toArray w fun e W' => e = .returned (.bool true) ∧ Below w.heap.size w W' := by
  refine (h w NoF Vs _ hr (fun _ => Nat.zero_le _) (fun b hb => hb.elim) hgl).mono fun e W' ⟨V, φ', he, h1, _, _, e1, e2, e3, e4, e5⟩ => ⟨?_, e1, e2, e3, e4, fun k hk => e5 k hk rfl⟩
  cases h1 with
  | scal a v l vs φ hs _ => rw [he, show V = .bool true from hs]
theorem ag_open {E : Env} {w : World} {l : List AV} {cs : Array Value} (h : RL E w NoF l (Value.agg cs).cells.toList (fun _ => 0)) {l' : List AV} {vs : List Value} (h' : RL E w NoF l' vs (fun _ => 0)) :
    RL E w NoF (.ag l :: l') (.agg cs :: vs) (fun _ => 0) := by
  have := RL.ag (E := E) (w := w) (F := NoF) l cs.toList (fun _ => 0) l' vs (fun _ => 0) (fun _ => 0) h h' (fun b => rfl)
  simpa using this
end Go.Pi
end
section
set_option linter.unusedVariables false
set_option maxRecDepth 100000
namespace Go.Pi
open Go.Proofs Go.Proofs.YtpifpdljphobdaaGreatDoor
open Go.ChangeShapes Go.WideShapes Go.ChangeAt Go.RowKit
def code : TypeId → Option TC := codeL eid [.int, .str, .u8, .lCond, .lRow, .lKid, .iCond, .iRow, .iKid, .iJson]
def kinds : TC → List Kd
  | .int => [.i .i64]
  | .str => [.s]
  | .u8 => [.i .u8]
  | .lCond => [.i .i64, .i .i64, .i .i64]
  | .lRow => [.i .i64, .sl .int]
  | .lKid => [.i .i64, .i .i64]
  | .iCond => [.i .i64, .i .i64, .i .i64]
  | .iRow => [.i .i64, .sl .int]
  | .iKid => [.i .i64, .i .i64]
  | .iJson => [.i .i64, .i .i64, .s, .sl .iJson, .sl .str]
theorem kindsOk : KindsOk E code kinds 12 where
  codeOk := fun e t h => codeL_ok _ h
  kdsOk := by intro t; cases t <;> kernel_rfl
  cells := by intro t; cases t <;> kernel_rfl
  dec := by
    intro t l h
    cases t with
    | int =>
      iterate 1 (replace h := kinded_cons h; obtain ⟨_, _, rfl, ⟨_, rfl⟩, h⟩ := h)
      replace h := kinded_nil h; subst h; exact ⟨_, rfl⟩
    | str =>
      iterate 1 (replace h := kinded_cons h; obtain ⟨_, _, rfl, ⟨_, rfl⟩, h⟩ := h)
      replace h := kinded_nil h; subst h; exact ⟨_, rfl⟩
    | u8 =>
      iterate 1 (replace h := kinded_cons h; obtain ⟨_, _, rfl, ⟨_, rfl⟩, h⟩ := h)
      replace h := kinded_nil h; subst h; exact ⟨_, rfl⟩
    | lCond =>
      iterate 3 (replace h := kinded_cons h; obtain ⟨_, _, rfl, ⟨_, rfl⟩, h⟩ := h)
      replace h := kinded_nil h; subst h; exact ⟨_, rfl⟩
    | lRow =>
      iterate 2 (replace h := kinded_cons h; obtain ⟨_, _, rfl, ⟨_, rfl⟩, h⟩ := h)
      replace h := kinded_nil h; subst h; exact ⟨_, rfl⟩
    | lKid =>
      iterate 2 (replace h := kinded_cons h; obtain ⟨_, _, rfl, ⟨_, rfl⟩, h⟩ := h)
      replace h := kinded_nil h; subst h; exact ⟨_, rfl⟩
    | iCond =>
      iterate 3 (replace h := kinded_cons h; obtain ⟨_, _, rfl, ⟨_, rfl⟩, h⟩ := h)
      replace h := kinded_nil h; subst h; exact ⟨_, rfl⟩
    | iRow =>
      iterate 2 (replace h := kinded_cons h; obtain ⟨_, _, rfl, ⟨_, rfl⟩, h⟩ := h)
      replace h := kinded_nil h; subst h; exact ⟨_, rfl⟩
    | iKid =>
      iterate 2 (replace h := kinded_cons h; obtain ⟨_, _, rfl, ⟨_, rfl⟩, h⟩ := h)
      replace h := kinded_nil h; subst h; exact ⟨_, rfl⟩
    | iJson =>
      iterate 5 (replace h := kinded_cons h; obtain ⟨_, _, rfl, ⟨_, rfl⟩, h⟩ := h)
      replace h := kinded_nil h; subst h; exact ⟨_, rfl⟩
namespace laws_FnExactSessDue
theorem own : ownKnob Tryz.prog.godebug = none := by kernel_rfl
theorem laidOut : laidOutB Tryz.prog = true := by kernel_rfl
def tabOf (d : DataW Unit) : Array Value := match d with
  | .agg l => (l.map fun | .lit (.int k n) => Value.int k n | _ => undef).toArray
  | _ => #[]
def Pure : Prop := ∀ (aX : TSess), (∀ c ∈ ([.i .i64 aX.view.q.table, .sl .v .lCond aX.view.q.where_, .i .i64 aX.view.q.order, .b aX.view.q.down, .i .i64 aX.view.q.first, .sl .v .int aX.view.q.show_, .b aX.view.q.kids, .i .i64 aX.view.q.kidTable, .i .i64 aX.view.q.kidCol, .sl .v .lRow aX.view.rows, .sl .v .lKid aX.view.kids, .i .i64 aX.version, .i .i64 aX.last.q.table, .sl .v .lCond aX.last.q.where_, .i .i64 aX.last.q.order, .b aX.last.q.down, .i .i64 aX.last.q.first, .sl .v .int aX.last.q.show_, .b aX.last.q.kids, .i .i64 aX.last.q.kidTable, .i .i64 aX.last.q.kidCol, .sl .v .lRow aX.last.rows, .sl .v .lKid aX.last.kids, .i .i64 aX.lastVersion, .b aX.began] : List AV), Good c) → ∃ n, Go.Pi.laws_FnExactSessDue n aX = some true
/-- a start that fits: the tables az they are laid -/
noncomputable def laidWorld (os : Os) : World :=
  let w0 := World.holding Tryz.prog os ⟨#[], #[], []⟩
  let put := fun (h : Array Obj) (g : Nat) (cs : Array Value) => h.modify g fun
    | .cells _ t frozen => .cells cs t frozen
    | o => o
  { w0 with heap := put (put (put (w0.heap) 1 (tabOf Rows.laid_math_bits_deBruijn32tab)) 2 (tabOf Rows.laid_math_bits_deBruijn64tab)) 0 (tabOf Rows.laid_internal_strconv_uint64pow10) }
theorem laidWorld_met (os : Os) (args : Array Value) : laidMet Tryz.prog Rows.fnExactSessDueRow.laid ((laidWorld os).forCall (fun _ _ => 0) ⟨#[], args, []⟩).memory :=
  laidMet_of_run' 8 (by kernel_rfl) (by kernel_rfl)
theorem lifted (hp : Pure) (os : Os) (started : os.Started) (H : Type) (enc : TypeId × Value → H) :
    ReturnsInHanded {} Tryz.checked os 3 .any (fun w args => (Rows.fnExactSessDueSpec.pre enc Tryz.prog Tryz.f3 Rows.fnExactSessDueRow.domain false w args ∧ laidMet Tryz.prog Rows.fnExactSessDueRow.laid w) ∧ sizedMet enc Tryz.prog Tryz.f3 (OpenSpec.ofChange Rows.fnExactSessDueSpec) false w args) (Rows.fnExactSessDueSpec.post enc Tryz.prog Tryz.f3 false true false false) := by
  refine returnsInHanded_of_change_and (C := Tryz.checked) (X := fun w _ => laidMet Tryz.prog Rows.fnExactSessDueRow.laid w) (fun _ _ _ hh h => h.of_heap hh) own started (by kernel_rfl) Tryz.func3
    (ChangeSpec.witness_at (enc := enc) (C := Tryz.checked) (os := os) (X := fun w _ => laidMet Tryz.prog Rows.fnExactSessDueRow.laid w) false (laidWorld os) #[.agg #[.int .i64 0, .slice none 0 0, .int .i64 0, .bool false, .int .i64 0, .slice none 0 0, .bool false, .int .i64 0, .int .i64 0, .slice none 0 0, .slice none 0 0, .int .i64 0, .int .i64 0, .slice none 0 0, .int .i64 0, .bool false, .int .i64 0, .slice none 0 0, .bool false, .int .i64 0, .int .i64 0, .slice none 0 0, .slice none 0 0, .int .i64 0, .bool false]] 8 rfl (by kernel_rfl) (by kernel_rfl) (by kernel_rfl) (by kernel_rfl) (by kernel_rfl) (laidWorld_met os _)) ?_
  intro W base args ds gs before hval0 hW hcnd _ hL _
  have hval : ∀ (j : Nat) t v, Tryz.f3.params[j]? = some t → args[j]? = some v → Value.okWide Tryz.prog W .any base t v := hval0
  have hW' := hW
  obtain ⟨p, q, hA0, hV, rfl, hfz, hnd⟩ := hW
  have hA : DataW.TrodAll enc Tryz.prog W 0 (fun _ => true) true Tryz.f3.params.toList args.toList ds p := hA0
  rw [Tryz.params3] at hA hval
  obtain ⟨v0, vs0, d0, ds0, p0, q0, hargs, rfl, rfl, h0, r0⟩ := trodAll_cons hA
  obtain ⟨rfl, rfl, rfl⟩ := trodAll_nil r0
  obtain rfl : args = #[v0] := by cases args; simp_all
  obtain ⟨rfl, rfl⟩ := trodVars_none hV
  obtain ⟨c0, rfl, -⟩ := okWide_struct Tryz.underlying31 (hval 0 31 v0 rfl rfl)
  have lt0 : ∀ x ∈ p0, x.block < W.heap.size := by obtain ⟨m, hm⟩ := h0; exact DataW.trod_lt m _ _ _ hm
  obtain ⟨l0, k0, e0, g0⟩ := arg_open kindsOk (T := 31) (ks := [.i .i64, .sl .lCond, .i .i64, .b, .i .i64, .sl .int, .b, .i .i64, .i .i64, .sl .lRow, .sl .lKid, .i .i64, .i .i64, .sl .lCond, .i .i64, .b, .i .i64, .sl .int, .b, .i .i64, .i .i64, .sl .lRow, .sl .lKid, .i .i64, .b]) (by kernel_rfl) h0
  replace k0 := kinded_cons k0; obtain ⟨_, _, rfl, ⟨z0, rfl⟩, k0⟩ := k0
  replace k0 := kinded_cons k0; obtain ⟨_, _, rfl, ⟨z1, rfl⟩, k0⟩ := k0
  replace k0 := kinded_cons k0; obtain ⟨_, _, rfl, ⟨z2, rfl⟩, k0⟩ := k0
  replace k0 := kinded_cons k0; obtain ⟨_, _, rfl, ⟨z3, rfl⟩, k0⟩ := k0
  replace k0 := kinded_cons k0; obtain ⟨_, _, rfl, ⟨z4, rfl⟩, k0⟩ := k0
  replace k0 := kinded_cons k0; obtain ⟨_, _, rfl, ⟨z5, rfl⟩, k0⟩ := k0
  replace k0 := kinded_cons k0; obtain ⟨_, _, rfl, ⟨z6, rfl⟩, k0⟩ := k0
  replace k0 := kinded_cons k0; obtain ⟨_, _, rfl, ⟨z7, rfl⟩, k0⟩ := k0
  replace k0 := kinded_cons k0; obtain ⟨_, _, rfl, ⟨z8, rfl⟩, k0⟩ := k0
  replace k0 := kinded_cons k0; obtain ⟨_, _, rfl, ⟨z9, rfl⟩, k0⟩ := k0
  replace k0 := kinded_cons k0; obtain ⟨_, _, rfl, ⟨z10, rfl⟩, k0⟩ := k0
  replace k0 := kinded_cons k0; obtain ⟨_, _, rfl, ⟨z11, rfl⟩, k0⟩ := k0
  replace k0 := kinded_cons k0; obtain ⟨_, _, rfl, ⟨z12, rfl⟩, k0⟩ := k0
  replace k0 := kinded_cons k0; obtain ⟨_, _, rfl, ⟨z13, rfl⟩, k0⟩ := k0
  replace k0 := kinded_cons k0; obtain ⟨_, _, rfl, ⟨z14, rfl⟩, k0⟩ := k0
  replace k0 := kinded_cons k0; obtain ⟨_, _, rfl, ⟨z15, rfl⟩, k0⟩ := k0
  replace k0 := kinded_cons k0; obtain ⟨_, _, rfl, ⟨z16, rfl⟩, k0⟩ := k0
  replace k0 := kinded_cons k0; obtain ⟨_, _, rfl, ⟨z17, rfl⟩, k0⟩ := k0
  replace k0 := kinded_cons k0; obtain ⟨_, _, rfl, ⟨z18, rfl⟩, k0⟩ := k0
  replace k0 := kinded_cons k0; obtain ⟨_, _, rfl, ⟨z19, rfl⟩, k0⟩ := k0
  replace k0 := kinded_cons k0; obtain ⟨_, _, rfl, ⟨z20, rfl⟩, k0⟩ := k0
  replace k0 := kinded_cons k0; obtain ⟨_, _, rfl, ⟨z21, rfl⟩, k0⟩ := k0
  replace k0 := kinded_cons k0; obtain ⟨_, _, rfl, ⟨z22, rfl⟩, k0⟩ := k0
  replace k0 := kinded_cons k0; obtain ⟨_, _, rfl, ⟨z23, rfl⟩, k0⟩ := k0
  replace k0 := kinded_cons k0; obtain ⟨_, _, rfl, ⟨z24, rfl⟩, k0⟩ := k0
  replace k0 := kinded_nil k0; subst k0
  have hT : Lib.TabIs Tryz.prog W "internal/strconv.uint64pow10" .u64 Lib.pow10Tab := Lib.tabIs_of_head (t := 131) (e := 122) (n := 20) globNamed (by kernel_rfl) (by kernel_rfl) (by kernel_rfl) (by kernel_rfl) (by kernel_rfl) (show laidMet Tryz.prog ((_, Lib.tabData .u64 Lib.pow10Tab) :: _) W from hL.tail.tail)
  have hgl : Glob E W NoF := fun p hp => by
    rcases List.mem_singleton.1 hp with rfl
    exact ⟨tab_glob hT globNamed, fun h => h.elim⟩
  obtain ⟨n, hn⟩ := hp (TSess.mk (TView.mk (TQuery.mk z0 z1 z2 z3 z4 z5 z6 z7 z8) z9 z10) z11 (TView.mk (TQuery.mk z12 z13 z14 z15 z16 z17 z18 z19 z20) z21 z22) z23 z24) g0
  refine (law_true ((allOk n).h84 ((z0, z1, z2, z3, z4, z5, z6, z7, z8, z9, z10, z11, z12, z13, z14, z15, z16, z17, z18, z19, z20, z21, z22, z23, z24, ()), ()) _ hn) hgl (ag_open e0 (.nil _ fun _ => rfl))).mono fun e W' ⟨he, bel⟩ => ?_
  subst he
  exact ⟨_, rfl, _, _, _, [], _, [], hW', trodAll_mk1 (shut_bool Tryz.underlying4 _), (trodAll_cons_mk (Below.trod laidOut (by kernel_rfl) (of_decide_eq_true (by kernel_rfl)) h0 bel lt0) trodAll_mk0), rfl, bel.frame _, fun h => by cases h⟩
theorem over (hp : Pure) : Rows.fnExactSessDueRow.holds Tryz.pinned (OpenSpec.ofChange Rows.fnExactSessDueSpec) :=
  OpenClaim.holds_of_wide 3 Tryz.f3 rfl rfl rfl rfl rfl rfl rfl ⟨rfl, rfl, rfl, rfl, rfl⟩ rfl rfl rfl rfl rfl (by kernel_rfl) Tryz.func3 (by kernel_rfl)
    (of_decide_eq_true (by kernel_rfl)) (by unfold Func.isWrapper; first | (rw [if_pos (by decide +kernel)]; kernel_rfl) | (rw [if_neg (by decide +kernel)]; exact ⟨rfl, rfl⟩))
    (fun os started H enc _ => lifted hp os started H enc)
end laws_FnExactSessDue
theorem laws_FnExactSessDue.card (hp : laws_FnExactSessDue.Pure) : Rows.FnExactSessDueCardSaid :=
  Claim7.holds_tied_plain_at .later [] [.data, .data, .data] true (true, "5da5858d9d3550809fab09fd394e6e6d9c33cb7b9a01076c03ea35228c0866a1") false
    (laws_FnExactSessDue.over hp) (fun _ h => by cases h) (by kernel_rfl) (fun _ h => by cases h) fnExactSessDue_row_tie rfl ⟨rfl, rfl⟩ (by kernel_rfl) rfl
    (fun f fn hf hfn => by
      obtain rfl : f = 3 := Option.some.inj ((show Tryz.prog.funcNamed "loop.example/g00198/laws.FnExactSessDue" = some 3 by kernel_rfl).symm.trans hf) |>.symm
      obtain rfl : fn = Tryz.f3 := (Option.some.inj (Tryz.func3.symm.trans hfn)).symm
      exact ⟨by kernel_rfl, fun j t ht => by
        rw [Tryz.params3] at ht
        have hm : t ∈ ([31] : List TypeId) := List.mem_of_getElem? (show ([31] : List TypeId)[j]? = some t by simpa using ht)
        have := List.all_eq_true.1 (show ([31] : List TypeId).all (fun t => !Tryz.prog.wantsStandIn t) = true by kernel_rfl) t hm
        exact (by simpa using this : Tryz.prog.wantsStandIn t = false)⟩)
    (by kernel_rfl)
end Go.Pi
end
section
set_option linter.unusedVariables false
/-! What the functions compute, for all sizes of fuel that are large enough. -/
namespace Go.Pi
section
variable {α β : Type}
def Ev (f : Nat → Nat → Option α) (v : α) : Prop := ∃ M, ∀ n N, M ≤ n → M ≤ N → f n N = some v
theorem ev_some {v w : α} : Ev (fun _ _ => some v) w ↔ v = w :=
  ⟨fun ⟨M, h⟩ => Option.some.inj (h M M (Nat.le_refl _) (Nat.le_refl _)), fun h => ⟨0, fun _ _ _ _ => by rw [h]⟩⟩
theorem ev_iff {f : Nat → Nat → Option α} {v w : α} (h : Ev f v) : Ev f w ↔ v = w := by
  constructor
  · rintro ⟨M', h'⟩
    obtain ⟨M, h⟩ := h
    have a := h (max M M') (max M M') (by omega) (by omega)
    have b := h' (max M M') (max M M') (by omega) (by omega)
    rw [a] at b
    exact Option.some.inj b
  · rintro rfl; exact h
theorem ev_bind {f : Nat → Nat → Option α} {a : α} (h : Ev f a) {g : Nat → Nat → α → Option β} {v : β} : Ev (fun n N => (f n N).bind (g n N)) v ↔ Ev (fun n N => g n N a) v := by
  obtain ⟨M, h⟩ := h
  constructor
  · rintro ⟨M', h'⟩
    refine ⟨max M M', fun n N h1 h2 => ?_⟩
    have := h' n N (by omega) (by omega)
    simp only [h n N (by omega) (by omega), Option.bind_some] at this
    exact this
  · rintro ⟨M', h'⟩
    refine ⟨max M M', fun n N h1 h2 => ?_⟩
    simp only [h n N (by omega) (by omega), Option.bind_some]
    exact h' n N (by omega) (by omega)
theorem ev_none {v : α} : Ev (fun _ _ => none) v ↔ False := by
  simp only [iff_false]
  rintro ⟨M, h⟩
  cases h M M (Nat.le_refl _) (Nat.le_refl _)
theorem ev_cond {c : Bool} {f g : Nat → Nat → Option α} {v : α} : Ev (fun n N => cond c (f n N) (g n N)) v ↔ (c = true → Ev f v) ∧ (c = false → Ev g v) := by
  cases c <;> simp
theorem ev_inB {i : Int} {len : Nat} {f : Nat → Nat → Option α} {v : α} : Ev (fun n N => inB i len (f n N)) v ↔ (0 ≤ i ∧ i < (len : Int)) ∧ Ev f v := by
  unfold inB
  rw [ev_cond, ev_cond]
  by_cases h1 : 0 ≤ i <;> by_cases h2 : i < (len : Int) <;> simp [h1, h2, ev_none]
theorem ev_succ {f : Nat → Nat → Option α} {v : α} (h : Ev (fun n N => f (n + 1) N) v) : Ev f v := by
  obtain ⟨M, h⟩ := h
  refine ⟨M + 1, fun n N h1 h2 => ?_⟩
  obtain ⟨m, rfl⟩ : ∃ m, n = m + 1 := ⟨n - 1, by omega⟩
  exact h m N (by omega) (by omega)
theorem ev_diag {f : Nat → Nat → Option α} {v : α} (h : Ev f v) : Ev (fun n _ => f n n) v := by
  obtain ⟨M, h⟩ := h
  exact ⟨M, fun n N h1 h2 => h n n h1 h1⟩
theorem ev_round {f : Nat → Nat → Option α} {v : α} (h : Ev (fun n N => f n (N + 1)) v) : Ev f v := by
  obtain ⟨M, h⟩ := h
  refine ⟨M + 1, fun n N h1 h2 => ?_⟩
  obtain ⟨m, rfl⟩ : ∃ m, N = m + 1 := ⟨N - 1, by omega⟩
  exact h n m (by omega) (by omega)
theorem ev_ex {f : Nat → Option α} {v : α} (h : Ev (fun n _ => f n) v) : ∃ n, f n = some v := by
  obtain ⟨M, h⟩ := h
  exact ⟨M, h M M (Nat.le_refl _) (Nat.le_refl _)⟩
/-- a loop that counts up to an end -/
theorem ev_up {σ : Type} (L : Nat → Nat → Nat → σ → Option α) (F : Nat → σ → α) (I : Nat → σ → Prop) (len : Nat)
    (h : ∀ i s, I i s → i ≤ len → (∀ s', I (i + 1) s' → i < len → Ev (fun n N => L n N (i + 1) s') (F (i + 1) s')) → Ev (fun n N => L n (N + 1) i s) (F i s)) :
    ∀ s, I 0 s → Ev (fun n _ => L n n 0 s) (F 0 s) := by
  have key : ∀ d i s, d + i = len → I i s → Ev (fun n N => L n N i s) (F i s) := by
    intro d
    induction d with
    | zero => exact fun i s hd hI => ev_round (h i s hI (by omega) fun s' _ hl => absurd hl (by omega))
    | succ d ih => exact fun i s hd hI => ev_round (h i s hI (by omega) fun s' hI' _ => ih (i + 1) s' (by omega) hI')
  exact fun s hI => ev_diag (f := fun n N => L n N 0 s) (key len 0 s (by omega) hI)
/-- a loop of which only the number moves -/
theorem ev_up1 (L : Nat → Nat → Nat → Option α) (F : Nat → α) (len : Nat)
    (h : ∀ i, i ≤ len → (i < len → Ev (fun n N => L n N (i + 1)) (F (i + 1))) → Ev (fun n N => L n (N + 1) i) (F i)) :
    Ev (fun n _ => L n n 0) (F 0) :=
  ev_up (σ := Unit) (fun n N i _ => L n N i) (fun i _ => F i) (fun _ _ => True) len (fun i s _ hi k => h i hi fun hl => k () trivial hl) () trivial
end
/-- the most that a list holds -/
abbrev topN : Nat := 9223372036854775807
theorem W_id {n : Int} (h : -9223372036854775808 ≤ n) (h' : n < 9223372036854775808) : W n = n := by
  show IntKind.i64.wrap n = n
  rw [IntKind.wrap_i64]; omega
theorem W_up {i : Nat} {len : Nat} (h : i < len) (hl : len ≤ topN) : W ((i : Int) + 1) = ((i + 1 : Nat) : Int) := by
  rw [W_id (by omega) (by simp only [topN] at hl; omega)]; omega
theorem drop_step {α : Type} (d : α) {a : List α} {i : Nat} (h : i < a.length) : a.drop i = a.getD i d :: a.drop (i + 1) := by
  rw [List.drop_eq_getElem_cons h, List.getD_eq_getElem?_getD, List.getElem?_eq_getElem h]; rfl
theorem drop_end {α : Type} {a : List α} {i : Nat} (h : a.length ≤ i) : a.drop i = [] := List.drop_eq_nil_of_le h
theorem getD_mem {α : Type} (d : α) {a : List α} {i : Nat} (h : i < a.length) : a.getD i d ∈ a := by
  rw [List.getD_eq_getElem?_getD, List.getElem?_eq_getElem h]; exact List.getElem_mem h
end Go.Pi
end
section
set_option linter.unusedVariables false
set_option maxRecDepth 100000
namespace Go.Pi
abbrev laws_szRowS.K7 : Type := Int → Option Int
theorem laws_szRowS.turn7 {n N : Nat} {k : Int → Option Int} {x0 x1 x2} : laws_szRowS.loop7 n k (N + 1) x0 x1 x2 = laws_szRowS.step7 n k (laws_szRowS.loop7 n k N) x0 x1 x2 := rfl
abbrev laws_toCondS.K4 : Type := (List TCond) → Option (List TCond)
theorem laws_toCondS.turn4 {n N : Nat} {k : (List TCond) → Option (List TCond)} {x0 x1 x2} : laws_toCondS.loop4 n k (N + 1) x0 x1 x2 = laws_toCondS.step4 n k (laws_toCondS.loop4 n k N) x0 x1 x2 := rfl
abbrev laws_toIntS.K4 : Type := (List Int) → Option (List Int)
theorem laws_toIntS.turn4 {n N : Nat} {k : (List Int) → Option (List Int)} {x0 x1 x2} : laws_toIntS.loop4 n k (N + 1) x0 x1 x2 = laws_toIntS.step4 n k (laws_toIntS.loop4 n k N) x0 x1 x2 := rfl
abbrev laws_toRowS.K4 : Type := (List TRow) → Option (List TRow)
theorem laws_toRowS.turn4 {n N : Nat} {k : (List TRow) → Option (List TRow)} {x0 x1 x2} : laws_toRowS.loop4 n k (N + 1) x0 x1 x2 = laws_toRowS.step4 n k (laws_toRowS.loop4 n k N) x0 x1 x2 := rfl
abbrev laws_toKidS.K4 : Type := (List TKid) → Option (List TKid)
theorem laws_toKidS.turn4 {n N : Nat} {k : (List TKid) → Option (List TKid)} {x0 x1 x2} : laws_toKidS.loop4 n k (N + 1) x0 x1 x2 = laws_toKidS.step4 n k (laws_toKidS.loop4 n k N) x0 x1 x2 := rfl
abbrev spec_KidsIn.K3 : Type := Option Int
theorem spec_KidsIn.turn3 {n N : Nat} {k : Option Int} {x0 x1 x2 x3 x4 x5 x6 x7 x8 x9 x10 x11 x12} : spec_KidsIn.loop3 n k (N + 1) x0 x1 x2 x3 x4 x5 x6 x7 x8 x9 x10 x11 x12 = spec_KidsIn.step3 n k (spec_KidsIn.loop3 n k N) x0 x1 x2 x3 x4 x5 x6 x7 x8 x9 x10 x11 x12 := rfl
abbrev spec_l13Counts.K4 : Type := (List Int) → Option (List Int)
theorem spec_l13Counts.turn4 {n N : Nat} {k : (List Int) → Option (List Int)} {x0 x1 x2 x3 x4 x5 x6 x7 x8 x9 x10 x11 x12} : spec_l13Counts.loop4 n k (N + 1) x0 x1 x2 x3 x4 x5 x6 x7 x8 x9 x10 x11 x12 = spec_l13Counts.step4 n k (spec_l13Counts.loop4 n k N) x0 x1 x2 x3 x4 x5 x6 x7 x8 x9 x10 x11 x12 := rfl
abbrev spec_l2Digits.K7 : Type := Bool → Bs → Option Bs
theorem spec_l2Digits.turn7 {n N : Nat} {k : Bool → Bs → Option Bs} {x0 x1 x2} : spec_l2Digits.loop7 n k (N + 1) x0 x1 x2 = spec_l2Digits.step7 n k (spec_l2Digits.loop7 n k N) x0 x1 x2 := rfl
abbrev spec_l1Put.K5 : Type := Bs → Bool → Int → Int → Bs → (List TJson) → (List Bs) → Int → Int → Bs → Int → Int → Bs → (List TJson) → (List Bs) → Option TJson
theorem spec_l1Put.turn5 {n N : Nat} {k : Bs → Bool → Int → Int → Bs → (List TJson) → (List Bs) → Int → Int → Bs → Int → Int → Bs → (List TJson) → (List Bs) → Option TJson} {x0 x1 x2 x3 x4 x5 x6 x7 x8 x9 x10 x11 x12 x13 x14 x15 x16 x17 x18 x19 x20} : spec_l1Put.loop5 n k (N + 1) x0 x1 x2 x3 x4 x5 x6 x7 x8 x9 x10 x11 x12 x13 x14 x15 x16 x17 x18 x19 x20 = spec_l1Put.step5 n k (spec_l1Put.loop5 n k N) x0 x1 x2 x3 x4 x5 x6 x7 x8 x9 x10 x11 x12 x13 x14 x15 x16 x17 x18 x19 x20 := rfl
abbrev spec_l11Row.K4 : Type := Int → Int → (List TCond) → Int → Bool → Int → (List Int) → Bool → Int → Int → Int → (List Int) → Int → Int → Bs → Int → Int → Bs → (List TJson) → (List Bs) → Option TJson
theorem spec_l11Row.turn4 {n N : Nat} {k : Int → Int → (List TCond) → Int → Bool → Int → (List Int) → Bool → Int → Int → Int → (List Int) → Int → Int → Bs → Int → Int → Bs → (List TJson) → (List Bs) → Option TJson} {x0 x1 x2 x3 x4 x5 x6 x7 x8 x9 x10 x11 x12 x13 x14 x15 x16 x17 x18 x19 x20} : spec_l11Row.loop4 n k (N + 1) x0 x1 x2 x3 x4 x5 x6 x7 x8 x9 x10 x11 x12 x13 x14 x15 x16 x17 x18 x19 x20 = spec_l11Row.step4 n k (spec_l11Row.loop4 n k N) x0 x1 x2 x3 x4 x5 x6 x7 x8 x9 x10 x11 x12 x13 x14 x15 x16 x17 x18 x19 x20 := rfl
abbrev spec_l1Text.K3 : Type := Bs → Option Bool
theorem spec_l1Text.turn3 {n N : Nat} {k : Bs → Option Bool} {x0 x1} : spec_l1Text.loop3 n k (N + 1) x0 x1 = spec_l1Text.step3 n k (spec_l1Text.loop3 n k N) x0 x1 := rfl
abbrev spec_l1Names.K6 : Type := Int → Int → Bs → (List TJson) → (List Bs) → Option Bool
theorem spec_l1Names.turn6 {n N : Nat} {k : Int → Int → Bs → (List TJson) → (List Bs) → Option Bool} {x0 x1 x2 x3 x4 x5} : spec_l1Names.loop6 n k (N + 1) x0 x1 x2 x3 x4 x5 = spec_l1Names.step6 n k (spec_l1Names.loop6 n k N) x0 x1 x2 x3 x4 x5 := rfl
abbrev spec_l1Great.K23_1 : Type := Int → Int → Int → Int → Bs → (List TJson) → (List Bs) → Option Int
theorem spec_l1Great.turn23 {n N : Nat} {k0 : TJson → Int → Option Int} {k1 : Int → Int → Int → Int → Bs → (List TJson) → (List Bs) → Option Int} {x0 x1 x2 x3 x4 x5 x6 x7 x8} : spec_l1Great.loop23 n k0 k1 (N + 1) x0 x1 x2 x3 x4 x5 x6 x7 x8 = spec_l1Great.step23 n k0 k1 (spec_l1Great.loop23 n k0 k1 N) x0 x1 x2 x3 x4 x5 x6 x7 x8 := rfl
abbrev spec_DocOf.K4 : Type := (List TRow) → Int → Int → Bs → Int → Int → Bs → (List TJson) → Option TJson
theorem spec_DocOf.turn4 {n N : Nat} {k : (List TRow) → Int → Int → Bs → Int → Int → Bs → (List TJson) → Option TJson} {x0 x1 x2 x3 x4 x5 x6 x7 x8 x9 x10 x11 x12 x13 x14 x15 x16 x17 x18} : spec_DocOf.loop4 n k (N + 1) x0 x1 x2 x3 x4 x5 x6 x7 x8 x9 x10 x11 x12 x13 x14 x15 x16 x17 x18 = spec_DocOf.step4 n k (spec_DocOf.loop4 n k N) x0 x1 x2 x3 x4 x5 x6 x7 x8 x9 x10 x11 x12 x13 x14 x15 x16 x17 x18 := rfl
abbrev spec_l1Same.K6_1 : Type := Int → Int → Bs → (List TJson) → (List Bs) → Int → Int → Bs → (List TJson) → (List Bs) → Option Bool
theorem spec_l1Same.turn6 {n N : Nat} {k0 : TJson → TJson → Option Bool} {k1 : Int → Int → Bs → (List TJson) → (List Bs) → Int → Int → Bs → (List TJson) → (List Bs) → Option Bool} {x0 x1 x2 x3 x4 x5 x6 x7 x8 x9 x10} : spec_l1Same.loop6 n k0 k1 (N + 1) x0 x1 x2 x3 x4 x5 x6 x7 x8 x9 x10 = spec_l1Same.step6 n k0 k1 (spec_l1Same.loop6 n k0 k1 N) x0 x1 x2 x3 x4 x5 x6 x7 x8 x9 x10 := rfl
abbrev spec_l1Same.K14_1 : Type := Option Bool
theorem spec_l1Same.turn14 {n N : Nat} {k0 : TJson → TJson → Option Bool} {k1 : Option Bool} {x0 x1 x2 x3 x4 x5 x6 x7 x8 x9 x10} : spec_l1Same.loop14 n k0 k1 (N + 1) x0 x1 x2 x3 x4 x5 x6 x7 x8 x9 x10 = spec_l1Same.step14 n k0 k1 (spec_l1Same.loop14 n k0 k1 N) x0 x1 x2 x3 x4 x5 x6 x7 x8 x9 x10 := rfl
abbrev impl_KidsIn.K3 : Type := Option Int
theorem impl_KidsIn.turn3 {n N : Nat} {k : Option Int} {x0 x1 x2 x3} : impl_KidsIn.loop3 n k (N + 1) x0 x1 x2 x3 = impl_KidsIn.step3 n k (impl_KidsIn.loop3 n k N) x0 x1 x2 x3 := rfl
abbrev impl_kidsOfRows.K4 : Type := (List Int) → Option (List Int)
theorem impl_kidsOfRows.turn4 {n N : Nat} {k : (List Int) → Option (List Int)} {x0 x1 x2 x3 x4 x5 x6 x7 x8 x9 x10 x11 x12 x13 x14} : impl_kidsOfRows.loop4 n k (N + 1) x0 x1 x2 x3 x4 x5 x6 x7 x8 x9 x10 x11 x12 x13 x14 = impl_kidsOfRows.step4 n k (impl_kidsOfRows.loop4 n k N) x0 x1 x2 x3 x4 x5 x6 x7 x8 x9 x10 x11 x12 x13 x14 := rfl
abbrev slices_Index_int.K3 : Type := Option Int
theorem slices_Index_int.turn3 {n N : Nat} {k : Option Int} {x0 x1 x2 x3} : slices_Index_int.loop3 n k (N + 1) x0 x1 x2 x3 = slices_Index_int.step3 n k (slices_Index_int.loop3 n k N) x0 x1 x2 x3 := rfl
abbrev slices_BinarySearch_string.K4 : Type := (List Bs) → Bs → Int → Int → Option (Int × Bool)
theorem slices_BinarySearch_string.turn4 {n N : Nat} {k : (List Bs) → Bs → Int → Int → Option (Int × Bool)} {x0 x1 x2 x3 x4} : slices_BinarySearch_string.loop4 n k (N + 1) x0 x1 x2 x3 x4 = slices_BinarySearch_string.step4 n k (slices_BinarySearch_string.loop4 n k N) x0 x1 x2 x3 x4 := rfl
abbrev impl_objOf.K4 : Type := Int → Int → Bs → Int → Int → Bs → (List TJson) → (List Bs) → Option TJson
theorem impl_objOf.turn4 {n N : Nat} {k : Int → Int → Bs → Int → Int → Bs → (List TJson) → (List Bs) → Option TJson} {x0 x1 x2 x3 x4 x5 x6 x7 x8 x9 x10 x11} : impl_objOf.loop4 n k (N + 1) x0 x1 x2 x3 x4 x5 x6 x7 x8 x9 x10 x11 = impl_objOf.step4 n k (impl_objOf.loop4 n k N) x0 x1 x2 x3 x4 x5 x6 x7 x8 x9 x10 x11 := rfl
abbrev impl_textOk.K3 : Type := Bs → Option Bool
theorem impl_textOk.turn3 {n N : Nat} {k : Bs → Option Bool} {x0 x1 x2} : impl_textOk.loop3 n k (N + 1) x0 x1 x2 = impl_textOk.step3 n k (impl_textOk.loop3 n k N) x0 x1 x2 := rfl
abbrev impl_namesOk.K3 : Type := Option Bool
theorem impl_namesOk.turn3 {n N : Nat} {k : Option Bool} {x0 x1 x2 x3} : impl_namesOk.loop3 n k (N + 1) x0 x1 x2 x3 = impl_namesOk.step3 n k (impl_namesOk.loop3 n k N) x0 x1 x2 x3 := rfl
abbrev impl_sizeIn.K7_1 : Type := Int → Option Int
theorem impl_sizeIn.turn7 {n N : Nat} {k0 : TJson → Int → Option Int} {k1 : Int → Option Int} {x0 x1 x2 x3 x4} : impl_sizeIn.loop7 n k0 k1 (N + 1) x0 x1 x2 x3 x4 = impl_sizeIn.step7 n k0 k1 (impl_sizeIn.loop7 n k0 k1 N) x0 x1 x2 x3 x4 := rfl
abbrev impl_RowDoc.K4 : Type := Int → Int → (List TCond) → Int → Bool → Int → (List Int) → Bool → Int → Int → Int → Int → Bs → (List Bs) → (List Int) → Option TJson
theorem impl_RowDoc.turn4 {n N : Nat} {k : Int → Int → (List TCond) → Int → Bool → Int → (List Int) → Bool → Int → Int → Int → Int → Bs → (List Bs) → (List Int) → Option TJson} {x0 x1 x2 x3 x4 x5 x6 x7 x8 x9 x10 x11 x12 x13 x14 x15 x16 x17 x18 x19} : impl_RowDoc.loop4 n k (N + 1) x0 x1 x2 x3 x4 x5 x6 x7 x8 x9 x10 x11 x12 x13 x14 x15 x16 x17 x18 x19 = impl_RowDoc.step4 n k (impl_RowDoc.loop4 n k N) x0 x1 x2 x3 x4 x5 x6 x7 x8 x9 x10 x11 x12 x13 x14 x15 x16 x17 x18 x19 := rfl
abbrev impl_rowDocs.K4 : Type := (List TJson) → Option (List TJson)
theorem impl_rowDocs.turn4 {n N : Nat} {k : (List TJson) → Option (List TJson)} {x0 x1 x2 x3 x4 x5 x6 x7 x8 x9 x10 x11 x12 x13} : impl_rowDocs.loop4 n k (N + 1) x0 x1 x2 x3 x4 x5 x6 x7 x8 x9 x10 x11 x12 x13 = impl_rowDocs.step4 n k (impl_rowDocs.loop4 n k N) x0 x1 x2 x3 x4 x5 x6 x7 x8 x9 x10 x11 x12 x13 := rfl
abbrev slices_IndexFunc_Json_impl_DocOf_f1.K3 : Type := Option Int
theorem slices_IndexFunc_Json_impl_DocOf_f1.turn3 {n N : Nat} {k : Option Int} {x0 x1 x2} : slices_IndexFunc_Json_impl_DocOf_f1.loop3 n k (N + 1) x0 x1 x2 = slices_IndexFunc_Json_impl_DocOf_f1.step3 n k (slices_IndexFunc_Json_impl_DocOf_f1.loop3 n k N) x0 x1 x2 := rfl
abbrev slices_Equal_string.K6 : Type := Option Bool
theorem slices_Equal_string.turn6 {n N : Nat} {k : Option Bool} {x0 x1 x2 x3} : slices_Equal_string.loop6 n k (N + 1) x0 x1 x2 x3 = slices_Equal_string.step6 n k (slices_Equal_string.loop6 n k N) x0 x1 x2 x3 := rfl
abbrev slices_EqualFunc_Json_impl_alike.K6_1 : Type := Option Bool
theorem slices_EqualFunc_Json_impl_alike.turn6 {n N : Nat} {k0 : TJson → TJson → Option Bool} {k1 : Option Bool} {x0 x1 x2 x3} : slices_EqualFunc_Json_impl_alike.loop6 n k0 k1 (N + 1) x0 x1 x2 x3 = slices_EqualFunc_Json_impl_alike.step6 n k0 k1 (slices_EqualFunc_Json_impl_alike.loop6 n k0 k1 N) x0 x1 x2 x3 := rfl
abbrev laws_eqCondS.K6 : Type := Option Bool
theorem laws_eqCondS.turn6 {n N : Nat} {k : Option Bool} {x0 x1 x2} : laws_eqCondS.loop6 n k (N + 1) x0 x1 x2 = laws_eqCondS.step6 n k (laws_eqCondS.loop6 n k N) x0 x1 x2 := rfl
abbrev laws_eqIntS.K6 : Type := Option Bool
theorem laws_eqIntS.turn6 {n N : Nat} {k : Option Bool} {x0 x1 x2} : laws_eqIntS.loop6 n k (N + 1) x0 x1 x2 = laws_eqIntS.step6 n k (laws_eqIntS.loop6 n k N) x0 x1 x2 := rfl
abbrev laws_eqRowS.K6 : Type := Option Bool
theorem laws_eqRowS.turn6 {n N : Nat} {k : Option Bool} {x0 x1 x2} : laws_eqRowS.loop6 n k (N + 1) x0 x1 x2 = laws_eqRowS.step6 n k (laws_eqRowS.loop6 n k N) x0 x1 x2 := rfl
abbrev laws_eqKidS.K6 : Type := Option Bool
theorem laws_eqKidS.turn6 {n N : Nat} {k : Option Bool} {x0 x1 x2} : laws_eqKidS.loop6 n k (N + 1) x0 x1 x2 = laws_eqKidS.step6 n k (laws_eqKidS.loop6 n k N) x0 x1 x2 := rfl
end Go.Pi
end
section
set_option linter.unusedVariables false
set_option maxRecDepth 100000
set_option linter.unusedSimpArgs false
namespace Go.Pi
def allFrom (p : Nat → Bool) : Nat → Nat → Bool
  | 0, _ => true
  | d + 1, i => p i && allFrom p d (i + 1)
def allN (p : Nat → Bool) (len : Nat) : Bool := allFrom p len 0
theorem ev_all (L : Nat → Nat → Nat → Option Bool) (p : Nat → Bool) {len : Nat} {v : Bool}
    (h : ∀ i w, i < len → Ev (fun n N => L n N (i + 1)) w → Ev (fun n N => L n (N + 1) i) (p i && w)) (h2 : Ev (fun n N => L n (N + 1) len) v) :
    Ev (fun n _ => L n n 0) (allN p len && v) := by
  have key : ∀ d i, d + i = len → Ev (fun n N => L n N i) (allFrom p d i && v) := by
    intro d
    induction d with
    | zero => intro i hd; obtain rfl : i = len := by omega
              simpa [allFrom] using ev_round (f := fun n N => L n N i) h2
    | succ d ih => intro i hd
                   have := h i _ (by omega) (ih (i + 1) (by omega))
                   rw [← Bool.and_assoc] at this
                   exact ev_round (f := fun n N => L n N i) this
  exact ev_diag (f := fun n N => L n N 0) (key len 0 (by omega))
theorem ev_congr {α : Type} {f : Nat → Nat → Option α} {v w : α} (h : Ev f v) (e : v = w) : Ev f w := e ▸ h
def inn (x lo hi : Int) : Bool := decide (lo ≤ x) && decide (x ≤ hi)
theorem inn_iff {x lo hi : Int} : inn x lo hi = true ↔ lo ≤ x ∧ x ≤ hi := by simp [inn]
theorem l1In_ev {x lo hi : Int} : Ev (fun n _ => spec_l1In n x lo hi) (inn x lo hi) := by
  refine ev_succ ?_
  simp only [spec_l1In, ev_cond, ev_some, inn]
  grind
theorem within_ev {x lo hi : Int} : Ev (fun n _ => impl_within n x lo hi) (inn x lo hi) := by
  refine ev_succ ?_
  simp only [impl_within, ev_cond, ev_some, inn]
  grind
section
variable {β : Type} {x lo hi : Int} {g : Nat → Nat → Bool → Option β} {v : β}
theorem l1In_b : Ev (fun n N => (spec_l1In n x lo hi).bind (g n N)) v ↔ Ev (fun n N => g n N (inn x lo hi)) v := ev_bind l1In_ev
theorem within_b : Ev (fun n N => (impl_within n x lo hi).bind (g n N)) v ↔ Ev (fun n N => g n N (inn x lo hi)) v := ev_bind within_ev
theorem isNum_b : Ev (fun n N => (impl_isNum n x).bind (g n N)) v ↔ Ev (fun n N => g n N (inn x (-1000000000) 1000000000)) v :=
  ev_bind (ev_succ (by simp only [impl_isNum, within_b, ev_some]))
end
theorem lt_up {i len : Nat} (h : i < len) : decide ((i : Int) < (len : Int)) = true := by simp; omega
theorem lt_end {len : Nat} : decide ((len : Int) < (len : Int)) = false := by simp
theorem in_up {i len : Nat} (h : i < len) : ((0 : Int) ≤ (i : Int) ∧ (i : Int) < (len : Int)) ↔ True := by simp; omega
end Go.Pi
end
section
set_option linter.unusedVariables false
/-! Lists that are measured, copied, compared, marked and looked at again: each loop once. -/
namespace Go.Pi
abbrev cap : Nat := 1048576
def sumL {α : Type} (f : α → Nat) : List α → Nat
  | [] => 0
  | x :: xs => f x + sumL f xs
def sizeL {α : Type} (f : α → Nat) (l : List α) : Nat := l.length + sumL f l
def lenL {α : Type} (P : α → Prop) (l : List α) : Prop := l.length ≤ topN ∧ ∀ x ∈ l, P x
def szI (_ : Int) : Nat := 0
def szB (s : Bs) : Nat := s.length
def lenI (_ : Int) : Prop := True
def lenB (s : Bs) : Prop := s.length ≤ topN
theorem sumL_drop {α : Type} (f : α → Nat) (d : α) {a : List α} {i : Nat} (h : i < a.length) : sumL f (a.drop i) = f (a.getD i d) + sumL f (a.drop (i + 1)) := by
  rw [drop_step d h]; rfl
theorem sumL_set {α : Type} (f : α → Nat) (x : α) : ∀ (a : List α) (i : Nat), sumL f ((a.set i x).drop (i + 1)) = sumL f (a.drop (i + 1))
  | [], _ => rfl
  | _ :: _, 0 => rfl
  | _ :: a, i + 1 => by simpa using sumL_set f x a i
theorem sumL_le {α : Type} (f : α → Nat) {a : List α} {x : α} (h : x ∈ a) : f x ≤ sumL f a := by
  induction a with
  | nil => cases h
  | cons y a ih =>
    simp only [sumL]
    rcases List.mem_cons.1 h with rfl | h
    · omega
    · have := ih h; omega
theorem sizeL_le {α : Type} (f : α → Nat) {a : List α} {x : α} (h : x ∈ a) : 1 + f x ≤ sizeL f a := by
  unfold sizeL
  have := sumL_le f h
  have := List.length_pos_of_mem h
  omega
theorem sizeL_len {α : Type} (f : α → Nat) (a : List α) : a.length ≤ sizeL f a := by unfold sizeL; omega
theorem sumL_zero {α : Type} (f : α → Nat) (h : ∀ x, f x = 0) : ∀ a : List α, sumL f a = 0
  | [] => rfl
  | x :: a => by simp only [sumL, h, sumL_zero f h a]
theorem take_set {α : Type} (d : α) {a s : List α} {i : Nat} (h : i < a.length) (hs : s.length = a.length) (ht : s.take i = a.take i) : (s.set i (a.getD i d)).take (i + 1) = a.take (i + 1) := by
  rw [List.take_add_one, List.take_add_one, List.take_set_of_le (Nat.le_refl i), ht, List.getElem?_set_self (by omega), List.getD_eq_getElem?_getD, List.getElem?_eq_getElem h]
  rfl
theorem getD_put {α : Type} (d : α) {a : List α} {i : Nat} (h : i < a.length) (x : α) : (a.set i x).getD i d = x := by
  rw [List.getD_eq_getElem?_getD, List.getElem?_set_self h]; rfl
/-- what is left of a size -/
def subS (l : Int) (s : Nat) : Int := if (s : Int) ≤ l then l - s else -1
theorem subS_zero {l : Int} (h : 0 ≤ l) : subS l 0 = l := by unfold subS; rw [if_pos (by omega)]; omega
theorem subS_add {l : Int} {s t : Nat} (h0 : 0 ≤ l) : (subS l s < 0 → subS l (s + t) = -1) ∧ (¬ subS l s < 0 → (0 ≤ subS l s ∧ subS l s ≤ l) ∧ subS (subS l s) t = subS l (s + t)) := by
  unfold subS
  constructor <;> intro h
  · split at h
    · omega
    · rw [if_neg (by omega)]
  · split at h
    · rename_i h1
      rw [if_pos h1]
      refine ⟨by omega, ?_⟩
      by_cases h2 : (t : Int) ≤ l - s
      · rw [if_pos h2, if_pos (by omega)]; omega
      · rw [if_neg h2, if_neg (by omega)]
    · omega
theorem subS_ok {l : Int} {s : Nat} (h : ¬ subS l s < 0) : (s : Int) ≤ l := by
  unfold subS at h; split at h <;> omega
section
variable {α β : Type}
/-- a size behind another -/
theorem ev_sz {f : Nat → Nat → Option Int} {g : Nat → Nat → Int → Option Int} {l : Int} {s t : Nat} (h0 : 0 ≤ l) (h1 : l ≤ 1048576) (h : Ev f (subS l s)) (k : ∀ r, 0 ≤ r → r ≤ 1048576 → Ev (fun n N => g n N r) (subS r t)) :
    Ev (fun n N => (f n N).bind fun x => cond (decide (x < 0)) (some (-1)) (g n N x)) (subS l (s + t)) := by
  rw [ev_bind h, ev_cond]
  obtain ⟨a, b⟩ := subS_add (l := l) (s := s) (t := t) h0
  refine ⟨fun h => ?_, fun h => ?_⟩
  · rw [a (of_decide_eq_true h)]; exact ev_some.2 rfl
  · obtain ⟨⟨b1, b2⟩, b3⟩ := b (of_decide_eq_false h)
    rw [← b3]
    exact k _ b1 (by omega)
theorem ev_szE {l : Int} (h : 0 ≤ l) : Ev (fun _ _ => some l) (subS l 0) := by rw [subS_zero h]; exact ev_some.2 rfl
/-- the length comes off first -/
theorem ev_szL {l : Int} {m t : Nat} (h0 : 0 ≤ l) (h1 : l ≤ 1048576) (hm : m ≤ topN) {g : Nat → Nat → Int → Option Int} (k : ∀ r, 0 ≤ r → r ≤ 1048576 → Ev (fun n N => g n N r) (subS r t)) :
    Ev (fun n N => cond (decide (W (l - (m : Int)) < 0)) (some (-1)) (g n N (W (l - (m : Int))))) (subS l (m + t)) := by
  simp only [topN] at hm
  rw [W_id (by omega) (by omega)]
  have e : l - (m : Int) < 0 ∨ l - m = subS l m := by unfold subS; split <;> omega
  rw [ev_cond]
  refine ⟨fun h => ?_, fun h => ?_⟩
  · have h := of_decide_eq_true h
    rw [(subS_add h0).1 (by unfold subS; rw [if_neg (by omega)]; omega)]
    exact ev_some.2 rfl
  · have h := of_decide_eq_false h
    have e := e.resolve_left h
    have := (subS_add (l := l) (s := m) (t := t) h0).2 (by rw [← e]; exact h)
    rw [← this.2, ← e]
    exact k _ (by omega) (by omega)
theorem ev_szI {l : Int} {m : Nat} (h0 : 0 ≤ l) (h1 : l ≤ 1048576) (hm : m ≤ topN) :
    Ev (fun _ _ => cond (decide (W (l - (m : Int)) < 0)) (some (-1)) (some (W (l - (m : Int))))) (subS l m) :=
  ev_szL (t := 0) (g := fun _ _ x => some x) h0 h1 hm fun r a b => ev_szE a
theorem sz_list (d : α) (f : α → Nat) (L : Nat → Nat → Int → Nat → Option Int) (a : List α)
    (h1 : ∀ i l, i < a.length → 0 ≤ l → l ≤ 1048576 → ∀ t, (∀ r, 0 ≤ r → r ≤ 1048576 → Ev (fun n N => L n N r (i + 1)) (subS r t)) → Ev (fun n N => L n (N + 1) l i) (subS l (f (a.getD i d) + t)))
    (h2 : ∀ l, Ev (fun n N => L n (N + 1) l a.length) l) (l : Int) (hl : 0 ≤ l) (hl' : l ≤ 1048576) : Ev (fun n _ => L n n l 0) (subS l (sumL f a)) := by
  have key : ∀ j i, j + i = a.length → ∀ l, 0 ≤ l → l ≤ 1048576 → Ev (fun n N => L n N l i) (subS l (sumL f (a.drop i))) := by
    intro j
    induction j with
    | zero =>
      intro i hi l h0 _
      rw [drop_end (by omega)]
      refine ev_round ?_
      have : i = a.length := by omega
      subst this
      rw [show sumL f [] = 0 from rfl, subS_zero h0]
      exact h2 l
    | succ j ih =>
      intro i hi l h0 h1'
      rw [sumL_drop f d (by omega)]
      exact ev_round (h1 i l (by omega) h0 h1' _ fun r a b => ih (i + 1) (by omega) r a b)
  have := key a.length 0 (by omega) l hl hl'
  rw [List.drop_zero] at this
  exact ev_diag (f := fun n N => L n N l 0) this
theorem ev_copy (d : α) (a : List α) (L : Nat → Nat → Nat → List α → Option (List α))
    (h1 : ∀ i s, i < a.length → s.length = a.length → Ev (fun n N => L n N (i + 1) (s.set i (a.getD i d))) a → Ev (fun n N => L n (N + 1) i s) a)
    (h2 : Ev (fun n N => L n (N + 1) a.length a) a) (s : List α) (hs : s.length = a.length) : Ev (fun n _ => L n n 0 s) a := by
  refine ev_up L (fun _ _ => a) (fun i s => s.length = a.length ∧ s.take i = a.take i) a.length (fun i s hI hi k => ?_) s ⟨hs, by simp⟩
  by_cases h : i < a.length
  · exact h1 i s h hI.1 (k _ ⟨by simp [hI.1], take_set d h hI.1 hI.2⟩ h)
  · have e : i = a.length := by omega
    subst e
    have : s = a := by
      have := hI.2
      rwa [List.take_of_length_le (by omega), List.take_of_length_le (Nat.le_refl _)] at this
    subst this
    exact h2
/-- a list that is marked, and what is found in it then -/
def Mk (f : Nat → Nat → Option (Int × α)) (g : Nat → Nat → α → Option Int) (k : Int) (m : Nat) (P : α → Prop) : Prop :=
  ∃ k' a', k ≤ k' ∧ k' ≤ k + 32 * m ∧ Ev f (k', a') ∧ Ev (fun n N => g n N a') k' ∧ P a'
theorem mark_list (d : α) (f : α → Nat) (LM : Nat → Nat → Int → Nat → List α → Option (Int × List α)) (LH : Nat → Nat → List α → Int → Nat → Option Int)
    (hm : ∀ i (a : List α) (k : Int), i < a.length → a.length ≤ topN → 0 ≤ k → k + 32 * (1 + f (a.getD i d) : Nat) ≤ topN →
      ∃ k' x', k ≤ k' ∧ k' ≤ k + 32 * (1 + f (a.getD i d) : Nat) ∧ (∀ F, Ev (fun n N => LM n N k' (i + 1) (a.set i x')) F → Ev (fun n N => LM n (N + 1) k i a) F) ∧
        ∀ (b : List α) F, i < b.length → b.length ≤ topN → b.getD i d = x' → Ev (fun n N => LH n N b k' (i + 1)) F → Ev (fun n N => LH n (N + 1) b k i) F)
    (em : ∀ (a : List α) k, Ev (fun n N => LM n (N + 1) k a.length a) (k, a)) (eh : ∀ (a : List α) k, Ev (fun n N => LH n (N + 1) a k a.length) k)
    (a : List α) (k : Int) (ha : a.length ≤ topN) (hk : 0 ≤ k) (hb : k + 32 * (sizeL f a : Nat) ≤ topN) :
    ∃ k' a', k ≤ k' ∧ k' ≤ k + 32 * (sizeL f a : Nat) ∧ a'.length = a.length ∧ Ev (fun n _ => LM n n k 0 a) (k', a') ∧ Ev (fun n _ => LH n n a' k 0) k' := by
  have key : ∀ j i (a : List α) (k : Int), j + i = a.length → a.length ≤ topN → 0 ≤ k → k + 32 * ((j + sumL f (a.drop i) : Nat) : Int) ≤ topN →
      ∃ k' a', k ≤ k' ∧ k' ≤ k + 32 * ((j + sumL f (a.drop i) : Nat) : Int) ∧ a'.length = a.length ∧ a'.take i = a.take i ∧ Ev (fun n N => LM n N k i a) (k', a') ∧ Ev (fun n N => LH n N a' k i) k' := by
    intro j
    induction j with
    | zero =>
      intro i a k hi _ hk _
      have : i = a.length := by omega
      subst this
      exact ⟨k, a, by omega, by omega, rfl, rfl, ev_round (em a k), ev_round (eh a k)⟩
    | succ j ih =>
      intro i a k hi ha hk hb
      rw [sumL_drop f d (by omega)] at hb ⊢
      obtain ⟨k1, x', p1, p2, p3, p4⟩ := hm i a k (by omega) ha hk (by omega)
      obtain ⟨k2, a', q1, q2, q3, q4, q5, q6⟩ := ih (i + 1) (a.set i x') k1 (by rw [List.length_set]; omega) (by rw [List.length_set]; exact ha) (by omega) (by rw [sumL_set]; omega)
      rw [sumL_set] at q2
      rw [List.length_set] at q3
      have hlt : i < a'.length := by omega
      have hx : a'.getD i d = x' := by
        have e := congrArg (fun l => l[i]?) q4
        simp only [List.getElem?_take, if_pos (Nat.lt_succ_self i), List.getElem?_set_self (show i < a.length by omega)] at e
        rw [List.getD_eq_getElem?_getD, e]; rfl
      refine ⟨k2, a', by omega, by omega, q3, ?_, ev_round (p3 _ q5), ev_round (p4 a' k2 hlt (by omega) hx q6)⟩
      have e := congrArg (List.take i) q4
      simp only [List.take_take, Nat.min_eq_left (Nat.le_succ i), List.take_set_of_le (Nat.le_refl i)] at e
      exact e
  obtain ⟨k', a', h1, h2, h3, _, h5, h6⟩ := key a.length 0 a k (by omega) ha hk (by rw [List.drop_zero]; unfold sizeL at hb; omega)
  refine ⟨k', a', h1, by rw [List.drop_zero] at h2; unfold sizeL; omega, h3, ev_diag (f := fun n N => LM n N k 0 a) h5, ev_diag (f := fun n N => LH n N a' k 0) h6⟩
/-- the same of a list at which nobody looks again -/
theorem mark_list1 (d : α) (f : α → Nat) (LM : Nat → Nat → Int → Nat → List α → Option (Int × List α))
    (hm : ∀ i (a : List α) (k : Int), i < a.length → a.length ≤ topN → 0 ≤ k → k + 32 * (1 + f (a.getD i d) : Nat) ≤ topN →
      ∃ k' x', k ≤ k' ∧ k' ≤ k + 32 * (1 + f (a.getD i d) : Nat) ∧ (∀ F, Ev (fun n N => LM n N k' (i + 1) (a.set i x')) F → Ev (fun n N => LM n (N + 1) k i a) F))
    (em : ∀ (a : List α) k, Ev (fun n N => LM n (N + 1) k a.length a) (k, a))
    (a : List α) (k : Int) (ha : a.length ≤ topN) (hk : 0 ≤ k) (hb : k + 32 * (sizeL f a : Nat) ≤ topN) :
    ∃ k' a', k ≤ k' ∧ k' ≤ k + 32 * (sizeL f a : Nat) ∧ a'.length = a.length ∧ Ev (fun n _ => LM n n k 0 a) (k', a') ∧ True := by
  have key : ∀ j i (a : List α) (k : Int), j + i = a.length → a.length ≤ topN → 0 ≤ k → k + 32 * ((j + sumL f (a.drop i) : Nat) : Int) ≤ topN →
      ∃ k' a', k ≤ k' ∧ k' ≤ k + 32 * ((j + sumL f (a.drop i) : Nat) : Int) ∧ a'.length = a.length ∧ Ev (fun n N => LM n N k i a) (k', a') := by
    intro j
    induction j with
    | zero =>
      intro i a k hi _ hk _
      have : i = a.length := by omega
      subst this
      exact ⟨k, a, by omega, by omega, rfl, ev_round (em a k)⟩
    | succ j ih =>
      intro i a k hi ha hk hb
      rw [sumL_drop f d (by omega)] at hb ⊢
      obtain ⟨k1, x', p1, p2, p3⟩ := hm i a k (by omega) ha hk (by omega)
      obtain ⟨k2, a', q1, q2, q3, q5⟩ := ih (i + 1) (a.set i x') k1 (by rw [List.length_set]; omega) (by rw [List.length_set]; exact ha) (by omega) (by rw [sumL_set]; omega)
      rw [sumL_set] at q2
      rw [List.length_set] at q3
      exact ⟨k2, a', by omega, by omega, q3, ev_round (p3 _ q5)⟩
  obtain ⟨k', a', h1, h2, h3, h5⟩ := key a.length 0 a k (by omega) ha hk (by rw [List.drop_zero]; unfold sizeL at hb; omega)
  exact ⟨k', a', h1, by rw [List.drop_zero] at h2; unfold sizeL; omega, h3, ev_diag (f := fun n N => LM n N k 0 a) h5, trivial⟩
end
theorem W_next {k : Int} (h : 0 ≤ k) (h' : k + 1 ≤ topN) : W (k + 1) = k + 1 := W_id (by omega) (by simp only [topN] at h'; omega)
end Go.Pi
end
section
set_option linter.unusedVariables false
set_option maxRecDepth 100000
set_option linter.unusedSimpArgs false
namespace Go.Pi
/-! loops, once and for all -/
theorem W_dn {i : Nat} (h : i ≤ topN) : W ((i : Int) - 1) = (i : Int) - 1 := by
  rw [W_id (by omega) (by simp only [topN] at h; omega)]
theorem toNat_dn {i : Nat} : ((i : Int) - 1).toNat = i - 1 := by omega
theorem inn_true {x lo hi : Int} (h : inn x lo hi = true) : lo ≤ x ∧ x ≤ hi := inn_iff.1 h
def foldFrom {α : Type} (s : Nat → α → α) (v : α) : Nat → Nat → α
  | 0, _ => v
  | d + 1, i => s i (foldFrom s v d (i + 1))
theorem ev_fold {α : Type} (L : Nat → Nat → Nat → Option α) (s : Nat → α → α) {len : Nat} {v : α}
    (h : ∀ i w, i < len → Ev (fun n N => L n N (i + 1)) w → Ev (fun n N => L n (N + 1) i) (s i w)) (h2 : Ev (fun n N => L n (N + 1) len) v) :
    Ev (fun n _ => L n n 0) (foldFrom s v len 0) := by
  have key : ∀ d i, d + i = len → Ev (fun n N => L n N i) (foldFrom s v d i) := by
    intro d
    induction d with
    | zero => intro i hd; obtain rfl : i = len := by omega
              exact ev_round (f := fun n N => L n N i) h2
    | succ d ih => intro i hd
                   exact ev_round (f := fun n N => L n N i) (h i _ (by omega) (ih (i + 1) (by omega)))
  exact ev_diag (f := fun n N => L n N 0) (key len 0 (by omega))
theorem ev_roomB {α : Type} {n b : Nat} {f : Nat → Nat → Option α} {v : α} : Ev (fun m N => roomB n b (f m N)) v ↔ n * b ≤ 140737488355328 ∧ Ev f v := by
  unfold roomB
  rw [ev_cond]
  by_cases h : n * b ≤ 140737488355328 <;> simp [h, ev_none]
theorem ev_map {α β γ : Type} (d : α) (a : List α) (f : α → β) (L : Nat → Nat → Nat → List β → Option γ) (v : γ)
    (h1 : ∀ i s, i < a.length → s.length = i → ∀ F, Ev (fun n N => L n N (i + 1) (s ++ [f (a.getD i d)])) F → Ev (fun n N => L n (N + 1) i s) F)
    (h2 : Ev (fun n N => L n (N + 1) a.length (a.map f)) v) : Ev (fun n _ => L n n 0 []) v := by
  have key : ∀ j i, j + i = a.length → Ev (fun n N => L n N i ((a.take i).map f)) v := by
    intro j
    induction j with
    | zero =>
      intro i hi
      have : i = a.length := by omega
      subst this
      rw [List.take_of_length_le (Nat.le_refl _)]
      exact ev_round h2
    | succ j ih =>
      intro i hi
      refine ev_round (h1 i _ (by omega) (by simp; omega) _ ?_)
      have := ih (i + 1) (by omega)
      rw [List.take_add_one, List.map_append] at this
      have e : a[i]?.toList = [a.getD i d] := by
        rw [List.getD_eq_getElem?_getD, List.getElem?_eq_getElem (by omega)]; rfl
      rw [e] at this
      exact this
  have := key a.length 0 (by omega)
  exact ev_diag (f := fun n N => L n N 0 []) this
abbrev capR : Nat := 1073741824
theorem ev_seq {α γ : Type} (S : Nat → α) (len : Nat) (L : Nat → Nat → Nat → α → Option γ) (v : γ)
    (h1 : ∀ i, i < len → ∀ F, Ev (fun n N => L n N (i + 1) (S (i + 1))) F → Ev (fun n N => L n (N + 1) i (S i)) F)
    (h2 : Ev (fun n N => L n (N + 1) len (S len)) v) : Ev (fun n _ => L n n 0 (S 0)) v := by
  have key : ∀ j i, j + i = len → Ev (fun n N => L n N i (S i)) v := by
    intro j
    induction j with
    | zero =>
      intro i hi
      have : i = len := by omega
      subst this
      exact ev_round h2
    | succ j ih => exact fun i hi => ev_round (h1 i (by omega) _ (ih (i + 1) (by omega)))
  exact ev_diag (f := fun n N => L n N 0 (S 0)) (key len 0 (by omega))
theorem take_next {α : Type} (d : α) {a : List α} {i : Nat} (h : i < a.length) : a.take (i + 1) = a.take i ++ [a.getD i d] := by
  rw [List.take_add_one, List.getD_eq_getElem?_getD, List.getElem?_eq_getElem h]; rfl
theorem foldFrom_idx {α : Type} (d : α) (P : α → Bool) : ∀ (rows : List α), foldFrom (fun i (x : Int) => cond (P (rows.getD i d)) (i : Int) x) (-1) rows.length 0 = if rows.findIdx P < rows.length then (rows.findIdx P : Int) else -1 := by
  intro rows
  have key : ∀ j i, j + i = rows.length → (∀ k, k < i → P (rows.getD k d) = false) → foldFrom (fun i (x : Int) => cond (P (rows.getD i d)) (i : Int) x) (-1) j i = if rows.findIdx P < rows.length then (rows.findIdx P : Int) else -1 := by
    intro j
    induction j with
    | zero =>
      intro i hi hk
      have : ¬ rows.findIdx P < rows.length := by
        intro h
        have h1 := List.findIdx_getElem (w := h)
        have h2 := hk _ (show rows.findIdx P < i by omega)
        rw [List.getD_eq_getElem?_getD, List.getElem?_eq_getElem h] at h2
        simp only [Option.getD_some] at h2
        rw [h1] at h2; cases h2
      rw [if_neg this]; rfl
    | succ j ih =>
      intro i hi hk
      simp only [foldFrom]
      cases hp : P (rows.getD i d) with
      | true =>
        have hlt : i < rows.length := by omega
        rw [List.getD_eq_getElem?_getD, List.getElem?_eq_getElem hlt] at hp
        have e : rows.findIdx P = i := by
          apply Nat.le_antisymm
          · exact Nat.le_of_not_lt fun h => by have := List.not_of_lt_findIdx h; rw [Option.getD_some] at hp; rw [hp] at this; cases this
          · exact Nat.le_of_not_lt fun h => by
              have h2 := hk _ h
              have hl : rows.findIdx P < rows.length := by omega
              rw [List.getD_eq_getElem?_getD, List.getElem?_eq_getElem hl] at h2
              rw [Option.getD_some, List.findIdx_getElem (w := hl)] at h2; cases h2
        rw [e, if_pos hlt]; rfl
      | false =>
        rw [cond_false]
        exact ih (i + 1) (by omega) fun k hk' => by
          by_cases e : k = i
          · subst e; exact hp
          · exact hk k (by omega)
  exact key rows.length 0 (by omega) fun k hk => by omega
theorem ev_cutB {α : Type} {lo hi : Int} {len : Nat} {f : Nat → Nat → Option α} {v : α} : Ev (fun n N => cutB lo hi len (f n N)) v ↔ (0 ≤ lo ∧ lo ≤ hi ∧ hi ≤ (len : Int)) ∧ Ev f v := by
  unfold cutB
  simp only [ev_cond, ev_none]
  by_cases h1 : 0 ≤ lo <;> by_cases h2 : lo ≤ hi <;> by_cases h3 : hi ≤ (len : Int) <;> simp [h1, h2, h3]
theorem allN_iff {p : Nat → Bool} {len : Nat} : allN p len = true ↔ ∀ i, i < len → p i = true := by
  have key : ∀ d i, d + i = len → (allFrom p d i = true ↔ ∀ k, i ≤ k → k < len → p k = true) := by
    intro d
    induction d with
    | zero => intro i hi; simp only [allFrom, true_iff]; intro k h1 h2; omega
    | succ d ih =>
      intro i hi
      simp only [allFrom, Bool.and_eq_true, ih (i + 1) (by omega)]
      constructor
      · rintro ⟨h1, h2⟩ k h3 h4
        by_cases e : k = i
        · subst e; exact h1
        · exact h2 k (by omega) h4
      · exact fun h => ⟨h i (Nat.le_refl _) (by omega), fun k h1 h2 => h k (by omega) h2⟩
  have := key len 0 (by omega)
  unfold allN
  rw [this]
  exact ⟨fun h i hi => h i (Nat.zero_le _) hi, fun h i _ hi => h i hi⟩
end Go.Pi
end
section
set_option linter.unusedVariables false
set_option maxRecDepth 100000
set_option linter.unusedSimpArgs false
namespace Go.Pi
/-! JSON values that are right -/
theorem json_re (j : TJson) : TJson.re j = j := by cases j; rfl
def FText (s : Bs) : Bool := allN (fun i => inn ((s.getD i 0).toNat : Int) 32 126) s.length && decide ((s.length : Int) ≤ 60)
theorem byte_W (b : UInt8) : W ((b.toNat : Int)) = (b.toNat : Int) := W_id (by omega) (by have := b.toNat_lt; omega)
theorem spec_l1Text_ev {s : Bs} (hs : s.length ≤ topN) : Ev (fun n _ => spec_l1Text n s) (FText s) := by
  refine ev_succ ?_
  simp only [spec_l1Text]
  refine ev_all (fun n N i => spec_l1Text.loop3 n (fun xy1 => (some (decide ((xy1.length : Int) ≤ 60)))) N s (i : Int)) _ (fun i w hi ih => ?_) ?_
  · simp only [spec_l1Text.turn3, spec_l1Text.step3, Int.toNat_natCast, ev_cond, ev_inB, ev_some, W_up hi hs, ev_iff ih, lt_up hi, in_up hi]
    clear ih
    simp only [inn]
    by_cases h1 : (((s.getD i 0).toNat : Nat) : Int) < 32 <;> by_cases h2 : (((s.getD i 0).toNat : Nat) : Int) > 126 <;> simp [h1, h2] <;> (intros; omega)
  · simp only [spec_l1Text.turn3, spec_l1Text.step3, lt_end, cond_false, ev_some]
theorem impl_textOk_ev {s : Bs} (hs : s.length ≤ topN) : Ev (fun n _ => impl_textOk n s) (FText s) := by
  refine ev_succ ?_
  simp only [impl_textOk]
  refine ev_all (fun n N i => impl_textOk.loop3 n (fun xy1 => (some (decide ((xy1.length : Int) ≤ 60)))) N s (s.length : Int) (i : Int)) _ (fun i w hi ih => ?_) ?_
  · simp only [impl_textOk.turn3, impl_textOk.step3, Int.toNat_natCast, ev_cond, ev_inB, within_b, byte_W, ev_some, W_up hi hs, ev_iff ih, lt_up hi, in_up hi]
    clear ih
    grind
  · simp only [impl_textOk.turn3, impl_textOk.step3, lt_end, cond_false, ev_some]
def lenNs (c : Nat) (l : List Bs) : Prop := l.length ≤ c ∧ ∀ x ∈ l, x.length ≤ c
theorem getD_text {c : Nat} {l : List Bs} (h : lenNs c l) (i : Nat) : (l.getD i []).length ≤ c := by
  by_cases hi : i < l.length
  · exact h.2 _ (getD_mem [] hi)
  · rw [List.getD_eq_getElem?_getD, List.getElem?_eq_none (by omega)]; exact Nat.zero_le _
def FNames (l : List Bs) : Bool := allN (fun i => FText (l.getD i []) && (decide (i = 0) || Op.bytesLess (l.getD (i - 1) []) (l.getD i []))) l.length
theorem impl_namesOk_ev {l : List Bs} (h : lenNs topN l) : Ev (fun n _ => impl_namesOk n l) (FNames l) := by
  refine ev_succ ?_
  simp only [impl_namesOk]
  refine ev_congr (ev_all (fun n N i => impl_namesOk.loop3 n (some true) N l l (l.length : Int) (i : Int)) (fun i => FText (l.getD i []) && (decide (i = 0) || Op.bytesLess (l.getD (i - 1) []) (l.getD i []))) (len := l.length) (v := true) (fun i w hi ih => ?_) ?_) (by rw [Bool.and_true]; rfl)
  · simp only [impl_namesOk.turn3, impl_namesOk.step3, Int.toNat_natCast, W_up hi h.1, W_dn (i := i) (by have := h.1; omega), toNat_dn, ev_cond, ev_inB, ev_bind (impl_textOk_ev (getD_text h i)), ev_some, ev_iff ih, lt_up hi, in_up hi]
    clear ih
    repeat' (first | apply And.intro | intro _)
    all_goals (try rw [Bool.eq_iff_iff])
    all_goals (try simp only [Bool.not_eq_true', Bool.not_eq_false', decide_eq_true_eq, decide_eq_false_iff_not, Bool.and_eq_true, Bool.or_eq_true, Bool.and_eq_false_iff, Bool.or_eq_false_iff] at *)
    all_goals grind
  · simp only [impl_namesOk.turn3, impl_namesOk.step3, lt_end, cond_false, ev_some]
def FNamesJ (j : TJson) : Bool := cond (j.kind != 5) ((j.names.length : Int) == 0) (FNames j.names && ((j.names.length : Int) == (j.list.length : Int)))
theorem spec_l1Names_ev {j : TJson} (h : lenNs topN j.names) : Ev (fun n _ => spec_l1Names n j) (FNamesJ j) := by
  refine ev_succ ?_
  have hl : Ev (fun n _ => spec_l1Names.loop6 n (fun xy2 xy3 xy4 xy5 xy6 => (some ((xy6.length : Int) == (xy5.length : Int)))) n 0 j.kind j.n_ j.s j.list j.names) (FNames j.names && ((j.names.length : Int) == (j.list.length : Int))) := by
    refine ev_all (fun n N i => spec_l1Names.loop6 n (fun xy2 xy3 xy4 xy5 xy6 => (some ((xy6.length : Int) == (xy5.length : Int)))) N (i : Int) j.kind j.n_ j.s j.list j.names) _ (fun i w hi ih => ?_) ?_
    · simp only [spec_l1Names.turn6, spec_l1Names.step6, Int.toNat_natCast, W_up hi h.1, W_dn (i := i) (by have := h.1; omega), toNat_dn, ev_cond, ev_inB, ev_bind (spec_l1Text_ev (getD_text h i)), ev_some, ev_iff ih, lt_up hi, in_up hi]
      clear ih
      repeat' (first | apply And.intro | intro _)
      all_goals (try rw [Bool.eq_iff_iff])
      all_goals (try simp only [Bool.not_eq_true', Bool.not_eq_false', decide_eq_true_eq, decide_eq_false_iff_not, Bool.and_eq_true, Bool.or_eq_true, Bool.and_eq_false_iff, Bool.or_eq_false_iff] at *)
      all_goals grind
    · simp only [spec_l1Names.turn6, spec_l1Names.step6, lt_end, cond_false, ev_some]
  simp only [spec_l1Names, ev_cond, ev_some, ev_iff hl, FNamesJ]
  cases (j.kind != 5) <;> simp
end Go.Pi
end
section
set_option linter.unusedVariables false
set_option maxRecDepth 100000
set_option linter.unusedSimpArgs false
namespace Go.Pi
theorem kindCases (k : Int) : k = 0 ∨ k = 1 ∨ k = 2 ∨ k = 3 ∨ k = 4 ∨ k = 5 ∨ (k ≠ 0 ∧ k ≠ 1 ∧ k ≠ 2 ∧ k ≠ 3 ∧ k ≠ 4 ∧ k ≠ 5) := by omega
theorem len_pos {α : Type} (l : List α) : decide (l.length = 0) = !decide ((l.length : Int) > 0) := by
  by_cases hz : l.length = 0
  · rw [hz]; rfl
  · rw [decide_eq_false hz, decide_eq_true (show (l.length : Int) > 0 by omega)]; rfl
def FOwnK (j : TJson) : Bool :=
  cond (j.kind == 1) (inn j.n_ 0 1) (cond (j.kind == 2) (inn j.n_ (-1000000000) 1000000000) (cond (j.kind == 3) (FText j.s) (cond (j.kind == 5) (((j.names.length : Int) == (j.list.length : Int)) && FNames j.names) ((j.kind == 0) || (j.kind == 4)))))
def FOwn (j : TJson) : Bool :=
  (decide (j.list.length = 0) || ((j.kind == 4) || (j.kind == 5))) && ((decide (j.names.length = 0) || (j.kind == 5)) && (((j.n_ == 0) || ((j.kind == 1) || (j.kind == 2))) && (((j.s == []) || (j.kind == 3)) && FOwnK j)))
def lenJ1 (j : TJson) : Prop := j.s.length ≤ topN ∧ lenNs topN j.names
theorem impl_ownOk_ev {j : TJson} (h : lenJ1 j) : Ev (fun n _ => impl_ownOk n j) (FOwn j) := by
  refine ev_succ ?_
  simp only [impl_ownOk, ev_cond, within_b, isNum_b, ev_bind (impl_textOk_ev h.1), ev_bind (impl_namesOk_ev h.2), ev_some]
  unfold FOwn FOwnK
  have e1 := len_pos j.list
  have e2 := len_pos j.names
  rw [e1, e2]
  generalize decide ((j.list.length : Int) > 0) = a
  generalize decide ((j.names.length : Int) > 0) = b
  generalize (j.s == []) = c
  have e3 : (j.n_ != 0) = !(j.n_ == 0) := rfl
  rw [e3]
  generalize hd : (j.n_ == 0) = d
  generalize FText j.s = ft
  generalize FNames j.names = fn
  generalize ((j.names.length : Int) == (j.list.length : Int)) = eq
  rcases kindCases j.kind with hk | hk | hk | hk | hk | hk | ⟨k0, k1, k2, k3, k4, k5⟩
  all_goals (first | simp only [hk] | simp only [beq_eq_false_iff_ne.2 k0, beq_eq_false_iff_ne.2 k1, beq_eq_false_iff_ne.2 k2, beq_eq_false_iff_ne.2 k3, beq_eq_false_iff_ne.2 k4, beq_eq_false_iff_ne.2 k5, bne])
  all_goals (cases a <;> cases b <;> cases c <;> cases d <;> simp)
  all_goals (cases eq <;> simp)
/-- the size of a value, at most so deep; 401: it is not right -/
def FSize : Nat → TJson → Nat
  | 0, _ => 401
  | d + 1, j => cond (FOwn j) (min 401 (1 + sumL (FSize d) j.list)) 401
theorem FSize_le : ∀ (d : Nat) (j : TJson), FSize d j ≤ 401
  | 0, _ => Nat.le_refl _
  | d + 1, j => by
    simp only [FSize]
    cases FOwn j <;> simp only [cond_true, cond_false] <;> omega
/-- what is asked of the lengths, so deep -/
def lenJ : Nat → TJson → Prop
  | 0, _ => True
  | d + 1, j => lenJ1 j ∧ j.list.length ≤ topN ∧ ∀ x ∈ j.list, lenJ d x
theorem getD_json {d : Nat} {l : List TJson} (h : ∀ x ∈ l, lenJ d x) {i : Nat} (hi : i < l.length) : lenJ d (l.getD i TJson.dflt) := h _ (getD_mem _ hi)
theorem impl_sizeIn_ev : ∀ (d : Nat) (j : TJson), d ≤ 1000 → lenJ d j → Ev (fun n _ => impl_sizeIn n j (d : Int)) (FSize d j : Int)
  | 0, j, _, _ => by
    refine ev_succ ?_
    simp only [impl_sizeIn, ev_cond, ev_some]
    exact ⟨fun _ => rfl, fun h => by simp at h⟩
  | d + 1, j, hd, h => by
    refine ev_succ ?_
    have hW : W (((d + 1 : Nat) : Int) - 1) = (d : Int) := by rw [W_id (by omega) (by omega)]; omega
    simp only [impl_sizeIn, json_re, ev_cond, ev_bind (impl_ownOk_ev h.1), ev_some, FSize]
    refine ⟨fun hc => by have := of_decide_eq_true hc; omega, fun _ => ?_⟩
    cases ho : FOwn j with
    | false => exact ⟨fun _ => rfl, fun h => by cases h⟩
    | true =>
      refine ⟨fun h => (by cases h), fun _ => ?_⟩
      have ht := h.2.1
      have key : ∀ (k i : Nat) (s : Nat), k + i = j.list.length → s ≤ 400 → Ev (fun n N => impl_sizeIn.loop7 n (impl_sizeIn n) (fun xy3 => some xy3) N ((d + 1 : Nat) : Int) (s : Int) j.list (j.list.length : Int) (i : Int)) ((min 401 (s + sumL (FSize d) (j.list.drop i)) : Nat) : Int) := by
        intro k
        induction k with
        | zero =>
          intro i s hi hs
          have : i = j.list.length := by omega
          subst this
          refine ev_round ?_
          simp only [impl_sizeIn.turn7, impl_sizeIn.step7, lt_end, cond_false, ev_some, List.drop_length, sumL]
          omega
        | succ k ih =>
          intro i s hi hs
          have hlt : i < j.list.length := by omega
          refine ev_round ?_
          have hc := impl_sizeIn_ev d (j.list.getD i TJson.dflt) (by omega) (getD_json h.2.2 hlt)
          have hle := FSize_le d (j.list.getD i TJson.dflt)
          have hw : W ((s : Int) + (FSize d (j.list.getD i TJson.dflt) : Int)) = ((s + FSize d (j.list.getD i TJson.dflt) : Nat) : Int) := by rw [W_id (by omega) (by omega)]; omega
          simp only [impl_sizeIn.turn7, impl_sizeIn.step7, json_re, Int.toNat_natCast, hW, W_up hlt ht, ev_cond, ev_inB, lt_up hlt, in_up hlt, ev_bind hc, hw, ev_some]
          rw [sumL_drop (FSize d) TJson.dflt hlt]
          refine ⟨fun _ => ⟨trivial, fun hg => ?_, fun hg => ?_⟩, fun h => (by cases h)⟩
          · have := of_decide_eq_true hg; omega
          · have := of_decide_eq_false hg
            rw [show s + (FSize d (j.list.getD i TJson.dflt) + sumL (FSize d) (j.list.drop (i + 1))) = (s + FSize d (j.list.getD i TJson.dflt)) + sumL (FSize d) (j.list.drop (i + 1)) by omega]
            exact ih (i + 1) _ (by omega) (by omega)
      have := key j.list.length 0 1 (by omega) (by omega)
      rw [List.drop_zero] at this
      exact ev_diag (f := fun n N => impl_sizeIn.loop7 n (impl_sizeIn n) (fun xy3 => some xy3) N ((d + 1 : Nat) : Int) 1 j.list (j.list.length : Int) 0) this
def FJsonOk (j : TJson) : Bool := decide (FSize 6 j ≤ 400)
theorem impl_JsonOk_ev {j : TJson} (h : lenJ 6 j) : Ev (fun n _ => impl_JsonOk n j) (FJsonOk j) := by
  refine ev_succ ?_
  have e : Ev (fun n _ => impl_sizeIn n j 6) (FSize 6 j : Int) := impl_sizeIn_ev 6 j (by omega) h
  simp only [impl_JsonOk, json_re, ev_bind e, ev_some, FJsonOk]
  by_cases hq : FSize 6 j ≤ 400
  · rw [decide_eq_true hq, decide_eq_true (by omega)]
  · rw [decide_eq_false hq, decide_eq_false (by omega)]
end Go.Pi
end
section
set_option linter.unusedVariables false
set_option maxRecDepth 100000
set_option linter.unusedSimpArgs false
namespace Go.Pi
/-- the reference's size: beyond 400 it may be more -/
def Great (d : Nat) (j : TJson) : Prop := ∃ v : Nat, v ≤ 401 + 401 * d ∧ min 401 v = FSize d j ∧ Ev (fun n _ => spec_l1Great n j (d : Int)) (v : Int)
theorem great_loop {d : Nat} {l : List TJson} (hd : d ≤ 1000) (ht : l.length ≤ topN) (ih : ∀ x ∈ l, Great d x) (kd nn : Int) (s : Bs) (ns : List Bs) :
    ∃ w : Nat, w ≤ 401 + 401 * (d + 1) ∧ min 401 w = min 401 (1 + sumL (FSize d) l) ∧ ∀ (K : Nat → spec_l1Great.K23_1) (F : Int), Ev (fun n N => K n 401 (w : Int) kd nn s l ns) F → Ev (fun n _ => spec_l1Great.loop23 n (spec_l1Great n) (K n) n ((d + 1 : Nat) : Int) 401 1 0 kd nn s l ns) F := by
  have hW : W (((d + 1 : Nat) : Int) - 1) = (d : Int) := by rw [W_id (by omega) (by omega)]; omega
  have key : ∀ (k i : Nat) (m : Nat), k + i = l.length → m ≤ 401 + 401 * (d + 1) → ∃ w : Nat, w ≤ 401 + 401 * (d + 1) ∧ min 401 w = min 401 (m + sumL (FSize d) (l.drop i)) ∧ ∀ (K : Nat → spec_l1Great.K23_1) (F : Int), Ev (fun n N => K n 401 (w : Int) kd nn s l ns) F →
      Ev (fun n N => spec_l1Great.loop23 n (spec_l1Great n) (K n) N ((d + 1 : Nat) : Int) 401 (m : Int) (i : Int) kd nn s l ns) F := by
    intro k
    induction k with
    | zero =>
      intro i m hi hm
      have : i = l.length := by omega
      subst this
      refine ⟨m, hm, by simp [sumL], fun K F hF => ev_round ?_⟩
      simp only [spec_l1Great.turn23, spec_l1Great.step23, lt_end, cond_false]
      exact hF
    | succ k ihk =>
      intro i m hi hm
      have hlt : i < l.length := by omega
      by_cases hg : m ≤ 400
      · obtain ⟨v, hv1, hv2, hv3⟩ := ih _ (getD_mem TJson.dflt hlt)
        have hw : W ((m : Int) + (v : Int)) = ((m + v : Nat) : Int) := by rw [W_id (by omega) (by omega)]; omega
        obtain ⟨w, a1, a2, a3⟩ := ihk (i + 1) (m + v) (by omega) (by omega)
        refine ⟨w, a1, ?_, fun K F hF => ev_round ?_⟩
        · rw [a2, sumL_drop (FSize d) TJson.dflt hlt, ← hv2]; omega
        · simp only [spec_l1Great.turn23, spec_l1Great.step23, json_re, Int.toNat_natCast, hW, W_up hlt ht, ev_cond, ev_inB, lt_up hlt, in_up hlt, ev_bind hv3, hw]
          exact ⟨fun _ => ⟨fun _ => ⟨trivial, a3 K F hF⟩, fun h => by have := of_decide_eq_false h; omega⟩, fun h => (by cases h)⟩
      · refine ⟨m, hm, by omega, fun K F hF => ev_round ?_⟩
        simp only [spec_l1Great.turn23, spec_l1Great.step23, Int.toNat_natCast, ev_cond, lt_up hlt]
        exact ⟨fun _ => ⟨fun h => by have := of_decide_eq_true h; omega, fun _ => hF⟩, fun h => (by cases h)⟩
  obtain ⟨w, a1, a2, a3⟩ := key l.length 0 1 (by omega) (by omega)
  rw [List.drop_zero] at a2
  exact ⟨w, a1, a2, fun K F hF => ev_diag (f := fun n N => spec_l1Great.loop23 n (spec_l1Great n) (K n) N ((d + 1 : Nat) : Int) 401 1 0 kd nn s l ns) (a3 K F hF)⟩
theorem json_eta (j : TJson) : TJson.mk j.kind j.n_ j.s j.list j.names = j := by cases j; rfl
theorem sumL_nil {α : Type} (f : α → Nat) : sumL f [] = 0 := rfl
theorem spec_l1Great_ev : ∀ (d : Nat) (j : TJson), d ≤ 1000 → lenJ d j → Great d j
  | 0, j, _, _ => by
    refine ⟨401, by omega, rfl, ev_succ ?_⟩
    simp only [spec_l1Great, ev_cond, ev_some]
    exact ⟨fun _ => rfl, fun h => by simp at h⟩
  | d + 1, j, hd, h => by
    obtain ⟨w, w1, w2, w3⟩ := great_loop (d := d) (l := j.list) (by omega) h.2.1 (fun x hx => spec_l1Great_ev d x (by omega) (h.2.2 x hx)) j.kind j.n_ j.s j.names
    have hz : ((((d + 1 : Nat) : Int)) == 0) = false := by simp; omega
    have hN := spec_l1Names_ev (j := j) h.1.2
    obtain ⟨v, hv⟩ : ∃ v : Nat, v = cond (FOwn j) (cond ((j.kind == 4) || (j.kind == 5)) w 1) 401 := ⟨_, rfl⟩
    refine ⟨v, ?_, ?_, ev_succ ?_⟩
    · rw [hv]; cases FOwn j <;> cases ((j.kind == 4) || (j.kind == 5)) <;> simp only [cond_true, cond_false] <;> omega
    · rw [hv]
      simp only [FSize]
      cases ho : FOwn j with
      | false => rfl
      | true =>
        cases hk : ((j.kind == 4) || (j.kind == 5)) with
        | true => simp only [cond_true]; exact w2
        | false =>
          have : j.list = [] := by
            unfold FOwn at ho
            rw [hk, Bool.or_false] at ho
            simp only [Bool.and_eq_true, decide_eq_true_eq] at ho
            exact List.eq_nil_of_length_eq_zero ho.1
          rw [this]; rfl
    · have hT := spec_l1Text_ev (s := j.s) h.1.1
      have e1 := len_pos j.list
      have e2 := len_pos j.names
      have e4 : ((j.names.length : Int) == 0) = !decide ((j.names.length : Int) > 0) := by
        by_cases hz : j.names.length = 0
        · rw [hz]; rfl
        · rw [beq_eq_false_iff_ne.2 (show (j.names.length : Int) ≠ 0 by omega), decide_eq_true (show (j.names.length : Int) > 0 by omega)]; rfl
      subst hv
      unfold FOwn FOwnK
      unfold FNamesJ at hN
      rw [e1, e2]
      rw [e4] at hN
      simp only [spec_l1Great, json_re, hz, cond_false, ev_cond, l1In_b, ev_bind hT, ev_bind hN, ev_some, bne]
      rcases kindCases j.kind with hk | hk | hk | hk | hk | hk | ⟨k0, k1, k2, k3, k4, k5⟩
      case inr.inr.inr.inr.inl =>
        have hj : TJson.mk 4 j.n_ j.s j.list j.names = j := by rw [← hk]; exact json_eta j
        rw [hk] at w3
        simp only [hk, Int.reduceBEq, Int.reduceLT, Int.reduceLE, Int.reduceNeg, ge_iff_le, gt_iff_lt, decide_true, decide_false, Bool.not_false, Bool.not_true, Bool.or_true, Bool.true_or, Bool.or_false, Bool.false_or, Bool.and_true, Bool.true_and, Bool.not_not, forall_const, reduceCtorEq, false_implies, true_and, and_true, implies_true, cond_true, cond_false] at hN ⊢
        refine w3 _ _ ?_
        simp only [hj, ev_cond, ev_bind hN, ev_some, Int.reduceBEq, Int.reduceLT, Int.reduceLE, Int.reduceNeg, ge_iff_le, gt_iff_lt, decide_true, decide_false, Bool.not_false, Bool.not_true, Bool.or_true, Bool.true_or, Bool.or_false, Bool.false_or, Bool.and_true, Bool.true_and, Bool.not_not, forall_const, reduceCtorEq, false_implies, true_and, and_true, implies_true, cond_true, cond_false]
        clear hN w3 hT e1 e2 e4 hj
        generalize decide (0 < (j.names.length : Int)) = b
        generalize (j.s == []) = c
        generalize hd : (j.n_ == 0) = dd
        cases b <;> cases c <;> cases dd <;> simp
      case inr.inr.inr.inr.inr.inl =>
        have hj : TJson.mk 5 j.n_ j.s j.list j.names = j := by rw [← hk]; exact json_eta j
        rw [hk] at w3
        simp only [hk, Int.reduceBEq, Int.reduceLT, Int.reduceLE, Int.reduceNeg, ge_iff_le, gt_iff_lt, decide_true, decide_false, Bool.not_false, Bool.not_true, Bool.or_true, Bool.true_or, Bool.or_false, Bool.false_or, Bool.and_true, Bool.true_and, Bool.not_not, forall_const, reduceCtorEq, false_implies, true_and, and_true, implies_true, cond_true, cond_false] at hN ⊢
        refine w3 _ _ ?_
        simp only [hj, ev_cond, ev_bind hN, ev_some, Int.reduceBEq, Int.reduceLT, Int.reduceLE, Int.reduceNeg, ge_iff_le, gt_iff_lt, decide_true, decide_false, Bool.not_false, Bool.not_true, Bool.or_true, Bool.true_or, Bool.or_false, Bool.false_or, Bool.and_true, Bool.true_and, Bool.not_not, forall_const, reduceCtorEq, false_implies, true_and, and_true, implies_true, cond_true, cond_false]
        clear hN w3 hT e1 e2 e4 hj
        generalize FNames j.names = fn
        generalize ((j.names.length : Int) == (j.list.length : Int)) = eq
        generalize (j.s == []) = c
        generalize hd : (j.n_ == 0) = dd
        cases fn <;> cases eq <;> cases c <;> cases dd <;> simp
      case inr.inr.inr.inr.inr.inr =>
        simp only [beq_eq_false_iff_ne.2 k0, beq_eq_false_iff_ne.2 k1, beq_eq_false_iff_ne.2 k2, beq_eq_false_iff_ne.2 k3, beq_eq_false_iff_ne.2 k4, beq_eq_false_iff_ne.2 k5, Int.reduceBEq, Int.reduceLT, Int.reduceLE, Int.reduceNeg, ge_iff_le, gt_iff_lt, decide_true, decide_false, Bool.not_false, Bool.not_true, Bool.or_true, Bool.true_or, Bool.or_false, Bool.false_or, Bool.and_true, Bool.true_and, Bool.not_not, forall_const, reduceCtorEq, false_implies, true_and, and_true, implies_true, cond_true, cond_false, Bool.and_false, Bool.false_and]
        rfl
      all_goals (
        simp only [hk, Int.reduceBEq, Int.reduceLT, Int.reduceLE, Int.reduceNeg, ge_iff_le, gt_iff_lt, decide_true, decide_false, Bool.not_false, Bool.not_true, Bool.or_true, Bool.true_or, Bool.or_false, Bool.false_or, Bool.and_true, Bool.true_and, Bool.not_not, forall_const, reduceCtorEq, false_implies, true_and, and_true, implies_true, cond_true, cond_false]
        clear hN w3 hT e1 e2 e4
        generalize decide (0 < (j.names.length : Int)) = b
        generalize decide (0 < (j.list.length : Int)) = a
        generalize (j.s == []) = c
        generalize hd : (j.n_ == 0) = dd
        generalize inn j.n_ 0 1 = i1
        generalize inn j.n_ (-1000000000) 1000000000 = i2
        generalize FText j.s = ft
        cases a <;> cases b <;> cases c <;> cases dd <;> cases i1 <;> cases i2 <;> cases ft <;> simp)
/-- it is right: no more than 400 -/
theorem spec_JsonOk_ev {j : TJson} (h : lenJ 6 j) : Ev (fun n _ => spec_JsonOk n j) (FJsonOk j) := by
  refine ev_succ ?_
  obtain ⟨v, v1, v2, v3⟩ := spec_l1Great_ev 6 j (by omega) h
  have e : Ev (fun n _ => spec_l1Great n j 6) (v : Int) := v3
  simp only [spec_JsonOk, json_re, ev_bind e, ev_some, FJsonOk]
  by_cases hq : FSize 6 j ≤ 400
  · rw [decide_eq_true hq, decide_eq_true (by omega)]
  · rw [decide_eq_false hq, decide_eq_false (by omega)]
end Go.Pi
end
section
set_option linter.unusedVariables false
set_option maxRecDepth 100000
set_option linter.unusedSimpArgs false
namespace Go.Pi
/-- no deeper than so -/
def deepJ : Nat → TJson → Prop
  | 0, _ => False
  | d + 1, j => ∀ x ∈ j.list, deepJ d x
theorem FSize_deep : ∀ (d : Nat) (j : TJson), FSize d j ≤ 400 → deepJ d j
  | 0, j, h => by simp only [FSize] at h; omega
  | d + 1, j, h => fun x hx => by
    refine FSize_deep d x ?_
    simp only [FSize] at h
    have := sumL_le (FSize d) hx
    cases ho : FOwn j with
    | false => rw [ho] at h; simp only [cond_false] at h; omega
    | true => rw [ho] at h; simp only [cond_true] at h; omega
def FTexts2 (a b : List Bs) : Bool := decide (a.length = b.length) && allN (fun i => a.getD i [] == b.getD i []) a.length
def FAlike : Nat → TJson → TJson → Bool
  | 0, _, _ => true
  | d + 1, a, b => (a.kind == b.kind) && ((a.n_ == b.n_) && ((a.s == b.s) && (FTexts2 a.names b.names && (decide (a.list.length = b.list.length) && allN (fun i => FAlike d (a.list.getD i TJson.dflt) (b.list.getD i TJson.dflt)) a.list.length))))
theorem ne_len {n m : Nat} : ((n : Int) != (m : Int)) = !decide (n = m) := by
  by_cases h : n = m
  · rw [h, decide_eq_true rfl]; simp
  · rw [decide_eq_false h]; simp; omega
theorem Equal_string_ev {a b : List Bs} (ha : a.length ≤ topN) : Ev (fun n _ => slices_Equal_string n a b) (FTexts2 a b) := by
  refine ev_succ ?_
  simp only [slices_Equal_string, ne_len, ev_cond, ev_some]
  unfold FTexts2
  by_cases hl : a.length = b.length
  · rw [decide_eq_true hl]
    refine ⟨fun h => (by cases h), fun _ => ?_⟩
    refine ev_congr (ev_all (fun n N i => slices_Equal_string.loop6 n (some true) N a b (a.length : Int) (i : Int)) (fun i => a.getD i [] == b.getD i []) (len := a.length) (v := true) (fun i w hi ih => ?_) ?_) (by rw [Bool.and_true, Bool.true_and])
    · simp only [slices_Equal_string.turn6, slices_Equal_string.step6, Int.toNat_natCast, W_up hi ha, ev_cond, ev_inB, ev_some, ev_iff ih, lt_up hi, in_up hi, in_up (hl ▸ hi)]
      cases (a.getD i [] == b.getD i []) <;> simp
    · simp only [slices_Equal_string.turn6, slices_Equal_string.step6, lt_end, cond_false, ev_some]
  · rw [decide_eq_false hl]
    exact ⟨fun _ => rfl, fun h => (by cases h)⟩
theorem impl_alike_ev : ∀ (d : Nat) (a b : TJson), deepJ d a → lenJ d a → Ev (fun n _ => impl_alike n a b) (FAlike d a b)
  | 0, a, b, h, _ => h.elim
  | d + 1, a, b, h, hl => by
    refine ev_succ ?_
    have hE : Ev (fun n _ => slices_EqualFunc_Json_impl_alike n a.list b.list) (decide (a.list.length = b.list.length) && allN (fun i => FAlike d (a.list.getD i TJson.dflt) (b.list.getD i TJson.dflt)) a.list.length) := by
      refine ev_succ ?_
      simp only [slices_EqualFunc_Json_impl_alike, ne_len, ev_cond, ev_some]
      by_cases hq : a.list.length = b.list.length
      · rw [decide_eq_true hq]
        refine ⟨fun h => (by cases h), fun _ => ?_⟩
        refine ev_congr (ev_all (fun n N i => slices_EqualFunc_Json_impl_alike.loop6 n (impl_alike n) (some true) N b.list a.list (a.list.length : Int) (i : Int)) (fun i => FAlike d (a.list.getD i TJson.dflt) (b.list.getD i TJson.dflt)) (len := a.list.length) (v := true) (fun i w hi ih => ?_) ?_) (by rw [Bool.and_true, Bool.true_and])
        · have hx := impl_alike_ev d (a.list.getD i TJson.dflt) (b.list.getD i TJson.dflt) (h _ (getD_mem _ hi)) (hl.2.2 _ (getD_mem _ hi))
          simp only [slices_EqualFunc_Json_impl_alike.turn6, slices_EqualFunc_Json_impl_alike.step6, json_re, Int.toNat_natCast, W_up hi hl.2.1, ev_cond, ev_inB, ev_bind hx, ev_some, ev_iff ih, lt_up hi, in_up hi, in_up (hq ▸ hi)]
          cases FAlike d (a.list.getD i TJson.dflt) (b.list.getD i TJson.dflt) <;> simp
        · simp only [slices_EqualFunc_Json_impl_alike.turn6, slices_EqualFunc_Json_impl_alike.step6, lt_end, cond_false, ev_some]
      · rw [decide_eq_false hq]
        exact ⟨fun _ => rfl, fun h => (by cases h)⟩
    simp only [impl_alike, ev_cond, ev_bind (Equal_string_ev (b := b.names) hl.1.2.1), ev_bind hE, ev_some, FAlike]
    cases (a.kind == b.kind) <;> cases (a.n_ == b.n_) <;> cases (a.s == b.s) <;> cases FTexts2 a.names b.names <;> simp
theorem spec_l1Same_ev : ∀ (d : Nat) (a b : TJson), deepJ d a → lenJ d a → Ev (fun n _ => spec_l1Same n a b) (FAlike d a b)
  | 0, a, b, h, _ => h.elim
  | d + 1, a, b, h, hl => by
    refine ev_succ ?_
    simp only [spec_l1Same, ne_len, ev_cond, ev_some, FAlike, FTexts2]
    by_cases hq : a.list.length = b.list.length
    · by_cases hq2 : a.names.length = b.names.length
      · have hN : Ev (fun n _ => spec_l1Same.loop14 n (spec_l1Same n) (some true) n 0 a.kind a.n_ a.s a.list a.names b.kind b.n_ b.s b.list b.names) (allN (fun i => a.names.getD i [] == b.names.getD i []) a.names.length) := by
          refine ev_congr (ev_all (fun n N i => spec_l1Same.loop14 n (spec_l1Same n) (some true) N (i : Int) a.kind a.n_ a.s a.list a.names b.kind b.n_ b.s b.list b.names) (fun i => a.names.getD i [] == b.names.getD i []) (len := a.names.length) (v := true) (fun i w hi ih => ?_) ?_) (by rw [Bool.and_true])
          · simp only [spec_l1Same.turn14, spec_l1Same.step14, Int.toNat_natCast, W_up hi hl.1.2.1, ev_cond, ev_inB, ev_some, ev_iff ih, lt_up hi, in_up hi, in_up (hq2 ▸ hi)]
            cases (a.names.getD i [] == b.names.getD i []) <;> simp
          · simp only [spec_l1Same.turn14, spec_l1Same.step14, lt_end, cond_false, ev_some]
        have hL : Ev (fun n _ => spec_l1Same.loop6 n (spec_l1Same n) (fun xy2 xy3 xy4 xy5 xy6 xy7 xy8 xy9 xy10 xy11 => (spec_l1Same.loop14 n (spec_l1Same n) (some true) n 0 xy2 xy3 xy4 xy5 xy6 xy7 xy8 xy9 xy10 xy11)) n 0 a.kind a.n_ a.s a.list a.names b.kind b.n_ b.s b.list b.names) (allN (fun i => FAlike d (a.list.getD i TJson.dflt) (b.list.getD i TJson.dflt)) a.list.length && allN (fun i => a.names.getD i [] == b.names.getD i []) a.names.length) := by
          refine ev_all (fun n N i => spec_l1Same.loop6 n (spec_l1Same n) (fun xy2 xy3 xy4 xy5 xy6 xy7 xy8 xy9 xy10 xy11 => (spec_l1Same.loop14 n (spec_l1Same n) (some true) n 0 xy2 xy3 xy4 xy5 xy6 xy7 xy8 xy9 xy10 xy11)) N (i : Int) a.kind a.n_ a.s a.list a.names b.kind b.n_ b.s b.list b.names) _ (fun i w hi ih => ?_) ?_
          · have hx := spec_l1Same_ev d (a.list.getD i TJson.dflt) (b.list.getD i TJson.dflt) (h _ (getD_mem _ hi)) (hl.2.2 _ (getD_mem _ hi))
            simp only [spec_l1Same.turn6, spec_l1Same.step6, json_re, Int.toNat_natCast, W_up hi hl.2.1, ev_cond, ev_inB, ev_bind hx, ev_some, ev_iff ih, lt_up hi, in_up hi, in_up (hq ▸ hi)]
            cases FAlike d (a.list.getD i TJson.dflt) (b.list.getD i TJson.dflt) <;> simp
          · simp only [spec_l1Same.turn6, spec_l1Same.step6, lt_end, cond_false]
            exact hN
        rw [decide_eq_true hq, decide_eq_true hq2]
        simp only [ev_iff hL, bne]
        generalize allN (fun i => FAlike d (a.list.getD i TJson.dflt) (b.list.getD i TJson.dflt)) a.list.length = u
        generalize allN (fun i => a.names.getD i [] == b.names.getD i []) a.names.length = w
        cases (a.kind == b.kind) <;> cases (a.n_ == b.n_) <;> cases (a.s == b.s) <;> cases u <;> cases w <;> simp
      · rw [decide_eq_false hq2]
        simp only [bne]
        cases (a.kind == b.kind) <;> cases (a.n_ == b.n_) <;> cases (a.s == b.s) <;> cases decide (a.list.length = b.list.length) <;> simp
    · rw [decide_eq_false hq]
      simp only [bne]
      cases (a.kind == b.kind) <;> cases (a.n_ == b.n_) <;> cases (a.s == b.s) <;> simp
def FJsonSame (a b : TJson) : Bool := FJsonOk a && (FJsonOk b && FAlike 6 a b)
theorem impl_JsonSame_ev {a b : TJson} (ha : lenJ 6 a) (hb : lenJ 6 b) : Ev (fun n _ => impl_JsonSame n a b) (FJsonSame a b) := by
  refine ev_succ ?_
  simp only [impl_JsonSame, json_re, ev_bind (impl_JsonOk_ev ha), ev_bind (impl_JsonOk_ev hb), ev_cond, ev_some, FJsonSame]
  cases h1 : FJsonOk a with
  | false => simp
  | true =>
    have hd : deepJ 6 a := FSize_deep 6 a (of_decide_eq_true h1)
    simp only [ev_bind (impl_alike_ev 6 a b hd ha), ev_some]
    cases FJsonOk b <;> simp
theorem spec_JsonSame_ev {a b : TJson} (ha : lenJ 6 a) (hb : lenJ 6 b) : Ev (fun n _ => spec_JsonSame n a b) (FJsonSame a b) := by
  refine ev_succ ?_
  simp only [spec_JsonSame, json_re, ev_bind (spec_JsonOk_ev ha), ev_bind (spec_JsonOk_ev hb), ev_cond, ev_some, FJsonSame]
  cases h1 : FJsonOk a with
  | false => simp
  | true =>
    have hd : deepJ 6 a := FSize_deep 6 a (of_decide_eq_true h1)
    simp only [ev_bind (spec_l1Same_ev 6 a b hd ha), ev_some]
    cases FJsonOk b <;> simp
end Go.Pi
end
section
set_option linter.unusedVariables false
set_option maxRecDepth 100000
set_option linter.unusedSimpArgs false
namespace Go.Pi
def FKidsIn (kids : List TKid) (id : Int) : Int := foldFrom (fun i x => cond ((kids.getD i TKid.dflt).id_ == id) (kids.getD i TKid.dflt).n_ x) 0 kids.length 0
theorem spec_KidsIn_ev {v : TView} {id : Int} (h : v.kids.length ≤ topN) : Ev (fun n _ => spec_KidsIn n v id) (FKidsIn v.kids id) := by
  refine ev_succ ?_
  simp only [spec_KidsIn]
  refine ev_fold (fun n N i => spec_KidsIn.loop3 n (some 0) N id (i : Int) v.q.table v.q.where_ v.q.order v.q.down v.q.first v.q.show_ v.q.kids v.q.kidTable v.q.kidCol v.rows v.kids) _ (fun i u hi ih => ?_) ?_
  · simp only [spec_KidsIn.turn3, spec_KidsIn.step3, Int.toNat_natCast, W_up hi h, ev_cond, ev_inB, ev_some, ev_iff ih, lt_up hi, in_up hi]
    cases ((v.kids.getD i TKid.dflt).id_ == id) <;> simp
  · simp only [spec_KidsIn.turn3, spec_KidsIn.step3, lt_end, cond_false, ev_some]
theorem impl_KidsIn_ev {v : TView} {id : Int} (h : v.kids.length ≤ topN) : Ev (fun n _ => impl_KidsIn n v id) (FKidsIn v.kids id) := by
  refine ev_succ ?_
  simp only [impl_KidsIn]
  refine ev_fold (fun n N i => impl_KidsIn.loop3 n (some 0) N id v.kids (v.kids.length : Int) (i : Int)) _ (fun i u hi ih => ?_) ?_
  · simp only [impl_KidsIn.turn3, impl_KidsIn.step3, Int.toNat_natCast, W_up hi h, ev_cond, ev_inB, ev_some, ev_iff ih, lt_up hi, in_up hi]
    cases ((v.kids.getD i TKid.dflt).id_ == id) <;> simp
  · simp only [impl_KidsIn.turn3, impl_KidsIn.step3, lt_end, cond_false, ev_some]
def FCounts (v : TView) : List Int := v.rows.map fun r => FKidsIn v.kids r.id_
theorem view_eta (v : TView) : TView.mk (TQuery.mk v.q.table v.q.where_ v.q.order v.q.down v.q.first v.q.show_ v.q.kids v.q.kidTable v.q.kidCol) v.rows v.kids = v := rfl
theorem spec_l13Counts_ev {v : TView} (h : v.kids.length ≤ topN) (hr : v.rows.length ≤ capR) : Ev (fun n _ => spec_l13Counts n v) (FCounts v) := by
  refine ev_succ ?_
  have hl := hr
  simp only [capR] at hl
  simp only [spec_l13Counts]
  refine ev_map TRow.dflt v.rows (fun r => FKidsIn v.kids r.id_) (fun n N i s => spec_l13Counts.loop4 n (fun xy2 => (some xy2)) N (i : Int) v.q.table v.q.where_ v.q.order v.q.down v.q.first v.q.show_ v.q.kids v.q.kidTable v.q.kidCol v.rows v.kids s) (FCounts v) (fun i s hi hs F hF => ?_) ?_
  · simp only [spec_l13Counts.turn4, spec_l13Counts.step4, view_eta, Int.toNat_natCast, W_up hi (show v.rows.length ≤ topN by simp only [topN]; omega), ev_cond, ev_inB, ev_bind (spec_KidsIn_ev (v := v) (id := (v.rows.getD i TRow.dflt).id_) h), ev_roomB, lt_up hi, in_up hi]
    exact ⟨fun _ => ⟨trivial, by simp; omega, hF⟩, fun h => by cases h⟩
  · simp only [spec_l13Counts.turn4, spec_l13Counts.step4, lt_end, cond_false, ev_some]; rfl
theorem impl_kidsOfRows_ev {v : TView} (h : v.kids.length ≤ topN) (hr : v.rows.length ≤ capR) : Ev (fun n _ => impl_kidsOfRows n v) (FCounts v) := by
  refine ev_succ ?_
  have hl := hr
  simp only [capR] at hl
  simp only [impl_kidsOfRows]
  refine ev_map TRow.dflt v.rows (fun r => FKidsIn v.kids r.id_) (fun n N i s => impl_kidsOfRows.loop4 n (fun xy2 => (some xy2)) N v.rows (v.rows.length : Int) (i : Int) v.q.table v.q.where_ v.q.order v.q.down v.q.first v.q.show_ v.q.kids v.q.kidTable v.q.kidCol v.rows v.kids s) (FCounts v) (fun i s hi hs F hF => ?_) ?_
  · simp only [impl_kidsOfRows.turn4, impl_kidsOfRows.step4, view_eta, Int.toNat_natCast, W_up hi (show v.rows.length ≤ topN by simp only [topN]; omega), ev_cond, ev_inB, ev_bind (impl_KidsIn_ev (v := v) (id := (v.rows.getD i TRow.dflt).id_) h), ev_roomB, lt_up hi, in_up hi]
    exact ⟨fun _ => ⟨trivial, by simp; omega, hF⟩, fun h => by cases h⟩
  · simp only [impl_kidsOfRows.turn4, impl_kidsOfRows.step4, lt_end, cond_false, ev_some]; rfl
def FFirst (q : TQuery) (n : Nat) : Nat := if q.first = 0 then n else min n q.first.toNat
theorem impl_firstOf_ev {q : TQuery} {n : Nat} : Ev (fun m _ => impl_firstOf m q (n : Int)) (FFirst q n : Int) := by
  refine ev_succ ?_
  simp only [impl_firstOf, ev_cond, ev_some, FFirst]
  refine ⟨fun h => by rw [if_pos (by simpa using h)], fun h => ?_⟩
  rw [if_neg (by simpa using h)]
  by_cases h1 : (0 : Int) > q.first
  · rw [decide_eq_true h1, cond_true]
    rw [decide_eq_false (by omega), cond_false]; omega
  · rw [decide_eq_false h1, cond_false]
    by_cases h2 : (n : Int) < q.first
    · rw [decide_eq_true h2, cond_true]; omega
    · rw [decide_eq_false h2, cond_false]; omega
theorem spec_l11First_ev {q : TQuery} {n : Nat} : Ev (fun m _ => spec_l11First m q (n : Int)) (FFirst q n : Int) := by
  refine ev_succ ?_
  have hmin : ∀ a b : Int, Ev (fun m _ => spec_l1Min m a b) (min a b) := fun a b => ev_succ (by simp only [spec_l1Min, ev_cond, ev_some, decide_eq_true_eq, decide_eq_false_iff_not]; constructor <;> intro h <;> omega)
  have hmax : ∀ a b : Int, Ev (fun m _ => spec_l1Max m a b) (max a b) := fun a b => ev_succ (by simp only [spec_l1Max, ev_cond, ev_some, decide_eq_true_eq, decide_eq_false_iff_not]; constructor <;> intro h <;> omega)
  simp only [spec_l11First, ev_cond, ev_some, ev_bind (hmin _ _), ev_bind (hmax _ _), FFirst]
  refine ⟨fun h => by rw [if_pos (by simpa using h)], fun h => ?_⟩
  rw [if_neg (by simpa using h)]
  omega
end Go.Pi
end
section
set_option linter.unusedVariables false
set_option maxRecDepth 100000
set_option linter.unusedSimpArgs false
namespace Go.Pi
def digs (u : Nat) : Bs := if u = 0 then [] else Lib.decDigits u
theorem digs_step {u : Nat} (h : u ≠ 0) : digs u = digs (u / 10) ++ [UInt8.ofNat (48 + u % 10)] := by
  unfold digs
  rw [if_neg h, Lib.decDigits]
  by_cases h1 : u < 10
  · rw [dif_pos h1, if_pos (by omega), Nat.mod_eq_of_lt h1]; rfl
  · rw [dif_neg h1, if_neg (by omega)]
theorem dig_byte {d : Nat} (h : d < 10) : toBs ([(IntKind.u8.wrap (W (48 + (d : Int))))] : List Int) = [UInt8.ofNat (48 + d)] := by
  have e1 : W (48 + (d : Int)) = ((48 + d : Nat) : Int) := by rw [W_id (by omega) (by omega)]; omega
  rw [e1]
  have e2 : IntKind.u8.wrap (((48 + d : Nat) : Int)) = ((48 + d : Nat) : Int) := by
    have : d = 0 ∨ d = 1 ∨ d = 2 ∨ d = 3 ∨ d = 4 ∨ d = 5 ∨ d = 6 ∨ d = 7 ∨ d = 8 ∨ d = 9 := by omega
    rcases this with rfl | rfl | rfl | rfl | rfl | rfl | rfl | rfl | rfl | rfl <;> rfl
  rw [e2]
  rfl
theorem spec_l2Digits_ev {x : Int} (h0 : -9223372036854775808 ≤ x) (h1 : x ≤ 9223372036854775807) : Ev (fun n _ => spec_l2Digits n x) (Lib.itoa x) := by
  refine ev_succ ?_
  simp only [spec_l2Digits, ev_cond, ev_some]
  refine ⟨fun h => ?_, fun h => ?_⟩
  · have : x = 0 := by simpa using h
    subst this
    unfold Lib.itoa
    rw [if_neg (by decide)]
    show _ = Lib.decDigits 0
    rw [Lib.decDigits_one (by decide)]; rfl
  have hx0 : x ≠ 0 := by simpa using h
  have key : ∀ (k : Nat) (y : Int) (out : Bs), y.natAbs < 10 ^ k → -9223372036854775808 ≤ y → y ≤ 9223372036854775807 → out.length + k ≤ 100 →
      Ev (fun n N => spec_l2Digits.loop7 n (fun xy3 xy4 => (cond xy3 (cond (decide ([45].length + xy4.length ≤ 9223372036854775807)) (some (([45] : Bs) ++ xy4)) none) (some xy4))) N y (decide (x < 0)) out) (cond (decide (x < 0)) ([45] ++ (digs y.natAbs ++ out)) (digs y.natAbs ++ out)) := by
    intro k
    induction k with
    | zero =>
      intro y out hy _ _ ho
      have : y = 0 := by simp at hy; omega
      subst this
      refine ev_round ?_
      simp only [spec_l2Digits.turn7, spec_l2Digits.step7, bne_self_eq_false, cond_false, ev_cond, ev_some, ev_none]
      refine ⟨fun hb => ⟨fun _ => by rw [hb]; rfl, fun hc => by have := of_decide_eq_false hc; simp at this; omega⟩, fun hb => by rw [hb]; rfl⟩
    | succ k ih =>
      intro y out hy hy0 hy1 ho
      by_cases hz : y = 0
      · subst hz
        refine ev_round ?_
        simp only [spec_l2Digits.turn7, spec_l2Digits.step7, bne_self_eq_false, cond_false, ev_cond, ev_some, ev_none]
        refine ⟨fun hb => ⟨fun _ => by rw [hb]; rfl, fun hc => by have := of_decide_eq_false hc; simp at this; omega⟩, fun hb => by rw [hb]; rfl⟩
      · have hm : (Int.tmod y 10).natAbs = y.natAbs % 10 := by rw [Int.natAbs_tmod]; rfl
        have hd : (Int.tdiv y 10).natAbs = y.natAbs / 10 := by rw [Int.natAbs_tdiv]; rfl
        have hW : W (Int.tdiv y 10) = Int.tdiv y 10 := W_id (by omega) (by omega)
        have hlt : y.natAbs % 10 < 10 := Nat.mod_lt _ (by decide)
        have hdl : (Int.tdiv y 10).natAbs < 10 ^ k := by rw [hd]; rw [Nat.pow_succ] at hy; omega
        have hrec := ih (Int.tdiv y 10) ([UInt8.ofNat (48 + y.natAbs % 10)] ++ out) hdl (by omega) (by omega) (by simp; omega)
        have hdig : digs (Int.tdiv y 10).natAbs ++ ([UInt8.ofNat (48 + y.natAbs % 10)] ++ out) = digs y.natAbs ++ out := by rw [hd, digs_step (show y.natAbs ≠ 0 by omega), List.append_assoc]
        rw [hdig] at hrec
        have hne : (y != 0) = true := by simpa using hz
        refine ev_round ?_
        simp only [spec_l2Digits.turn7, spec_l2Digits.step7, hne, cond_true, ev_cond, ev_none, hW]
        refine ⟨fun hneg => ?_, fun hneg => ?_⟩
        · have hneg := of_decide_eq_true hneg
          have e : W (0 - Int.tmod y 10) = ((y.natAbs % 10 : Nat) : Int) := by rw [W_id (by omega) (by omega)]; omega
          rw [e, dig_byte hlt]
          exact ⟨fun _ => hrec, fun hc => by have := of_decide_eq_false hc; simp at this; omega⟩
        · have hneg := of_decide_eq_false hneg
          have e : Int.tmod y 10 = ((y.natAbs % 10 : Nat) : Int) := by omega
          rw [e, dig_byte hlt]
          exact ⟨fun _ => hrec, fun hc => by have := of_decide_eq_false hc; simp at this; omega⟩
  have hfin := key 19 x [] (by omega) h0 h1 (by simp)
  have hv : Lib.itoa x = cond (decide (x < 0)) ([45] ++ (digs x.natAbs ++ [])) (digs x.natAbs ++ []) := by
    unfold Lib.itoa digs
    rw [if_neg (show x.natAbs ≠ 0 by omega)]
    by_cases hn : x < 0
    · rw [if_pos hn, decide_eq_true hn]; simp
    · rw [if_neg hn, decide_eq_false hn, cond_false, List.append_nil, show x.toNat = x.natAbs by omega]
  rw [hv]
  exact ev_diag hfin
theorem impl_digits_ev {x : Int} (h0 : -9223372036854775808 ≤ x) (h1 : x ≤ 9223372036854775807) : Ev (fun n _ => impl_digits n x) (Lib.itoa x) := by
  refine ev_succ ?_
  have : Ev (fun n _ => strconv_Itoa n x) (Lib.itoa x) := ev_succ (by simp only [strconv_Itoa, nItoa, ev_cond, ev_some, ev_none]; exact ⟨fun _ => trivial, fun h => by simp at h; omega⟩)
  simp only [impl_digits, ev_bind this, ev_some]
end Go.Pi
end
section
set_option linter.unusedVariables false
set_option maxRecDepth 100000
set_option linter.unusedSimpArgs false
namespace Go.Pi
/-! an object, a name put into it -/
def putAt (ns : List Bs) (x : Bs) : Nat := ns.findIdx (fun y => !Op.bytesLess y x)
def putTo (ns : List Bs) (x : Bs) : Nat := if ns.getD (putAt ns x) [] = x ∧ putAt ns x < ns.length then putAt ns x + 1 else putAt ns x
def putL {α : Type} (ns : List Bs) (x : Bs) (l : List α) (y : α) : List α := l.take (putAt ns x) ++ [y] ++ l.drop (putTo ns x)
theorem take_nextG {α : Type} (d : α) {a m : List α} {i q : Nat} (p : Nat) (hi : i < a.length) (h : q ≤ i) : a.take p ++ m ++ (a.take (i + 1)).drop q = a.take p ++ m ++ (a.take i).drop q ++ [a.getD i d] := by
  rw [take_next d hi, List.drop_append_of_le_length (by simp; omega)]
  simp
theorem put_idx {ns : List Bs} {x : Bs} {i : Nat} (hi : i < ns.length) (hle : i ≤ putAt ns x) : (!Op.bytesLess (ns.getD i []) x) = decide (i = putAt ns x) := by
  rw [List.getD_eq_getElem?_getD, List.getElem?_eq_getElem hi, Option.getD_some]
  unfold putAt at hle ⊢
  by_cases h : i = ns.findIdx (fun y => !Op.bytesLess y x)
  · rw [decide_eq_true h]
    have := List.findIdx_getElem (xs := ns) (p := fun y => !Op.bytesLess y x) (w := by omega)
    simp only [← h] at this
    exact this
  · rw [decide_eq_false h]
    exact List.not_of_lt_findIdx (xs := ns) (p := fun y => !Op.bytesLess y x) (i := i) (by omega)
theorem spec_l1Put_ev {o j : TJson} {x : Bs} (hk : o.names.length ≤ 2000000) (he : o.list.length = o.names.length) (hlt : ∀ y, Op.bytesLess y x = true → (y == x) = false) (hne : ∀ i, putTo o.names x ≤ i → i < o.names.length → (o.names.getD i [] == x) = false) :
    Ev (fun n _ => spec_l1Put n o x j) (TJson.mk 5 0 [] (putL o.names x o.list j) (putL o.names x o.names x)) := by
  refine ev_succ ?_
  have ht : o.names.length ≤ topN := by simp only [topN]; omega
  obtain ⟨p, hp⟩ : ∃ p, p = putAt o.names x := ⟨_, rfl⟩
  have hpl : p ≤ o.names.length := by rw [hp]; exact List.findIdx_le_length
  obtain ⟨q, hq⟩ : ∃ q, q = putTo o.names x := ⟨_, rfl⟩
  have hqp : p ≤ q ∧ q ≤ p + 1 := by rw [hq, hp]; unfold putTo; split <;> omega
  have hT : o.list.take o.names.length = o.list := List.take_of_length_le (by omega)
  let S : Nat → Bool × List TJson × List Bs := fun i => if i ≤ p then (false, o.list.take i, o.names.take i) else (true, o.list.take p ++ [j] ++ (o.list.take i).drop q, o.names.take p ++ [x] ++ (o.names.take i).drop q)
  have hS0 : S 0 = (false, [], []) := by simp [S]
  simp only [spec_l1Put]
  have := ev_seq S o.names.length (fun n N i (s : Bool × List TJson × List Bs) => spec_l1Put.loop5 n (fun xy1 xy2 xy3 xy4 xy5 xy6 xy7 xy8 xy9 xy10 xy11 xy12 xy13 xy14 xy15 => (cond (!xy2) (roomB (xy15.length + ([xy1] : List Bs).length) 16 (roomB (xy14.length + ([(TJson.mk xy3 xy4 xy5 xy6 xy7)] : List TJson).length) 80 (some (TJson.mk xy11 xy12 xy13 (xy14 ++ ([(TJson.mk xy3 xy4 xy5 xy6 xy7)] : List TJson)) (xy15 ++ ([xy1] : List Bs)))))) (some (TJson.mk xy11 xy12 xy13 xy14 xy15)))) N x s.1 (i : Int) o.kind o.n_ o.s o.list o.names j.kind j.n_ j.s j.list j.names 0 0 [] 5 0 [] s.2.1 s.2.2)
    (TJson.mk 5 0 [] (putL o.names x o.list j) (putL o.names x o.names x)) (fun i hi F hF => ?_) ?_
  · rw [hS0] at this; exact this
  · have hx := put_idx (ns := o.names) (x := x) hi
    rw [← hp] at hx
    have hln : (S i).2.2.length ≤ o.names.length + 1 := by simp only [S]; split <;> simp <;> omega
    have hll : (S i).2.1.length ≤ o.names.length + 1 := by simp only [S]; split <;> simp <;> omega
    have hil : i < o.list.length := by omega
    simp only [spec_l1Put.turn5, spec_l1Put.step5, json_eta, json_re, Int.toNat_natCast, W_up hi ht, ev_cond, ev_inB, ev_roomB, lt_up hi, in_up hi, in_up hil]
    by_cases hle : i ≤ p
    · have s1 : S i = (false, o.list.take i, o.names.take i) := by simp only [S, if_pos hle]
      rw [s1] at hln hll ⊢
      by_cases e : i = p
      · have hb : (!Op.bytesLess (o.names.getD i []) x) = true := by rw [hx hle]; exact decide_eq_true e
        subst e
        by_cases hs : o.names.getD i [] = x
        · have hqv : q = i + 1 := by rw [hq]; unfold putTo; rw [← hp, if_pos ⟨hs, hi⟩]
          have s2 : S (i + 1) = (true, o.list.take i ++ [j], o.names.take i ++ [x]) := by
            simp only [S, if_neg (show ¬ i + 1 ≤ i by omega)]
            rw [List.drop_eq_nil_of_le (by simp; omega), List.drop_eq_nil_of_le (by simp; omega), List.append_nil, List.append_nil]
          rw [s2] at hF
          have hs' : (o.names.getD i [] == x) = true := by simpa using hs
          simp only [hb, hs', cond_true, cond_false, Bool.not_true, Bool.not_false]
          repeat' (first | apply And.intro | intro _)
          all_goals (first | contradiction | exact hF | trivial | (simp; omega))
        · have hqv : q = i := by rw [hq]; unfold putTo; rw [← hp, if_neg (fun h => hs h.1)]
          have s2 : S (i + 1) = (true, o.list.take i ++ [j] ++ [o.list.getD i TJson.dflt], o.names.take i ++ [x] ++ [o.names.getD i []]) := by
            simp only [S, if_neg (show ¬ i + 1 ≤ i by omega), hqv]
            rw [take_nextG TJson.dflt i hil (Nat.le_refl _), take_nextG [] i hi (Nat.le_refl _), List.drop_eq_nil_of_le (by simp; omega), List.drop_eq_nil_of_le (by simp; omega), List.append_nil, List.append_nil]
          rw [s2] at hF
          have hs' : (o.names.getD i [] == x) = false := by simpa using hs
          simp only [hb, hs', cond_true, cond_false, Bool.not_true, Bool.not_false]
          repeat' (first | apply And.intro | intro _)
          all_goals (first | contradiction | exact hF | trivial | (simp; omega))
      · have hb : (!Op.bytesLess (o.names.getD i []) x) = false := by rw [hx hle]; exact decide_eq_false e
        have hs' : (o.names.getD i [] == x) = false := hlt (o.names.getD i []) (by rw [Bool.not_eq_false'] at hb; exact hb)
        have s2 : S (i + 1) = (false, o.list.take i ++ [o.list.getD i TJson.dflt], o.names.take i ++ [o.names.getD i []]) := by
          simp only [S, if_pos (show i + 1 ≤ p by omega), take_next TJson.dflt hil, take_next [] hi]
        rw [s2] at hF
        simp only [hb, hs', cond_true, cond_false, Bool.not_true, Bool.not_false]
        repeat' (first | apply And.intro | intro _)
        all_goals (first | contradiction | exact hF | trivial | (simp; omega))
    · have s1 : S i = (true, o.list.take p ++ [j] ++ (o.list.take i).drop q, o.names.take p ++ [x] ++ (o.names.take i).drop q) := by simp only [S, if_neg hle]
      have s2 : S (i + 1) = (true, o.list.take p ++ [j] ++ (o.list.take i).drop q ++ [o.list.getD i TJson.dflt], o.names.take p ++ [x] ++ (o.names.take i).drop q ++ [o.names.getD i []]) := by
        simp only [S, if_neg (show ¬ i + 1 ≤ p by omega)]
        rw [take_nextG TJson.dflt p hil (by omega), take_nextG [] p hi (by omega)]
      have hs' := hne i (by omega) hi
      rw [s1] at hln hll ⊢
      rw [s2] at hF
      simp only [hs', cond_true, cond_false, Bool.not_true, Bool.not_false]
      repeat' (first | apply And.intro | intro _)
      all_goals (first | contradiction | exact hF | trivial | (simp at hln hll ⊢; omega))
  · simp only [spec_l1Put.turn5, spec_l1Put.step5, json_eta, lt_end, cond_false, ev_cond, ev_roomB, ev_some]
    unfold putL
    rw [← hp, ← hq]
    by_cases hle : o.names.length ≤ p
    · have e : p = o.names.length := by omega
      have hqv : q = p := by rw [hq]; unfold putTo; rw [← hp, if_neg (fun h => by omega)]
      have s1 : S o.names.length = (false, o.list, o.names) := by simp only [S, if_pos hle, List.take_length]; rw [List.take_of_length_le (by omega)]
      rw [s1, hqv, e, List.take_of_length_le (l := o.list) (by omega), List.drop_eq_nil_of_le (show o.list.length ≤ o.names.length by omega), List.take_length, List.drop_length]
      refine ⟨fun _ => ⟨by simp; omega, by simp; omega, by simp⟩, fun h => (by cases h)⟩
    · have s1 : S o.names.length = (true, o.list.take p ++ [j] ++ o.list.drop q, o.names.take p ++ [x] ++ o.names.drop q) := by simp only [S, if_neg hle, List.take_length]; rw [hT]
      rw [s1]
      exact ⟨fun h => (by cases h), fun _ => rfl⟩
end Go.Pi
end
section
set_option linter.unusedVariables false
set_option maxRecDepth 100000
set_option linter.unusedSimpArgs false
namespace Go.Pi
theorem isNaN_ev {x : Bs} : Ev (fun n _ => slices_isNaN_string n x) false := ev_succ (by simp [slices_isNaN_string, ev_some])
theorem isNaN2_ev {x : Bs} : Ev (fun n _ => cmp_isNaN_string_ n x) false := ev_succ (by simp [cmp_isNaN_string_, ev_some])
theorem cmpLess_ev {x y : Bs} : Ev (fun n _ => cmp_Less_string_ n x y) (Op.bytesLess x y) := by
  refine ev_succ ?_
  simp only [cmp_Less_string_, ev_bind isNaN2_ev, ev_cond, ev_some]
  cases Op.bytesLess x y <;> simp
theorem half {i j : Nat} (h : i + j ≤ 4000000) : W (Int.fdiv (IntKind.u64.wrap (W ((i : Int) + (j : Int)))) (2 ^ min (1 : Int).toNat (IntKind.bits .u64))) = (((i + j) / 2 : Nat) : Int) := by
  have e1 : W ((i : Int) + (j : Int)) = ((i + j : Nat) : Int) := by rw [W_id (by omega) (by omega)]; omega
  have e2 : IntKind.u64.wrap ((i + j : Nat) : Int) = ((i + j : Nat) : Int) := by
    show (((i + j : Nat) : Int)) % _ = _
    exact Int.emod_eq_of_lt (by omega) (by have : ((i + j : Nat) : Int) ≤ 4000000 := by omega
                                           exact Int.lt_of_le_of_lt this (by decide))
  have e3 : (2 : Int) ^ min (1 : Int).toNat (IntKind.bits .u64) = 2 := by decide
  rw [e1, e2, e3, Int.fdiv_eq_ediv_of_nonneg _ (by decide)]
  rw [W_id (by omega) (by omega)]; omega
theorem BinarySearch_ev {ns : List Bs} {x : Bs} (hl : ns.length ≤ 2000000) (hM : ∀ h, h < ns.length → Op.bytesLess (ns.getD h []) x = decide (h < putAt ns x)) :
    Ev (fun n _ => slices_BinarySearch_string n ns x) ((putAt ns x : Int), decide (putAt ns x < ns.length) && (ns.getD (putAt ns x) [] == x)) := by
  refine ev_succ ?_
  have hpl : putAt ns x ≤ ns.length := List.findIdx_le_length
  obtain ⟨p, hp⟩ : ∃ p, p = putAt ns x := ⟨_, rfl⟩
  rw [← hp] at hpl hM ⊢
  simp only [slices_BinarySearch_string]
  have key : ∀ (d i j : Nat), j - i ≤ d → i ≤ p → p ≤ j → j ≤ ns.length → Ev (fun n N => slices_BinarySearch_string.loop4 n (fun xy3 xy4 xy5 xy6 => (cond (decide (xy6 < xy5)) (inB xy6 xy3.length (cond ((xy3.getD xy6.toNat []) == xy4) (some (xy6, true)) (inB xy6 xy3.length ((slices_isNaN_string n (xy3.getD xy6.toNat [])).bind fun xr7 => (cond xr7 ((slices_isNaN_string n xy4).bind fun xr8 => (some (xy6, xr8))) (some (xy6, false))))))) (some (xy6, false)))) N ns x (ns.length : Int) (i : Int) (j : Int)) ((p : Int), decide (p < ns.length) && (ns.getD p [] == x)) := by
    intro d
    induction d with
    | zero =>
      intro i j hd h1 h2 h3
      have e : i = p := by omega
      have e' : j = p := by omega
      subst e; subst e'
      refine ev_round ?_
      simp only [slices_BinarySearch_string.turn4, slices_BinarySearch_string.step4, Int.lt_irrefl, decide_false, cond_false, ev_cond, ev_inB, ev_some, Int.toNat_natCast, ev_bind isNaN_ev]
      by_cases hc : j < ns.length
      · rw [decide_eq_true hc, decide_eq_true (show (j : Int) < (ns.length : Int) by omega)]
        cases hs : (ns.getD j [] == x) <;> simp <;> omega
      · rw [decide_eq_false hc, decide_eq_false (show ¬ (j : Int) < (ns.length : Int) by omega)]
        exact ⟨fun h => (by cases h), fun _ => rfl⟩
    | succ d ih =>
      intro i j hd h1 h2 h3
      by_cases hij : i < j
      · have hh := half (i := i) (j := j) (by omega)
        have hm : (i + j) / 2 < ns.length := by omega
        refine ev_round ?_
        simp only [slices_BinarySearch_string.turn4, slices_BinarySearch_string.step4, hh, decide_eq_true (show (i : Int) < (j : Int) by omega), cond_true, ev_cond, ev_inB, Int.toNat_natCast, ev_bind cmpLess_ev, in_up hm, hM _ hm, W_up hm (show ns.length ≤ topN by simp only [topN]; omega)]
        refine ⟨trivial, fun hc => ?_, fun hc => ?_⟩
        · have hc := of_decide_eq_true hc
          exact ih ((i + j) / 2 + 1) j (by omega) (by omega) h2 h3
        · have hc := of_decide_eq_false hc
          exact ih i ((i + j) / 2) (by omega) h1 (by omega) (by omega)
      · exact ih i j (by omega) h1 h2 h3
  exact ev_diag (f := fun n N => slices_BinarySearch_string.loop4 n _ N ns x (ns.length : Int) 0 (ns.length : Int)) (key ns.length 0 ns.length (by omega) (Nat.zero_le _) hpl (Nat.le_refl _))
end Go.Pi
end
section
set_option linter.unusedVariables false
set_option maxRecDepth 100000
set_option linter.unusedSimpArgs false
namespace Go.Pi
/-! an object az a sorted list of names and numbers -/
theorem bytesLt : ∀ (x y : Bs), Op.bytesLess x y = decide (x < y)
  | [], [] => by simp [Op.bytesLess]
  | _ :: _, [] => by simp [Op.bytesLess]
  | [], _ :: _ => by simp [Op.bytesLess]
  | a :: x, b :: y => by
    rw [Op.bytesLess, bytesLt x y]
    simp only [List.cons_lt_cons_iff]
    by_cases h1 : a < b <;> by_cases h2 : a = b <;> by_cases h3 : x < y <;> simp [h1, h2, h3]
def ins (x : Bs) (y : Int) : List (Bs × Int) → List (Bs × Int)
  | [] => [(x, y)]
  | (k, v) :: l => if k < x then (k, v) :: ins x y l else if k = x then (x, y) :: l else (x, y) :: (k, v) :: l
def keysAsc : List (Bs × Int) → Prop
  | [] => True
  | (k, _) :: l => (∀ p ∈ l, k < p.1) ∧ keysAsc l
theorem ins_mem {x : Bs} {y : Int} : ∀ {l : List (Bs × Int)} {p : Bs × Int}, p ∈ ins x y l → p = (x, y) ∨ p ∈ l
  | [], p, h => by simp only [ins, List.mem_singleton] at h; exact .inl h
  | (k, v) :: l, p, h => by
    simp only [ins] at h
    split at h
    · rcases List.mem_cons.1 h with h | h
      · exact .inr (h ▸ List.mem_cons_self ..)
      · rcases ins_mem h with h | h
        · exact .inl h
        · exact .inr (List.mem_cons_of_mem _ h)
    · split at h
      · rcases List.mem_cons.1 h with h | h
        · exact .inl h
        · exact .inr (List.mem_cons_of_mem _ h)
      · rcases List.mem_cons.1 h with h | h
        · exact .inl h
        · exact .inr h
theorem not_lt_lt {a b : Bs} (h1 : ¬ a < b) (h2 : a ≠ b) : b < a := by
  rcases Decidable.em (b < a) with h | h
  · exact h
  · exact absurd (List.le_antisymm (List.not_lt.1 h) (List.not_lt.1 h1)) h2
theorem ins_asc {x : Bs} {y : Int} : ∀ {l : List (Bs × Int)}, keysAsc l → keysAsc (ins x y l)
  | [], _ => ⟨fun p hp => (by cases hp), trivial⟩
  | (k, v) :: l, h => by
    simp only [ins]
    split
    · rename_i hk
      exact ⟨fun p hp => (ins_mem hp).elim (fun e => e ▸ hk) (h.1 p), ins_asc h.2⟩
    · split
      · rename_i h1 h2
        subst h2
        exact ⟨h.1, h.2⟩
      · rename_i h1 h2
        have hx := not_lt_lt h1 h2
        exact ⟨fun p hp => by
          rcases List.mem_cons.1 hp with e | hp
          · rw [e]; exact hx
          · exact List.lt_trans hx (h.1 p hp), h⟩
theorem ins_same {x : Bs} {y : Int} : ∀ {l : List (Bs × Int)}, ins x y (ins x y l) = ins x y l
  | [] => by simp [ins, List.lt_irrefl]
  | (k, v) :: l => by
    by_cases h1 : k < x
    · simp only [ins, if_pos h1, ins_same]
    · by_cases h2 : k = x
      · simp only [ins, if_neg h1, if_pos h2, List.lt_irrefl, if_false, if_true]
      · simp only [ins, if_neg h1, if_neg h2, List.lt_irrefl, if_false, if_true]
end Go.Pi
end
section
set_option linter.unusedVariables false
set_option linter.unusedSimpArgs false
namespace Go.Pi
theorem tri (a b : Bs) : a < b ∧ ¬ b < a ∧ a ≠ b ∧ b ≠ a ∨ a = b ∧ ¬ a < b ∧ ¬ b < a ∨ b < a ∧ ¬ a < b ∧ a ≠ b ∧ b ≠ a := by
  by_cases h1 : a < b
  · exact .inl ⟨h1, List.lt_asymm h1, fun e => List.lt_irrefl b (e ▸ h1), fun e => List.lt_irrefl b (e ▸ h1)⟩
  · by_cases h2 : a = b
    · subst h2; exact .inr (.inl ⟨rfl, h1, h1⟩)
    · exact .inr (.inr ⟨not_lt_lt h1 h2, h1, h2, fun e => h2 e.symm⟩)
theorem ins_comm {x x' : Bs} {y y' : Int} (hne : x ≠ x') : ∀ l : List (Bs × Int), ins x y (ins x' y' l) = ins x' y' (ins x y l)
  | [] => by
    rcases tri x x' with ⟨h1, h2, h3, h4⟩ | ⟨h1, _⟩ | ⟨h1, h2, h3, h4⟩
    · simp only [ins, if_pos h1, if_neg h2, if_neg h4]
    · exact absurd h1 hne
    · simp only [ins, if_pos h1, if_neg h2, if_neg h3]
  | (k, v) :: l => by
    have ih := ins_comm (y := y) (y' := y') hne l
    rcases tri x x' with ⟨h1, h2, h3, h4⟩ | ⟨h1, _⟩ | ⟨h1, h2, h3, h4⟩
    · rcases tri k x with ⟨a1, a2, a3, a4⟩ | ⟨a1, a2, a3⟩ | ⟨a1, a2, a3, a4⟩
      · have b1 : k < x' := List.lt_trans a1 h1
        simp only [ins, if_pos a1, if_pos b1, ih]
      · subst a1
        simp only [ins, if_pos h1, if_neg a2, if_true]
      · rcases tri k x' with ⟨b1, b2, b3, b4⟩ | ⟨b1, b2, b3⟩ | ⟨b1, b2, b3, b4⟩
        · simp only [ins, if_pos b1, if_neg a2, if_neg a3, if_pos h1]
        · subst b1
          simp only [ins, if_neg a2, if_neg a3, if_neg b2, if_pos h1, if_neg h2, if_neg h4, if_true]
        · simp only [ins, if_neg a2, if_neg a3, if_neg b2, if_neg b3, if_pos h1, if_neg h2, if_neg h4]
    · exact absurd h1 hne
    · rcases tri k x' with ⟨a1, a2, a3, a4⟩ | ⟨a1, a2, a3⟩ | ⟨a1, a2, a3, a4⟩
      · have b1 : k < x := List.lt_trans a1 h1
        simp only [ins, if_pos a1, if_pos b1, ih]
      · subst a1
        simp only [ins, if_pos h1, if_neg a2, if_true]
      · rcases tri k x with ⟨b1, b2, b3, b4⟩ | ⟨b1, b2, b3⟩ | ⟨b1, b2, b3, b4⟩
        · simp only [ins, if_pos b1, if_neg a2, if_neg a3, if_pos h1]
        · subst b1
          simp only [ins, if_neg a2, if_neg a3, if_neg b2, if_pos h1, if_neg h2, if_neg h3, if_true]
        · simp only [ins, if_neg a2, if_neg a3, if_neg b2, if_neg b3, if_pos h1, if_neg h2, if_neg h3]
end Go.Pi
end
section
set_option linter.unusedVariables false
set_option linter.unusedSimpArgs false
namespace Go.Pi
theorem putL_nil {α : Type} {x : Bs} {y : α} : putL [] x [] y = [y] := by
  simp [putL]
theorem putL_cons {α : Type} {k x : Bs} {ns : List Bs} {a y : α} {l : List α} : putL (k :: ns) x (a :: l) y = if k < x then a :: putL ns x l y else if k = x then y :: l else y :: a :: l := by
  by_cases h : k < x
  · have hb : Op.bytesLess k x = true := by rw [bytesLt]; exact decide_eq_true h
    have e1 : putAt (k :: ns) x = putAt ns x + 1 := by unfold putAt; rw [List.findIdx_cons]; simp [hb]
    have e2 : putTo (k :: ns) x = putTo ns x + 1 := by
      unfold putTo
      rw [e1]
      simp only [List.getD_cons_succ, List.length_cons, Nat.add_lt_add_iff_right]
      split <;> rfl
    rw [if_pos h]
    unfold putL
    rw [e1, e2]; simp
  · have hb : Op.bytesLess k x = false := by rw [bytesLt]; exact decide_eq_false h
    have e1 : putAt (k :: ns) x = 0 := by unfold putAt; rw [List.findIdx_cons]; simp [hb]
    rw [if_neg h]
    unfold putL putTo
    rw [e1]
    by_cases h2 : k = x
    · simp [h2]
    · simp [h2]
theorem putL_ins {α : Type} (g : Bs × Int → α) (x : Bs) (y : Int) : ∀ l : List (Bs × Int), putL (l.map (·.1)) x (l.map g) (g (x, y)) = (ins x y l).map g
  | [] => by simp only [List.map_nil, ins, List.map_cons]; exact putL_nil
  | (k, v) :: l => by
    simp only [List.map_cons, putL_cons, ins]
    split
    · rw [putL_ins g x y l]; rfl
    · split <;> rfl
end Go.Pi
end
section
set_option linter.unusedVariables false
set_option linter.unusedSimpArgs false
namespace Go.Pi
theorem putTo_cons {k x : Bs} {ns : List Bs} : putTo (k :: ns) x = if k < x then putTo ns x + 1 else if k = x then 1 else 0 := by
  by_cases h : k < x
  · have hb : Op.bytesLess k x = true := by rw [bytesLt]; exact decide_eq_true h
    have e1 : putAt (k :: ns) x = putAt ns x + 1 := by unfold putAt; rw [List.findIdx_cons]; simp [hb]
    unfold putTo
    rw [e1, if_pos h]
    simp only [List.getD_cons_succ, List.length_cons, Nat.add_lt_add_iff_right]
    split <;> rfl
  · have hb : Op.bytesLess k x = false := by rw [bytesLt]; exact decide_eq_false h
    have e1 : putAt (k :: ns) x = 0 := by unfold putAt; rw [List.findIdx_cons]; simp [hb]
    rw [if_neg h]
    unfold putTo
    rw [e1]
    by_cases h2 : k = x
    · simp [h2]
    · simp [h2]
theorem asc_ne {x : Bs} : ∀ {l : List (Bs × Int)}, keysAsc l → ∀ i, putTo (l.map (·.1)) x ≤ i → i < (l.map (·.1)).length → ((l.map (·.1)).getD i [] == x) = false
  | [], _, i, _, hi => by simp at hi
  | (k, v) :: l, h, i, hp, hi => by
    simp only [List.map_cons, putTo_cons] at hp
    have later : ∀ i', i' < (l.map (·.1)).length → k < (l.map (·.1)).getD i' [] := fun i' hi' => by
      have hm := getD_mem (d := ([] : Bs)) (a := l.map (·.1)) (i := i') hi'
      obtain ⟨p, hp, e⟩ := List.mem_map.1 hm
      rw [← e]; exact h.1 p hp
    cases i with
    | zero =>
      simp only [List.map_cons, List.getD_cons_zero]
      by_cases h1 : k < x
      · rw [if_pos h1] at hp; omega
      · rw [if_neg h1] at hp
        by_cases h2 : k = x
        · rw [if_pos h2] at hp; omega
        · exact beq_eq_false_iff_ne.2 h2
    | succ i =>
      have hi' : i < (l.map (·.1)).length := by simpa using hi
      simp only [List.map_cons, List.getD_cons_succ]
      by_cases h1 : k < x
      · rw [if_pos h1] at hp
        exact asc_ne h.2 i (by omega) hi'
      · refine beq_eq_false_iff_ne.2 fun e => h1 ?_
        rw [← e]; exact later i hi'
def numJ (n : Int) : TJson := TJson.mk 2 n [] [] []
def objJ (l : List (Bs × Int)) : TJson := TJson.mk 5 0 [] (l.map fun p => numJ p.2) (l.map (·.1))
theorem l1Put_obj {l : List (Bs × Int)} {x : Bs} {y : Int} (h : keysAsc l) (hl : l.length ≤ 2000000) : Ev (fun n _ => spec_l1Put n (objJ l) x (numJ y)) (objJ (ins x y l)) := by
  have := spec_l1Put_ev (o := objJ l) (j := numJ y) (x := x) (by simp [objJ]; exact hl) (by simp [objJ]) (fun z hz => by
    rw [bytesLt] at hz
    exact beq_eq_false_iff_ne.2 fun e => by subst e; exact List.lt_irrefl z (of_decide_eq_true hz)) (fun i h1 h2 => asc_ne h i h1 h2)
  refine ev_congr this ?_
  have e1 := putL_ins (fun p => numJ p.2) x y l
  have e2 := putL_ins (fun p => p.1) x y l
  show TJson.mk 5 0 [] (putL (l.map (·.1)) x (l.map fun p => numJ p.2) (numJ y)) (putL (l.map (·.1)) x (l.map (·.1)) x) = _
  rw [e1, e2]; rfl
end Go.Pi
end
section
set_option linter.unusedVariables false
namespace Go.Pi
def lenQ (c : Nat) (q : TQuery) : Prop := q.where_.length ≤ c ∧ q.show_.length ≤ c
def lenR (c : Nat) (r : List TRow) : Prop := r.length ≤ c ∧ ∀ x ∈ r, x.cells.length ≤ c
def lenV (c : Nat) (v : TView) : Prop := lenQ c v.q ∧ lenR c v.rows ∧ v.kids.length ≤ c
def lenS (c : Nat) (s : TSess) : Prop := lenV c s.view ∧ lenV c s.last
end Go.Pi
end
