/- The law FnExactSessGo returns true at every input, and leaves its arguments as they were; no condition. Text 4 of 5. -/
import Derived.Test.YtpifpdljphobdaaSgC
import Derived.Shelf.RegionOpenPlain
import Derived.WalkKit
import Derived.Deep.RegionLaw
import Derived.Lib.Walk
import Derived.Lib.SliceRun
import Derived.Laws.CopyRow
import Derived.RowKit
import Derived.Lib.Overlaps
import Derived.Lib.AppendZerosOnto
import Derived.Laws.NewBlocks
import Derived.Laws.Externs
import Derived.ChangeArms
import Derived.DataReads
import Derived.ChangeOld
import Derived.Below
import Derived.Test.YtpifpdljphobdaaRows
import Derived.ProofKit
import Derived.OpenShut
import Derived.IntWalk
section
set_option linter.unusedVariables false
set_option maxRecDepth 100000
namespace Go.Pi
open Go.Proofs
noncomputable def laws_szCondS.fs (n : Nat) : laws_szCondS.d.Fs := ()
theorem laws_szCondS.ok (n : Nat) : CxOk E (cx n laws_szCondS.d.nt) → KPar (cx n laws_szCondS.d.nt) → laws_szCondS.d.Ok E (laws_szCondS.F (n + 1)) :=
  FD.ok (fs := laws_szCondS.fs n) mixedOk Try.func75 (by kernel_rfl) (by kernel_rfl) (by kernel_rfl) (by kernel_rfl) (fun _ => by kernel_rfl) (by kernel_rfl) (fun x => by kernel_rfl) (.nil)
noncomputable def laws_szIntS.fs (n : Nat) : laws_szIntS.d.Fs := ()
theorem laws_szIntS.ok (n : Nat) : CxOk E (cx n laws_szIntS.d.nt) → KPar (cx n laws_szIntS.d.nt) → laws_szIntS.d.Ok E (laws_szIntS.F (n + 1)) :=
  FD.ok (fs := laws_szIntS.fs n) mixedOk Try.func39 (by kernel_rfl) (by kernel_rfl) (by kernel_rfl) (by kernel_rfl) (fun _ => by kernel_rfl) (by kernel_rfl) (fun x => by kernel_rfl) (.nil)
noncomputable def laws_szQuery.fs (n : Nat) : laws_szQuery.d.Fs := ()
theorem laws_szQuery.ok (n : Nat) : CxOk E (cx n laws_szQuery.d.nt) → KPar (cx n laws_szQuery.d.nt) → laws_szQuery.d.Ok E (laws_szQuery.F (n + 1)) :=
  FD.ok (fs := laws_szQuery.fs n) mixedOk Try.func30 (by kernel_rfl) (by kernel_rfl) (by kernel_rfl) (by kernel_rfl) (fun _ => by kernel_rfl) (by kernel_rfl) (fun x => by kernel_rfl) (.nil)
noncomputable def laws_szRow.fs (n : Nat) : laws_szRow.d.Fs := ()
theorem laws_szRow.ok (n : Nat) : CxOk E (cx n laws_szRow.d.nt) → KPar (cx n laws_szRow.d.nt) → laws_szRow.d.Ok E (laws_szRow.F (n + 1)) :=
  FD.ok (fs := laws_szRow.fs n) mixedOk Try.func127 (by kernel_rfl) (by kernel_rfl) (by kernel_rfl) (by kernel_rfl) (fun _ => by kernel_rfl) (by kernel_rfl) (fun x => by kernel_rfl) (.nil)
noncomputable def laws_szRowS.fs (n : Nat) : laws_szRowS.d.Fs := (fun _ κe => laws_szRowS.loop7 n (laws_szRowS.o0.k (κe 0)) n, ())
theorem laws_szRowS.r7 (n : Nat) : laws_szRowS.d.Round (laws_szRowS.fs n) (cx n laws_szRowS.d.nt) (bodyOf Try.f84) 7 laws_szRowS.p7 (fun κe => laws_szRowS.step7 n (laws_szRowS.o0.k (κe 0))) := fun κ κe x y => by kernel_rfl
theorem laws_szRowS.ok (n : Nat) : CxOk E (cx n laws_szRowS.d.nt) → KPar (cx n laws_szRowS.d.nt) → laws_szRowS.d.Ok E (laws_szRowS.F (n + 1)) :=
  FD.ok (fs := laws_szRowS.fs n) mixedOk Try.func84 (by kernel_rfl) (by kernel_rfl) (by kernel_rfl) (by kernel_rfl) (fun _ => by kernel_rfl) (by kernel_rfl) (fun x => by kernel_rfl) (.cons (FD.lp n (laws_szRowS.r7 n) (by kernel_rfl) fun _ _ => by kernel_rfl) (.nil))
noncomputable def laws_szKidS.fs (n : Nat) : laws_szKidS.d.Fs := ()
theorem laws_szKidS.ok (n : Nat) : CxOk E (cx n laws_szKidS.d.nt) → KPar (cx n laws_szKidS.d.nt) → laws_szKidS.d.Ok E (laws_szKidS.F (n + 1)) :=
  FD.ok (fs := laws_szKidS.fs n) mixedOk Try.func85 (by kernel_rfl) (by kernel_rfl) (by kernel_rfl) (by kernel_rfl) (fun _ => by kernel_rfl) (by kernel_rfl) (fun x => by kernel_rfl) (.nil)
noncomputable def laws_szView.fs (n : Nat) : laws_szView.d.Fs := ()
theorem laws_szView.ok (n : Nat) : CxOk E (cx n laws_szView.d.nt) → KPar (cx n laws_szView.d.nt) → laws_szView.d.Ok E (laws_szView.F (n + 1)) :=
  FD.ok (fs := laws_szView.fs n) mixedOk Try.func40 (by kernel_rfl) (by kernel_rfl) (by kernel_rfl) (by kernel_rfl) (fun _ => by kernel_rfl) (by kernel_rfl) (fun x => by kernel_rfl) (.nil)
noncomputable def laws_szSess.fs (n : Nat) : laws_szSess.d.Fs := ()
theorem laws_szSess.ok (n : Nat) : CxOk E (cx n laws_szSess.d.nt) → KPar (cx n laws_szSess.d.nt) → laws_szSess.d.Ok E (laws_szSess.F (n + 1)) :=
  FD.ok (fs := laws_szSess.fs n) mixedOk Try.func8 (by kernel_rfl) (by kernel_rfl) (by kernel_rfl) (by kernel_rfl) (fun _ => by kernel_rfl) (by kernel_rfl) (fun x => by kernel_rfl) (.nil)
noncomputable def laws_szChange.fs (n : Nat) : laws_szChange.d.Fs := ()
theorem laws_szChange.ok (n : Nat) : CxOk E (cx n laws_szChange.d.nt) → KPar (cx n laws_szChange.d.nt) → laws_szChange.d.Ok E (laws_szChange.F (n + 1)) :=
  FD.ok (fs := laws_szChange.fs n) mixedOk Try.func65 (by kernel_rfl) (by kernel_rfl) (by kernel_rfl) (by kernel_rfl) (fun _ => by kernel_rfl) (by kernel_rfl) (fun x => by kernel_rfl) (.nil)
noncomputable def laws_szChangeS.fs (n : Nat) : laws_szChangeS.d.Fs := (fun _ κe => laws_szChangeS.loop7 n (laws_szChangeS.o0.k (κe 0)) n, ())
theorem laws_szChangeS.r7 (n : Nat) : laws_szChangeS.d.Round (laws_szChangeS.fs n) (cx n laws_szChangeS.d.nt) (bodyOf Try.f21) 7 laws_szChangeS.p7 (fun κe => laws_szChangeS.step7 n (laws_szChangeS.o0.k (κe 0))) := fun κ κe x y => by kernel_rfl
theorem laws_szChangeS.ok (n : Nat) : CxOk E (cx n laws_szChangeS.d.nt) → KPar (cx n laws_szChangeS.d.nt) → laws_szChangeS.d.Ok E (laws_szChangeS.F (n + 1)) :=
  FD.ok (fs := laws_szChangeS.fs n) mixedOk Try.func21 (by kernel_rfl) (by kernel_rfl) (by kernel_rfl) (by kernel_rfl) (fun _ => by kernel_rfl) (by kernel_rfl) (fun x => by kernel_rfl) (.cons (FD.lp n (laws_szChangeS.r7 n) (by kernel_rfl) fun _ _ => by kernel_rfl) (.nil))
noncomputable def laws_toCond.fs (n : Nat) : laws_toCond.d.Fs := ()
theorem laws_toCond.ok (n : Nat) : CxOk E (cx n laws_toCond.d.nt) → KPar (cx n laws_toCond.d.nt) → laws_toCond.d.Ok E (laws_toCond.F (n + 1)) :=
  FD.ok (fs := laws_toCond.fs n) mixedOk Try.func138 (by kernel_rfl) (by kernel_rfl) (by kernel_rfl) (by kernel_rfl) (fun _ => by kernel_rfl) (by kernel_rfl) (fun x => by kernel_rfl) (.nil)
noncomputable def laws_toCondS.fs (n : Nat) : laws_toCondS.d.Fs := (fun _ κe => laws_toCondS.loop4 n (laws_toCondS.o0.k (κe 0)) n, ())
theorem laws_toCondS.r4 (n : Nat) : laws_toCondS.d.Round (laws_toCondS.fs n) (cx n laws_toCondS.d.nt) (bodyOf Try.f78) 4 laws_toCondS.p4 (fun κe => laws_toCondS.step4 n (laws_toCondS.o0.k (κe 0))) := fun κ κe x y => by kernel_rfl
theorem laws_toCondS.ok (n : Nat) : CxOk E (cx n laws_toCondS.d.nt) → KPar (cx n laws_toCondS.d.nt) → laws_toCondS.d.Ok E (laws_toCondS.F (n + 1)) :=
  FD.ok (fs := laws_toCondS.fs n) mixedOk Try.func78 (by kernel_rfl) (by kernel_rfl) (by kernel_rfl) (by kernel_rfl) (fun _ => by kernel_rfl) (by kernel_rfl) (fun x => by kernel_rfl) (.cons (FD.lp n (laws_toCondS.r4 n) (by kernel_rfl) fun _ _ => by kernel_rfl) (.nil))
noncomputable def laws_toIntS.fs (n : Nat) : laws_toIntS.d.Fs := (fun _ κe => laws_toIntS.loop4 n (laws_toIntS.o0.k (κe 0)) n, ())
theorem laws_toIntS.r4 (n : Nat) : laws_toIntS.d.Round (laws_toIntS.fs n) (cx n laws_toIntS.d.nt) (bodyOf Try.f45) 4 laws_toIntS.p4 (fun κe => laws_toIntS.step4 n (laws_toIntS.o0.k (κe 0))) := fun κ κe x y => by kernel_rfl
theorem laws_toIntS.ok (n : Nat) : CxOk E (cx n laws_toIntS.d.nt) → KPar (cx n laws_toIntS.d.nt) → laws_toIntS.d.Ok E (laws_toIntS.F (n + 1)) :=
  FD.ok (fs := laws_toIntS.fs n) mixedOk Try.func45 (by kernel_rfl) (by kernel_rfl) (by kernel_rfl) (by kernel_rfl) (fun _ => by kernel_rfl) (by kernel_rfl) (fun x => by kernel_rfl) (.cons (FD.lp n (laws_toIntS.r4 n) (by kernel_rfl) fun _ _ => by kernel_rfl) (.nil))
noncomputable def laws_toQuery.fs (n : Nat) : laws_toQuery.d.Fs := ()
theorem laws_toQuery.ok (n : Nat) : CxOk E (cx n laws_toQuery.d.nt) → KPar (cx n laws_toQuery.d.nt) → laws_toQuery.d.Ok E (laws_toQuery.F (n + 1)) :=
  FD.ok (fs := laws_toQuery.fs n) mixedOk Try.func33 (by kernel_rfl) (by kernel_rfl) (by kernel_rfl) (by kernel_rfl) (fun _ => by kernel_rfl) (by kernel_rfl) (fun x => by kernel_rfl) (.nil)
noncomputable def laws_toRow.fs (n : Nat) : laws_toRow.d.Fs := ()
theorem laws_toRow.ok (n : Nat) : CxOk E (cx n laws_toRow.d.nt) → KPar (cx n laws_toRow.d.nt) → laws_toRow.d.Ok E (laws_toRow.F (n + 1)) :=
  FD.ok (fs := laws_toRow.fs n) mixedOk Try.func130 (by kernel_rfl) (by kernel_rfl) (by kernel_rfl) (by kernel_rfl) (fun _ => by kernel_rfl) (by kernel_rfl) (fun x => by kernel_rfl) (.nil)
noncomputable def laws_toRowS.fs (n : Nat) : laws_toRowS.d.Fs := (fun _ κe => laws_toRowS.loop4 n (laws_toRowS.o0.k (κe 0)) n, ())
theorem laws_toRowS.r4 (n : Nat) : laws_toRowS.d.Round (laws_toRowS.fs n) (cx n laws_toRowS.d.nt) (bodyOf Try.f94) 4 laws_toRowS.p4 (fun κe => laws_toRowS.step4 n (laws_toRowS.o0.k (κe 0))) := fun κ κe x y => by kernel_rfl
theorem laws_toRowS.ok (n : Nat) : CxOk E (cx n laws_toRowS.d.nt) → KPar (cx n laws_toRowS.d.nt) → laws_toRowS.d.Ok E (laws_toRowS.F (n + 1)) :=
  FD.ok (fs := laws_toRowS.fs n) mixedOk Try.func94 (by kernel_rfl) (by kernel_rfl) (by kernel_rfl) (by kernel_rfl) (fun _ => by kernel_rfl) (by kernel_rfl) (fun x => by kernel_rfl) (.cons (FD.lp n (laws_toRowS.r4 n) (by kernel_rfl) fun _ _ => by kernel_rfl) (.nil))
noncomputable def laws_toKid.fs (n : Nat) : laws_toKid.d.Fs := ()
theorem laws_toKid.ok (n : Nat) : CxOk E (cx n laws_toKid.d.nt) → KPar (cx n laws_toKid.d.nt) → laws_toKid.d.Ok E (laws_toKid.F (n + 1)) :=
  FD.ok (fs := laws_toKid.fs n) mixedOk Try.func145 (by kernel_rfl) (by kernel_rfl) (by kernel_rfl) (by kernel_rfl) (fun _ => by kernel_rfl) (by kernel_rfl) (fun x => by kernel_rfl) (.nil)
noncomputable def laws_toKidS.fs (n : Nat) : laws_toKidS.d.Fs := (fun _ κe => laws_toKidS.loop4 n (laws_toKidS.o0.k (κe 0)) n, ())
theorem laws_toKidS.r4 (n : Nat) : laws_toKidS.d.Round (laws_toKidS.fs n) (cx n laws_toKidS.d.nt) (bodyOf Try.f95) 4 laws_toKidS.p4 (fun κe => laws_toKidS.step4 n (laws_toKidS.o0.k (κe 0))) := fun κ κe x y => by kernel_rfl
theorem laws_toKidS.ok (n : Nat) : CxOk E (cx n laws_toKidS.d.nt) → KPar (cx n laws_toKidS.d.nt) → laws_toKidS.d.Ok E (laws_toKidS.F (n + 1)) :=
  FD.ok (fs := laws_toKidS.fs n) mixedOk Try.func95 (by kernel_rfl) (by kernel_rfl) (by kernel_rfl) (by kernel_rfl) (fun _ => by kernel_rfl) (by kernel_rfl) (fun x => by kernel_rfl) (.cons (FD.lp n (laws_toKidS.r4 n) (by kernel_rfl) fun _ _ => by kernel_rfl) (.nil))
noncomputable def laws_toView.fs (n : Nat) : laws_toView.d.Fs := ()
theorem laws_toView.ok (n : Nat) : CxOk E (cx n laws_toView.d.nt) → KPar (cx n laws_toView.d.nt) → laws_toView.d.Ok E (laws_toView.F (n + 1)) :=
  FD.ok (fs := laws_toView.fs n) mixedOk Try.func46 (by kernel_rfl) (by kernel_rfl) (by kernel_rfl) (by kernel_rfl) (fun _ => by kernel_rfl) (by kernel_rfl) (fun x => by kernel_rfl) (.nil)
noncomputable def laws_toSess.fs (n : Nat) : laws_toSess.d.Fs := ()
theorem laws_toSess.ok (n : Nat) : CxOk E (cx n laws_toSess.d.nt) → KPar (cx n laws_toSess.d.nt) → laws_toSess.d.Ok E (laws_toSess.F (n + 1)) :=
  FD.ok (fs := laws_toSess.fs n) mixedOk Try.func11 (by kernel_rfl) (by kernel_rfl) (by kernel_rfl) (by kernel_rfl) (fun _ => by kernel_rfl) (by kernel_rfl) (fun x => by kernel_rfl) (.nil)
noncomputable def laws_toChange.fs (n : Nat) : laws_toChange.d.Fs := ()
theorem laws_toChange.ok (n : Nat) : CxOk E (cx n laws_toChange.d.nt) → KPar (cx n laws_toChange.d.nt) → laws_toChange.d.Ok E (laws_toChange.F (n + 1)) :=
  FD.ok (fs := laws_toChange.fs n) mixedOk Try.func68 (by kernel_rfl) (by kernel_rfl) (by kernel_rfl) (by kernel_rfl) (fun _ => by kernel_rfl) (by kernel_rfl) (fun x => by kernel_rfl) (.nil)
noncomputable def laws_toChangeS.fs (n : Nat) : laws_toChangeS.d.Fs := (fun _ κe => laws_toChangeS.loop4 n (laws_toChangeS.o0.k (κe 0)) n, ())
theorem laws_toChangeS.r4 (n : Nat) : laws_toChangeS.d.Round (laws_toChangeS.fs n) (cx n laws_toChangeS.d.nt) (bodyOf Try.f23) 4 laws_toChangeS.p4 (fun κe => laws_toChangeS.step4 n (laws_toChangeS.o0.k (κe 0))) := fun κ κe x y => by kernel_rfl
theorem laws_toChangeS.ok (n : Nat) : CxOk E (cx n laws_toChangeS.d.nt) → KPar (cx n laws_toChangeS.d.nt) → laws_toChangeS.d.Ok E (laws_toChangeS.F (n + 1)) :=
  FD.ok (fs := laws_toChangeS.fs n) mixedOk Try.func23 (by kernel_rfl) (by kernel_rfl) (by kernel_rfl) (by kernel_rfl) (fun _ => by kernel_rfl) (by kernel_rfl) (fun x => by kernel_rfl) (.cons (FD.lp n (laws_toChangeS.r4 n) (by kernel_rfl) fun _ _ => by kernel_rfl) (.nil))
noncomputable def spec_l9Copy.fs (n : Nat) : spec_l9Copy.d.Fs := ()
theorem spec_l9Copy.ok (n : Nat) : CxOk E (cx n spec_l9Copy.d.nt) → KPar (cx n spec_l9Copy.d.nt) → spec_l9Copy.d.Ok E (spec_l9Copy.F (n + 1)) :=
  FD.ok (fs := spec_l9Copy.fs n) mixedOk Try.func135 (by kernel_rfl) (by kernel_rfl) (by kernel_rfl) (by kernel_rfl) (fun _ => by kernel_rfl) (by kernel_rfl) (fun x => by kernel_rfl) (.nil)
noncomputable def spec_l6Copy.fs (n : Nat) : spec_l6Copy.d.Fs := ()
theorem spec_l6Copy.ok (n : Nat) : CxOk E (cx n spec_l6Copy.d.nt) → KPar (cx n spec_l6Copy.d.nt) → spec_l6Copy.d.Ok E (spec_l6Copy.F (n + 1)) :=
  FD.ok (fs := spec_l6Copy.fs n) mixedOk Try.func173 (by kernel_rfl) (by kernel_rfl) (by kernel_rfl) (by kernel_rfl) (fun _ => by kernel_rfl) (by kernel_rfl) (fun x => by kernel_rfl) (.nil)
noncomputable def spec_l6Rows.fs (n : Nat) : spec_l6Rows.d.Fs := (fun _ κe => spec_l6Rows.loop4 n (spec_l6Rows.o0.k (κe 0)) n, ())
theorem spec_l6Rows.r4 (n : Nat) : spec_l6Rows.d.Round (spec_l6Rows.fs n) (cx n spec_l6Rows.d.nt) (bodyOf Try.f156) 4 spec_l6Rows.p4 (fun κe => spec_l6Rows.step4 n (spec_l6Rows.o0.k (κe 0))) := fun κ κe x y => by kernel_rfl
theorem spec_l6Rows.ok (n : Nat) : CxOk E (cx n spec_l6Rows.d.nt) → KPar (cx n spec_l6Rows.d.nt) → spec_l6Rows.d.Ok E (spec_l6Rows.F (n + 1)) :=
  FD.ok (fs := spec_l6Rows.fs n) mixedOk Try.func156 (by kernel_rfl) (by kernel_rfl) (by kernel_rfl) (by kernel_rfl) (fun _ => by kernel_rfl) (by kernel_rfl) (fun x => by kernel_rfl) (.cons (FD.lp n (spec_l6Rows.r4 n) (by kernel_rfl) fun _ _ => by kernel_rfl) (.nil))
noncomputable def spec_l13Copy.fs (n : Nat) : spec_l13Copy.d.Fs := ()
theorem spec_l13Copy.ok (n : Nat) : CxOk E (cx n spec_l13Copy.d.nt) → KPar (cx n spec_l13Copy.d.nt) → spec_l13Copy.d.Ok E (spec_l13Copy.F (n + 1)) :=
  FD.ok (fs := spec_l13Copy.fs n) mixedOk Try.func128 (by kernel_rfl) (by kernel_rfl) (by kernel_rfl) (by kernel_rfl) (fun _ => by kernel_rfl) (by kernel_rfl) (fun x => by kernel_rfl) (.nil)
noncomputable def spec_l16Copy.fs (n : Nat) : spec_l16Copy.d.Fs := ()
theorem spec_l16Copy.ok (n : Nat) : CxOk E (cx n spec_l16Copy.d.nt) → KPar (cx n spec_l16Copy.d.nt) → spec_l16Copy.d.Ok E (spec_l16Copy.F (n + 1)) :=
  FD.ok (fs := spec_l16Copy.fs n) mixedOk Try.func66 (by kernel_rfl) (by kernel_rfl) (by kernel_rfl) (by kernel_rfl) (fun _ => by kernel_rfl) (by kernel_rfl) (fun x => by kernel_rfl) (.nil)
noncomputable def spec_RowAt.fs (n : Nat) : spec_RowAt.d.Fs := (fun _ κe => spec_RowAt.loop3 n (spec_RowAt.o0.k (κe 0)) n, ())
theorem spec_RowAt.r3 (n : Nat) : spec_RowAt.d.Round (spec_RowAt.fs n) (cx n spec_RowAt.d.nt) (bodyOf Try.f89) 3 spec_RowAt.p3 (fun κe => spec_RowAt.step3 n (spec_RowAt.o0.k (κe 0))) := fun κ κe x y => by kernel_rfl
theorem spec_RowAt.ok (n : Nat) : CxOk E (cx n spec_RowAt.d.nt) → KPar (cx n spec_RowAt.d.nt) → spec_RowAt.d.Ok E (spec_RowAt.F (n + 1)) :=
  FD.ok (fs := spec_RowAt.fs n) mixedOk Try.func89 (by kernel_rfl) (by kernel_rfl) (by kernel_rfl) (by kernel_rfl) (fun _ => by kernel_rfl) (by kernel_rfl) (fun x => by kernel_rfl) (.cons (FD.lp n (spec_RowAt.r3 n) (by kernel_rfl) fun _ _ => by kernel_rfl) (.nil))
noncomputable def spec_RowDrop.fs (n : Nat) : spec_RowDrop.d.Fs := (fun _ κe => spec_RowDrop.loop5 n (spec_RowDrop.o0.k (κe 0)) n, ())
theorem spec_RowDrop.r5 (n : Nat) : spec_RowDrop.d.Round (spec_RowDrop.fs n) (cx n spec_RowDrop.d.nt) (bodyOf Try.f163) 5 spec_RowDrop.p5 (fun κe => spec_RowDrop.step5 n (spec_RowDrop.o0.k (κe 0))) := fun κ κe x y => by kernel_rfl
theorem spec_RowDrop.ok (n : Nat) : CxOk E (cx n spec_RowDrop.d.nt) → KPar (cx n spec_RowDrop.d.nt) → spec_RowDrop.d.Ok E (spec_RowDrop.F (n + 1)) :=
  FD.ok (fs := spec_RowDrop.fs n) mixedOk Try.func163 (by kernel_rfl) (by kernel_rfl) (by kernel_rfl) (by kernel_rfl) (fun _ => by kernel_rfl) (by kernel_rfl) (fun x => by kernel_rfl) (.cons (FD.lp n (spec_RowDrop.r5 n) (by kernel_rfl) fun _ _ => by kernel_rfl) (.nil))
noncomputable def spec_l1In.fs (n : Nat) : spec_l1In.d.Fs := ()
theorem spec_l1In.ok (n : Nat) : CxOk E (cx n spec_l1In.d.nt) → KPar (cx n spec_l1In.d.nt) → spec_l1In.d.Ok E (spec_l1In.F (n + 1)) :=
  FD.ok (fs := spec_l1In.fs n) mixedOk Try.func42 (by kernel_rfl) (by kernel_rfl) (by kernel_rfl) (by kernel_rfl) (fun _ => by kernel_rfl) (by kernel_rfl) (fun x => by kernel_rfl) (.nil)
noncomputable def spec_l9Holds.fs (n : Nat) : spec_l9Holds.d.Fs := ()
theorem spec_l9Holds.ok (n : Nat) : CxOk E (cx n spec_l9Holds.d.nt) → KPar (cx n spec_l9Holds.d.nt) → spec_l9Holds.d.Ok E (spec_l9Holds.F (n + 1)) :=
  FD.ok (fs := spec_l9Holds.fs n) mixedOk Try.func143 (by kernel_rfl) (by kernel_rfl) (by kernel_rfl) (by kernel_rfl) (fun _ => by kernel_rfl) (by kernel_rfl) (fun x => by kernel_rfl) (.nil)
noncomputable def spec_Matches.fs (n : Nat) : spec_Matches.d.Fs := (fun _ κe => spec_Matches.loop3 n (spec_Matches.o0.k (κe 0)) n, ())
theorem spec_Matches.r3 (n : Nat) : spec_Matches.d.Round (spec_Matches.fs n) (cx n spec_Matches.d.nt) (bodyOf Try.f88) 3 spec_Matches.p3 (fun κe => spec_Matches.step3 n (spec_Matches.o0.k (κe 0))) := fun κ κe x y => by kernel_rfl
theorem spec_Matches.ok (n : Nat) : CxOk E (cx n spec_Matches.d.nt) → KPar (cx n spec_Matches.d.nt) → spec_Matches.d.Ok E (spec_Matches.F (n + 1)) :=
  FD.ok (fs := spec_Matches.fs n) mixedOk Try.func88 (by kernel_rfl) (by kernel_rfl) (by kernel_rfl) (by kernel_rfl) (fun _ => by kernel_rfl) (by kernel_rfl) (fun x => by kernel_rfl) (.cons (FD.lp n (spec_Matches.r3 n) (by kernel_rfl) fun _ _ => by kernel_rfl) (.nil))
noncomputable def spec_l9Cell.fs (n : Nat) : spec_l9Cell.d.Fs := ()
theorem spec_l9Cell.ok (n : Nat) : CxOk E (cx n spec_l9Cell.d.nt) → KPar (cx n spec_l9Cell.d.nt) → spec_l9Cell.d.Ok E (spec_l9Cell.F (n + 1)) :=
  FD.ok (fs := spec_l9Cell.fs n) mixedOk Try.func144 (by kernel_rfl) (by kernel_rfl) (by kernel_rfl) (by kernel_rfl) (fun _ => by kernel_rfl) (by kernel_rfl) (fun x => by kernel_rfl) (.nil)
noncomputable def spec_Ahead.fs (n : Nat) : spec_Ahead.d.Fs := ()
theorem spec_Ahead.ok (n : Nat) : CxOk E (cx n spec_Ahead.d.nt) → KPar (cx n spec_Ahead.d.nt) → spec_Ahead.d.Ok E (spec_Ahead.F (n + 1)) :=
  FD.ok (fs := spec_Ahead.fs n) mixedOk Try.func90 (by kernel_rfl) (by kernel_rfl) (by kernel_rfl) (by kernel_rfl) (fun _ => by kernel_rfl) (by kernel_rfl) (fun x => by kernel_rfl) (.nil)
noncomputable def spec_l11Put.fs (n : Nat) : spec_l11Put.d.Fs := (fun _ κe => spec_l11Put.loop5 n (spec_l11Put.o0.k (κe 0)) n, ())
theorem spec_l11Put.r5 (n : Nat) : spec_l11Put.d.Round (spec_l11Put.fs n) (cx n spec_l11Put.d.nt) (bodyOf Try.f164) 5 spec_l11Put.p5 (fun κe => spec_l11Put.step5 n (spec_l11Put.o0.k (κe 0))) := fun κ κe x y => by kernel_rfl
theorem spec_l11Put.ok (n : Nat) : CxOk E (cx n spec_l11Put.d.nt) → KPar (cx n spec_l11Put.d.nt) → spec_l11Put.d.Ok E (spec_l11Put.F (n + 1)) :=
  FD.ok (fs := spec_l11Put.fs n) mixedOk Try.func164 (by kernel_rfl) (by kernel_rfl) (by kernel_rfl) (by kernel_rfl) (fun _ => by kernel_rfl) (by kernel_rfl) (fun x => by kernel_rfl) (.cons (FD.lp n (spec_l11Put.r5 n) (by kernel_rfl) fun _ _ => by kernel_rfl) (.nil))
noncomputable def spec_KidPut.fs (n : Nat) : spec_KidPut.d.Fs := (fun _ κe => spec_KidPut.loop5 n (spec_KidPut.o0.k (κe 0)) n, ())
theorem spec_KidPut.r5 (n : Nat) : spec_KidPut.d.Round (spec_KidPut.fs n) (cx n spec_KidPut.d.nt) (bodyOf Try.f137) 5 spec_KidPut.p5 (fun κe => spec_KidPut.step5 n (spec_KidPut.o0.k (κe 0))) := fun κ κe x y => by kernel_rfl
theorem spec_KidPut.ok (n : Nat) : CxOk E (cx n spec_KidPut.d.nt) → KPar (cx n spec_KidPut.d.nt) → spec_KidPut.d.Ok E (spec_KidPut.F (n + 1)) :=
  FD.ok (fs := spec_KidPut.fs n) mixedOk Try.func137 (by kernel_rfl) (by kernel_rfl) (by kernel_rfl) (by kernel_rfl) (fun _ => by kernel_rfl) (by kernel_rfl) (fun x => by kernel_rfl) (.cons (FD.lp n (spec_KidPut.r5 n) (by kernel_rfl) fun _ _ => by kernel_rfl) (.nil))
noncomputable def spec_ViewChange.fs (n : Nat) : spec_ViewChange.d.Fs := ()
theorem spec_ViewChange.ok (n : Nat) : CxOk E (cx n spec_ViewChange.d.nt) → KPar (cx n spec_ViewChange.d.nt) → spec_ViewChange.d.Ok E (spec_ViewChange.F (n + 1)) :=
  FD.ok (fs := spec_ViewChange.fs n) mixedOk Try.func129 (by kernel_rfl) (by kernel_rfl) (by kernel_rfl) (by kernel_rfl) (fun _ => by kernel_rfl) (by kernel_rfl) (fun x => by kernel_rfl) (.nil)
noncomputable def spec_ViewChanges.fs (n : Nat) : spec_ViewChanges.d.Fs := (fun _ κe => spec_ViewChanges.loop4 n (spec_ViewChanges.o0.k (κe 0)) n, ())
theorem spec_ViewChanges.r4 (n : Nat) : spec_ViewChanges.d.Round (spec_ViewChanges.fs n) (cx n spec_ViewChanges.d.nt) (bodyOf Try.f67) 4 spec_ViewChanges.p4 (fun κe => spec_ViewChanges.step4 n (spec_ViewChanges.o0.k (κe 0))) := fun κ κe x y => by kernel_rfl
theorem spec_ViewChanges.ok (n : Nat) : CxOk E (cx n spec_ViewChanges.d.nt) → KPar (cx n spec_ViewChanges.d.nt) → spec_ViewChanges.d.Ok E (spec_ViewChanges.F (n + 1)) :=
  FD.ok (fs := spec_ViewChanges.fs n) mixedOk Try.func67 (by kernel_rfl) (by kernel_rfl) (by kernel_rfl) (by kernel_rfl) (fun _ => by kernel_rfl) (by kernel_rfl) (fun x => by kernel_rfl) (.cons (FD.lp n (spec_ViewChanges.r4 n) (by kernel_rfl) fun _ _ => by kernel_rfl) (.nil))
noncomputable def spec_SessGo.fs (n : Nat) : spec_SessGo.d.Fs := ()
theorem spec_SessGo.ok (n : Nat) : CxOk E (cx n spec_SessGo.d.nt) → KPar (cx n spec_SessGo.d.nt) → spec_SessGo.d.Ok E (spec_SessGo.F (n + 1)) :=
  FD.ok (fs := spec_SessGo.fs n) mixedOk Try.func22 (by kernel_rfl) (by kernel_rfl) (by kernel_rfl) (by kernel_rfl) (fun _ => by kernel_rfl) (by kernel_rfl) (fun x => by kernel_rfl) (.nil)
noncomputable def impl_copyInts.fs (n : Nat) : impl_copyInts.d.Fs := ()
theorem impl_copyInts.ok (n : Nat) : CxOk E (cx n impl_copyInts.d.nt) → KPar (cx n impl_copyInts.d.nt) → impl_copyInts.d.Ok E (impl_copyInts.F (n + 1)) :=
  FD.ok (fs := impl_copyInts.fs n) mixedOk Try.func112 (by kernel_rfl) (by kernel_rfl) (by kernel_rfl) (by kernel_rfl) (fun _ => by kernel_rfl) (by kernel_rfl) (fun x => by kernel_rfl) (.nil)
noncomputable def impl_copyQuery.fs (n : Nat) : impl_copyQuery.d.Fs := ()
theorem impl_copyQuery.ok (n : Nat) : CxOk E (cx n impl_copyQuery.d.nt) → KPar (cx n impl_copyQuery.d.nt) → impl_copyQuery.d.Ok E (impl_copyQuery.F (n + 1)) :=
  FD.ok (fs := impl_copyQuery.fs n) mixedOk Try.func139 (by kernel_rfl) (by kernel_rfl) (by kernel_rfl) (by kernel_rfl) (fun _ => by kernel_rfl) (by kernel_rfl) (fun x => by kernel_rfl) (.nil)
noncomputable def impl_copyRow.fs (n : Nat) : impl_copyRow.d.Fs := ()
theorem impl_copyRow.ok (n : Nat) : CxOk E (cx n impl_copyRow.d.nt) → KPar (cx n impl_copyRow.d.nt) → impl_copyRow.d.Ok E (impl_copyRow.F (n + 1)) :=
  FD.ok (fs := impl_copyRow.fs n) mixedOk Try.func168 (by kernel_rfl) (by kernel_rfl) (by kernel_rfl) (by kernel_rfl) (fun _ => by kernel_rfl) (by kernel_rfl) (fun x => by kernel_rfl) (.nil)
noncomputable def impl_copyRows.fs (n : Nat) : impl_copyRows.d.Fs := (fun _ κe => impl_copyRows.loop4 n (impl_copyRows.o0.k (κe 0)) n, ())
theorem impl_copyRows.r4 (n : Nat) : impl_copyRows.d.Round (impl_copyRows.fs n) (cx n impl_copyRows.d.nt) (bodyOf Try.f165) 4 impl_copyRows.p4 (fun κe => impl_copyRows.step4 n (impl_copyRows.o0.k (κe 0))) := fun κ κe x y => by kernel_rfl
theorem impl_copyRows.ok (n : Nat) : CxOk E (cx n impl_copyRows.d.nt) → KPar (cx n impl_copyRows.d.nt) → impl_copyRows.d.Ok E (impl_copyRows.F (n + 1)) :=
  FD.ok (fs := impl_copyRows.fs n) mixedOk Try.func165 (by kernel_rfl) (by kernel_rfl) (by kernel_rfl) (by kernel_rfl) (fun _ => by kernel_rfl) (by kernel_rfl) (fun x => by kernel_rfl) (.cons (FD.lp n (impl_copyRows.r4 n) (by kernel_rfl) fun _ _ => by kernel_rfl) (.nil))
noncomputable def impl_copyView.fs (n : Nat) : impl_copyView.d.Fs := ()
theorem impl_copyView.ok (n : Nat) : CxOk E (cx n impl_copyView.d.nt) → KPar (cx n impl_copyView.d.nt) → impl_copyView.d.Ok E (impl_copyView.F (n + 1)) :=
  FD.ok (fs := impl_copyView.fs n) mixedOk Try.func131 (by kernel_rfl) (by kernel_rfl) (by kernel_rfl) (by kernel_rfl) (fun _ => by kernel_rfl) (by kernel_rfl) (fun x => by kernel_rfl) (.nil)
noncomputable def impl_copySess.fs (n : Nat) : impl_copySess.d.Fs := ()
theorem impl_copySess.ok (n : Nat) : CxOk E (cx n impl_copySess.d.nt) → KPar (cx n impl_copySess.d.nt) → impl_copySess.d.Ok E (impl_copySess.F (n + 1)) :=
  FD.ok (fs := impl_copySess.fs n) mixedOk Try.func69 (by kernel_rfl) (by kernel_rfl) (by kernel_rfl) (by kernel_rfl) (fun _ => by kernel_rfl) (by kernel_rfl) (fun x => by kernel_rfl) (.nil)
noncomputable def impl_RowAt_f1.fs (n : Nat) : impl_RowAt_f1.d.Fs := ()
theorem impl_RowAt_f1.ok (n : Nat) : CxOk E (cx n impl_RowAt_f1.d.nt) → KPar (cx n impl_RowAt_f1.d.nt) → impl_RowAt_f1.d.Ok E (impl_RowAt_f1.F (n + 1)) :=
  FD.ok (fs := impl_RowAt_f1.fs n) mixedOk Try.func153 (by kernel_rfl) (by kernel_rfl) (by kernel_rfl) (by kernel_rfl) (fun _ => by kernel_rfl) (by kernel_rfl) (fun x => by kernel_rfl) (.nil)
noncomputable def slices_IndexFunc_Row_impl_RowAt_f1.fs (n : Nat) : slices_IndexFunc_Row_impl_RowAt_f1.d.Fs := (fun _ κe => slices_IndexFunc_Row_impl_RowAt_f1.loop3 n (slices_IndexFunc_Row_impl_RowAt_f1.o0.k (κe 0)) n, ())
theorem slices_IndexFunc_Row_impl_RowAt_f1.r3 (n : Nat) : slices_IndexFunc_Row_impl_RowAt_f1.d.Round (slices_IndexFunc_Row_impl_RowAt_f1.fs n) (cx n slices_IndexFunc_Row_impl_RowAt_f1.d.nt) (bodyOf Try.f152) 3 slices_IndexFunc_Row_impl_RowAt_f1.p3 (fun κe => slices_IndexFunc_Row_impl_RowAt_f1.step3 n (slices_IndexFunc_Row_impl_RowAt_f1.o0.k (κe 0))) := fun κ κe x y => by kernel_rfl
theorem slices_IndexFunc_Row_impl_RowAt_f1.ok (n : Nat) : CxOk E (cx n slices_IndexFunc_Row_impl_RowAt_f1.d.nt) → KPar (cx n slices_IndexFunc_Row_impl_RowAt_f1.d.nt) → slices_IndexFunc_Row_impl_RowAt_f1.d.Ok E (slices_IndexFunc_Row_impl_RowAt_f1.F (n + 1)) :=
  FD.ok (fs := slices_IndexFunc_Row_impl_RowAt_f1.fs n) mixedOk Try.func152 (by kernel_rfl) (by kernel_rfl) (by kernel_rfl) (by kernel_rfl) (fun _ => by kernel_rfl) (by kernel_rfl) (fun x => by kernel_rfl) (.cons (FD.lp n (slices_IndexFunc_Row_impl_RowAt_f1.r3 n) (by kernel_rfl) fun _ _ => by kernel_rfl) (.nil))
noncomputable def impl_RowAt.fs (n : Nat) : impl_RowAt.d.Fs := ()
theorem impl_RowAt.ok (n : Nat) : CxOk E (cx n impl_RowAt.d.nt) → KPar (cx n impl_RowAt.d.nt) → impl_RowAt.d.Ok E (impl_RowAt.F (n + 1)) :=
  FD.ok (fs := impl_RowAt.fs n) mixedOk Try.func100 (by kernel_rfl) (by kernel_rfl) (by kernel_rfl) (by kernel_rfl) (fun _ => by kernel_rfl) (by kernel_rfl) (fun x => by kernel_rfl) (.nil)
noncomputable def impl_RowDrop.fs (n : Nat) : impl_RowDrop.d.Fs := ()
theorem impl_RowDrop.ok (n : Nat) : CxOk E (cx n impl_RowDrop.d.nt) → KPar (cx n impl_RowDrop.d.nt) → impl_RowDrop.d.Ok E (impl_RowDrop.F (n + 1)) :=
  FD.ok (fs := impl_RowDrop.fs n) mixedOk Try.func166 (by kernel_rfl) (by kernel_rfl) (by kernel_rfl) (by kernel_rfl) (fun _ => by kernel_rfl) (by kernel_rfl) (fun x => by kernel_rfl) (.nil)
noncomputable def impl_within.fs (n : Nat) : impl_within.d.Fs := ()
theorem impl_within.ok (n : Nat) : CxOk E (cx n impl_within.d.nt) → KPar (cx n impl_within.d.nt) → impl_within.d.Ok E (impl_within.F (n + 1)) :=
  FD.ok (fs := impl_within.fs n) mixedOk Try.func51 (by kernel_rfl) (by kernel_rfl) (by kernel_rfl) (by kernel_rfl) (fun _ => by kernel_rfl) (by kernel_rfl) (fun x => by kernel_rfl) (.nil)
noncomputable def impl_holds.fs (n : Nat) : impl_holds.d.Fs := ()
theorem impl_holds.ok (n : Nat) : CxOk E (cx n impl_holds.d.nt) → KPar (cx n impl_holds.d.nt) → impl_holds.d.Ok E (impl_holds.F (n + 1)) :=
  FD.ok (fs := impl_holds.fs n) mixedOk Try.func150 (by kernel_rfl) (by kernel_rfl) (by kernel_rfl) (by kernel_rfl) (fun _ => by kernel_rfl) (by kernel_rfl) (fun x => by kernel_rfl) (.nil)
noncomputable def impl_Matches.fs (n : Nat) : impl_Matches.d.Fs := (fun _ κe => impl_Matches.loop3 n (impl_Matches.o0.k (κe 0)) n, ())
theorem impl_Matches.r3 (n : Nat) : impl_Matches.d.Round (impl_Matches.fs n) (cx n impl_Matches.d.nt) (bodyOf Try.f98) 3 impl_Matches.p3 (fun κe => impl_Matches.step3 n (impl_Matches.o0.k (κe 0))) := fun κ κe x y => by kernel_rfl
theorem impl_Matches.ok (n : Nat) : CxOk E (cx n impl_Matches.d.nt) → KPar (cx n impl_Matches.d.nt) → impl_Matches.d.Ok E (impl_Matches.F (n + 1)) :=
  FD.ok (fs := impl_Matches.fs n) mixedOk Try.func98 (by kernel_rfl) (by kernel_rfl) (by kernel_rfl) (by kernel_rfl) (fun _ => by kernel_rfl) (by kernel_rfl) (fun x => by kernel_rfl) (.cons (FD.lp n (impl_Matches.r3 n) (by kernel_rfl) fun _ _ => by kernel_rfl) (.nil))
noncomputable def impl_cellOf.fs (n : Nat) : impl_cellOf.d.Fs := ()
theorem impl_cellOf.ok (n : Nat) : CxOk E (cx n impl_cellOf.d.nt) → KPar (cx n impl_cellOf.d.nt) → impl_cellOf.d.Ok E (impl_cellOf.F (n + 1)) :=
  FD.ok (fs := impl_cellOf.fs n) mixedOk Try.func151 (by kernel_rfl) (by kernel_rfl) (by kernel_rfl) (by kernel_rfl) (fun _ => by kernel_rfl) (by kernel_rfl) (fun x => by kernel_rfl) (.nil)
noncomputable def impl_Ahead.fs (n : Nat) : impl_Ahead.d.Fs := ()
theorem impl_Ahead.ok (n : Nat) : CxOk E (cx n impl_Ahead.d.nt) → KPar (cx n impl_Ahead.d.nt) → impl_Ahead.d.Ok E (impl_Ahead.F (n + 1)) :=
  FD.ok (fs := impl_Ahead.fs n) mixedOk Try.func99 (by kernel_rfl) (by kernel_rfl) (by kernel_rfl) (by kernel_rfl) (fun _ => by kernel_rfl) (by kernel_rfl) (fun x => by kernel_rfl) (.nil)
noncomputable def impl_rowPut_f1.fs (n : Nat) : impl_rowPut_f1.d.Fs := ()
theorem impl_rowPut_f1.ok (n : Nat) : CxOk E (cx n impl_rowPut_f1.d.nt) → KPar (cx n impl_rowPut_f1.d.nt) → impl_rowPut_f1.d.Ok E (impl_rowPut_f1.F (n + 1)) :=
  FD.ok (fs := impl_rowPut_f1.fs n) mixedOk Try.func175 (by kernel_rfl) (by kernel_rfl) (by kernel_rfl) (by kernel_rfl) (fun _ => by kernel_rfl) (by kernel_rfl) (fun x => by kernel_rfl) (.nil)
noncomputable def slices_IndexFunc_Row_impl_rowPut_f1.fs (n : Nat) : slices_IndexFunc_Row_impl_rowPut_f1.d.Fs := (fun _ κe => slices_IndexFunc_Row_impl_rowPut_f1.loop3 n (slices_IndexFunc_Row_impl_rowPut_f1.o0.k (κe 0)) n, ())
theorem slices_IndexFunc_Row_impl_rowPut_f1.r3 (n : Nat) : slices_IndexFunc_Row_impl_rowPut_f1.d.Round (slices_IndexFunc_Row_impl_rowPut_f1.fs n) (cx n slices_IndexFunc_Row_impl_rowPut_f1.d.nt) (bodyOf Try.f152) 3 slices_IndexFunc_Row_impl_rowPut_f1.p3 (fun κe => slices_IndexFunc_Row_impl_rowPut_f1.step3 n (slices_IndexFunc_Row_impl_rowPut_f1.o0.k (κe 0))) := fun κ κe x y => by kernel_rfl
theorem slices_IndexFunc_Row_impl_rowPut_f1.ok (n : Nat) : CxOk E (cx n slices_IndexFunc_Row_impl_rowPut_f1.d.nt) → KPar (cx n slices_IndexFunc_Row_impl_rowPut_f1.d.nt) → slices_IndexFunc_Row_impl_rowPut_f1.d.Ok E (slices_IndexFunc_Row_impl_rowPut_f1.F (n + 1)) :=
  FD.ok (fs := slices_IndexFunc_Row_impl_rowPut_f1.fs n) mixedOk Try.func152 (by kernel_rfl) (by kernel_rfl) (by kernel_rfl) (by kernel_rfl) (fun _ => by kernel_rfl) (by kernel_rfl) (fun x => by kernel_rfl) (.cons (FD.lp n (slices_IndexFunc_Row_impl_rowPut_f1.r3 n) (by kernel_rfl) fun _ _ => by kernel_rfl) (.nil))
noncomputable def impl_rowPut.fs (n : Nat) : impl_rowPut.d.Fs := ()
theorem impl_rowPut.ok (n : Nat) : CxOk E (cx n impl_rowPut.d.nt) → KPar (cx n impl_rowPut.d.nt) → impl_rowPut.d.Ok E (impl_rowPut.F (n + 1)) :=
  FD.ok (fs := impl_rowPut.fs n) mixedOk Try.func167 (by kernel_rfl) (by kernel_rfl) (by kernel_rfl) (by kernel_rfl) (fun _ => by kernel_rfl) (by kernel_rfl) (fun x => by kernel_rfl) (.nil)
noncomputable def impl_KidPut.fs (n : Nat) : impl_KidPut.d.Fs := (fun _ κe => impl_KidPut.loop4 n (impl_KidPut.o0.k (κe 0)) n, ())
theorem impl_KidPut.r4 (n : Nat) : impl_KidPut.d.Round (impl_KidPut.fs n) (cx n impl_KidPut.d.nt) (bodyOf Try.f141) 4 impl_KidPut.p4 (fun κe => impl_KidPut.step4 n (impl_KidPut.o0.k (κe 0))) := fun κ κe x y => by kernel_rfl
theorem impl_KidPut.ok (n : Nat) : CxOk E (cx n impl_KidPut.d.nt) → KPar (cx n impl_KidPut.d.nt) → impl_KidPut.d.Ok E (impl_KidPut.F (n + 1)) :=
  FD.ok (fs := impl_KidPut.fs n) mixedOk Try.func141 (by kernel_rfl) (by kernel_rfl) (by kernel_rfl) (by kernel_rfl) (fun _ => by kernel_rfl) (by kernel_rfl) (fun x => by kernel_rfl) (.cons (FD.lp n (impl_KidPut.r4 n) (by kernel_rfl) fun _ _ => by kernel_rfl) (.nil))
noncomputable def impl_ViewChange.fs (n : Nat) : impl_ViewChange.d.Fs := ()
theorem impl_ViewChange.ok (n : Nat) : CxOk E (cx n impl_ViewChange.d.nt) → KPar (cx n impl_ViewChange.d.nt) → impl_ViewChange.d.Ok E (impl_ViewChange.F (n + 1)) :=
  FD.ok (fs := impl_ViewChange.fs n) mixedOk Try.func132 (by kernel_rfl) (by kernel_rfl) (by kernel_rfl) (by kernel_rfl) (fun _ => by kernel_rfl) (by kernel_rfl) (fun x => by kernel_rfl) (.nil)
noncomputable def impl_ViewChanges.fs (n : Nat) : impl_ViewChanges.d.Fs := (fun _ κe => impl_ViewChanges.loop4 n (impl_ViewChanges.o0.k (κe 0)) n, ())
theorem impl_ViewChanges.r4 (n : Nat) : impl_ViewChanges.d.Round (impl_ViewChanges.fs n) (cx n impl_ViewChanges.d.nt) (bodyOf Try.f70) 4 impl_ViewChanges.p4 (fun κe => impl_ViewChanges.step4 n (impl_ViewChanges.o0.k (κe 0))) := fun κ κe x y => by kernel_rfl
theorem impl_ViewChanges.ok (n : Nat) : CxOk E (cx n impl_ViewChanges.d.nt) → KPar (cx n impl_ViewChanges.d.nt) → impl_ViewChanges.d.Ok E (impl_ViewChanges.F (n + 1)) :=
  FD.ok (fs := impl_ViewChanges.fs n) mixedOk Try.func70 (by kernel_rfl) (by kernel_rfl) (by kernel_rfl) (by kernel_rfl) (fun _ => by kernel_rfl) (by kernel_rfl) (fun x => by kernel_rfl) (.cons (FD.lp n (impl_ViewChanges.r4 n) (by kernel_rfl) fun _ _ => by kernel_rfl) (.nil))
noncomputable def impl_SessGo.fs (n : Nat) : impl_SessGo.d.Fs := ()
theorem impl_SessGo.ok (n : Nat) : CxOk E (cx n impl_SessGo.d.nt) → KPar (cx n impl_SessGo.d.nt) → impl_SessGo.d.Ok E (impl_SessGo.F (n + 1)) :=
  FD.ok (fs := impl_SessGo.fs n) mixedOk Try.func24 (by kernel_rfl) (by kernel_rfl) (by kernel_rfl) (by kernel_rfl) (fun _ => by kernel_rfl) (by kernel_rfl) (fun x => by kernel_rfl) (.nil)
noncomputable def laws_eqCond.fs (n : Nat) : laws_eqCond.d.Fs := ()
theorem laws_eqCond.ok (n : Nat) : CxOk E (cx n laws_eqCond.d.nt) → KPar (cx n laws_eqCond.d.nt) → laws_eqCond.d.Ok E (laws_eqCond.F (n + 1)) :=
  FD.ok (fs := laws_eqCond.fs n) mixedOk Try.func142 (by kernel_rfl) (by kernel_rfl) (by kernel_rfl) (by kernel_rfl) (fun _ => by kernel_rfl) (by kernel_rfl) (fun x => by kernel_rfl) (.nil)
noncomputable def laws_eqCondS.fs (n : Nat) : laws_eqCondS.d.Fs := (fun _ κe => laws_eqCondS.loop6 n (laws_eqCondS.o0.k (κe 0)) n, ())
theorem laws_eqCondS.r6 (n : Nat) : laws_eqCondS.d.Round (laws_eqCondS.fs n) (cx n laws_eqCondS.d.nt) (bodyOf Try.f81) 6 laws_eqCondS.p6 (fun κe => laws_eqCondS.step6 n (laws_eqCondS.o0.k (κe 0))) := fun κ κe x y => by kernel_rfl
theorem laws_eqCondS.ok (n : Nat) : CxOk E (cx n laws_eqCondS.d.nt) → KPar (cx n laws_eqCondS.d.nt) → laws_eqCondS.d.Ok E (laws_eqCondS.F (n + 1)) :=
  FD.ok (fs := laws_eqCondS.fs n) mixedOk Try.func81 (by kernel_rfl) (by kernel_rfl) (by kernel_rfl) (by kernel_rfl) (fun _ => by kernel_rfl) (by kernel_rfl) (fun x => by kernel_rfl) (.cons (FD.lp n (laws_eqCondS.r6 n) (by kernel_rfl) fun _ _ => by kernel_rfl) (.nil))
noncomputable def laws_eqIntS.fs (n : Nat) : laws_eqIntS.d.Fs := (fun _ κe => laws_eqIntS.loop6 n (laws_eqIntS.o0.k (κe 0)) n, ())
theorem laws_eqIntS.r6 (n : Nat) : laws_eqIntS.d.Round (laws_eqIntS.fs n) (cx n laws_eqIntS.d.nt) (bodyOf Try.f52) 6 laws_eqIntS.p6 (fun κe => laws_eqIntS.step6 n (laws_eqIntS.o0.k (κe 0))) := fun κ κe x y => by kernel_rfl
theorem laws_eqIntS.ok (n : Nat) : CxOk E (cx n laws_eqIntS.d.nt) → KPar (cx n laws_eqIntS.d.nt) → laws_eqIntS.d.Ok E (laws_eqIntS.F (n + 1)) :=
  FD.ok (fs := laws_eqIntS.fs n) mixedOk Try.func52 (by kernel_rfl) (by kernel_rfl) (by kernel_rfl) (by kernel_rfl) (fun _ => by kernel_rfl) (by kernel_rfl) (fun x => by kernel_rfl) (.cons (FD.lp n (laws_eqIntS.r6 n) (by kernel_rfl) fun _ _ => by kernel_rfl) (.nil))
noncomputable def laws_eqQuery.fs (n : Nat) : laws_eqQuery.d.Fs := ()
theorem laws_eqQuery.ok (n : Nat) : CxOk E (cx n laws_eqQuery.d.nt) → KPar (cx n laws_eqQuery.d.nt) → laws_eqQuery.d.Ok E (laws_eqQuery.F (n + 1)) :=
  FD.ok (fs := laws_eqQuery.fs n) mixedOk Try.func36 (by kernel_rfl) (by kernel_rfl) (by kernel_rfl) (by kernel_rfl) (fun _ => by kernel_rfl) (by kernel_rfl) (fun x => by kernel_rfl) (.nil)
noncomputable def laws_eqRow.fs (n : Nat) : laws_eqRow.d.Fs := ()
theorem laws_eqRow.ok (n : Nat) : CxOk E (cx n laws_eqRow.d.nt) → KPar (cx n laws_eqRow.d.nt) → laws_eqRow.d.Ok E (laws_eqRow.F (n + 1)) :=
  FD.ok (fs := laws_eqRow.fs n) mixedOk Try.func133 (by kernel_rfl) (by kernel_rfl) (by kernel_rfl) (by kernel_rfl) (fun _ => by kernel_rfl) (by kernel_rfl) (fun x => by kernel_rfl) (.nil)
noncomputable def laws_eqRowS.fs (n : Nat) : laws_eqRowS.d.Fs := (fun _ κe => laws_eqRowS.loop6 n (laws_eqRowS.o0.k (κe 0)) n, ())
theorem laws_eqRowS.r6 (n : Nat) : laws_eqRowS.d.Round (laws_eqRowS.fs n) (cx n laws_eqRowS.d.nt) (bodyOf Try.f106) 6 laws_eqRowS.p6 (fun κe => laws_eqRowS.step6 n (laws_eqRowS.o0.k (κe 0))) := fun κ κe x y => by kernel_rfl
theorem laws_eqRowS.ok (n : Nat) : CxOk E (cx n laws_eqRowS.d.nt) → KPar (cx n laws_eqRowS.d.nt) → laws_eqRowS.d.Ok E (laws_eqRowS.F (n + 1)) :=
  FD.ok (fs := laws_eqRowS.fs n) mixedOk Try.func106 (by kernel_rfl) (by kernel_rfl) (by kernel_rfl) (by kernel_rfl) (fun _ => by kernel_rfl) (by kernel_rfl) (fun x => by kernel_rfl) (.cons (FD.lp n (laws_eqRowS.r6 n) (by kernel_rfl) fun _ _ => by kernel_rfl) (.nil))
noncomputable def laws_eqKid.fs (n : Nat) : laws_eqKid.d.Fs := ()
theorem laws_eqKid.ok (n : Nat) : CxOk E (cx n laws_eqKid.d.nt) → KPar (cx n laws_eqKid.d.nt) → laws_eqKid.d.Ok E (laws_eqKid.F (n + 1)) :=
  FD.ok (fs := laws_eqKid.fs n) mixedOk Try.func154 (by kernel_rfl) (by kernel_rfl) (by kernel_rfl) (by kernel_rfl) (fun _ => by kernel_rfl) (by kernel_rfl) (fun x => by kernel_rfl) (.nil)
noncomputable def laws_eqKidS.fs (n : Nat) : laws_eqKidS.d.Fs := (fun _ κe => laws_eqKidS.loop6 n (laws_eqKidS.o0.k (κe 0)) n, ())
theorem laws_eqKidS.r6 (n : Nat) : laws_eqKidS.d.Round (laws_eqKidS.fs n) (cx n laws_eqKidS.d.nt) (bodyOf Try.f107) 6 laws_eqKidS.p6 (fun κe => laws_eqKidS.step6 n (laws_eqKidS.o0.k (κe 0))) := fun κ κe x y => by kernel_rfl
theorem laws_eqKidS.ok (n : Nat) : CxOk E (cx n laws_eqKidS.d.nt) → KPar (cx n laws_eqKidS.d.nt) → laws_eqKidS.d.Ok E (laws_eqKidS.F (n + 1)) :=
  FD.ok (fs := laws_eqKidS.fs n) mixedOk Try.func107 (by kernel_rfl) (by kernel_rfl) (by kernel_rfl) (by kernel_rfl) (fun _ => by kernel_rfl) (by kernel_rfl) (fun x => by kernel_rfl) (.cons (FD.lp n (laws_eqKidS.r6 n) (by kernel_rfl) fun _ _ => by kernel_rfl) (.nil))
noncomputable def laws_eqView.fs (n : Nat) : laws_eqView.d.Fs := ()
theorem laws_eqView.ok (n : Nat) : CxOk E (cx n laws_eqView.d.nt) → KPar (cx n laws_eqView.d.nt) → laws_eqView.d.Ok E (laws_eqView.F (n + 1)) :=
  FD.ok (fs := laws_eqView.fs n) mixedOk Try.func53 (by kernel_rfl) (by kernel_rfl) (by kernel_rfl) (by kernel_rfl) (fun _ => by kernel_rfl) (by kernel_rfl) (fun x => by kernel_rfl) (.nil)
noncomputable def laws_eqSess.fs (n : Nat) : laws_eqSess.d.Fs := ()
theorem laws_eqSess.ok (n : Nat) : CxOk E (cx n laws_eqSess.d.nt) → KPar (cx n laws_eqSess.d.nt) → laws_eqSess.d.Ok E (laws_eqSess.F (n + 1)) :=
  FD.ok (fs := laws_eqSess.fs n) mixedOk Try.func14 (by kernel_rfl) (by kernel_rfl) (by kernel_rfl) (by kernel_rfl) (fun _ => by kernel_rfl) (by kernel_rfl) (fun x => by kernel_rfl) (.nil)
noncomputable def laws_eqChange.fs (n : Nat) : laws_eqChange.d.Fs := ()
theorem laws_eqChange.ok (n : Nat) : CxOk E (cx n laws_eqChange.d.nt) → KPar (cx n laws_eqChange.d.nt) → laws_eqChange.d.Ok E (laws_eqChange.F (n + 1)) :=
  FD.ok (fs := laws_eqChange.fs n) mixedOk Try.func71 (by kernel_rfl) (by kernel_rfl) (by kernel_rfl) (by kernel_rfl) (fun _ => by kernel_rfl) (by kernel_rfl) (fun x => by kernel_rfl) (.nil)
noncomputable def laws_eqChangeS.fs (n : Nat) : laws_eqChangeS.d.Fs := (fun _ κe => laws_eqChangeS.loop6 n (laws_eqChangeS.o0.k (κe 0)) n, ())
theorem laws_eqChangeS.r6 (n : Nat) : laws_eqChangeS.d.Round (laws_eqChangeS.fs n) (cx n laws_eqChangeS.d.nt) (bodyOf Try.f25) 6 laws_eqChangeS.p6 (fun κe => laws_eqChangeS.step6 n (laws_eqChangeS.o0.k (κe 0))) := fun κ κe x y => by kernel_rfl
theorem laws_eqChangeS.ok (n : Nat) : CxOk E (cx n laws_eqChangeS.d.nt) → KPar (cx n laws_eqChangeS.d.nt) → laws_eqChangeS.d.Ok E (laws_eqChangeS.F (n + 1)) :=
  FD.ok (fs := laws_eqChangeS.fs n) mixedOk Try.func25 (by kernel_rfl) (by kernel_rfl) (by kernel_rfl) (by kernel_rfl) (fun _ => by kernel_rfl) (by kernel_rfl) (fun x => by kernel_rfl) (.cons (FD.lp n (laws_eqChangeS.r6 n) (by kernel_rfl) fun _ _ => by kernel_rfl) (.nil))
noncomputable def laws_markCondS.fs (n : Nat) : laws_markCondS.d.Fs := (fun _ κe => laws_markCondS.loop3 n (laws_markCondS.o0.k (κe 0)) n, ())
theorem laws_markCondS.r3 (n : Nat) : laws_markCondS.d.Round (laws_markCondS.fs n) (cx n laws_markCondS.d.nt) (bodyOf Try.f83) 3 laws_markCondS.p3 (fun κe => laws_markCondS.step3 n (laws_markCondS.o0.k (κe 0))) := fun κ κe x y => by kernel_rfl
theorem laws_markCondS.ok (n : Nat) : CxOk E (cx n laws_markCondS.d.nt) → KPar (cx n laws_markCondS.d.nt) → laws_markCondS.d.Ok E (laws_markCondS.F (n + 1)) :=
  FD.ok (fs := laws_markCondS.fs n) mixedOk Try.func83 (by kernel_rfl) (by kernel_rfl) (by kernel_rfl) (by kernel_rfl) (fun _ => by kernel_rfl) (by kernel_rfl) (fun x => by kernel_rfl) (.cons (FD.lp n (laws_markCondS.r3 n) (by kernel_rfl) fun _ _ => by kernel_rfl) (.nil))
noncomputable def laws_markIntS.fs (n : Nat) : laws_markIntS.d.Fs := (fun _ κe => laws_markIntS.loop3 n (laws_markIntS.o0.k (κe 0)) n, ())
theorem laws_markIntS.r3 (n : Nat) : laws_markIntS.d.Round (laws_markIntS.fs n) (cx n laws_markIntS.d.nt) (bodyOf Try.f60) 3 laws_markIntS.p3 (fun κe => laws_markIntS.step3 n (laws_markIntS.o0.k (κe 0))) := fun κ κe x y => by kernel_rfl
theorem laws_markIntS.ok (n : Nat) : CxOk E (cx n laws_markIntS.d.nt) → KPar (cx n laws_markIntS.d.nt) → laws_markIntS.d.Ok E (laws_markIntS.F (n + 1)) :=
  FD.ok (fs := laws_markIntS.fs n) mixedOk Try.func60 (by kernel_rfl) (by kernel_rfl) (by kernel_rfl) (by kernel_rfl) (fun _ => by kernel_rfl) (by kernel_rfl) (fun x => by kernel_rfl) (.cons (FD.lp n (laws_markIntS.r3 n) (by kernel_rfl) fun _ _ => by kernel_rfl) (.nil))
noncomputable def laws_markQuery.fs (n : Nat) : laws_markQuery.d.Fs := ()
theorem laws_markQuery.ok (n : Nat) : CxOk E (cx n laws_markQuery.d.nt) → KPar (cx n laws_markQuery.d.nt) → laws_markQuery.d.Ok E (laws_markQuery.F (n + 1)) :=
  FD.ok (fs := laws_markQuery.fs n) mixedOk Try.func38 (by kernel_rfl) (by kernel_rfl) (by kernel_rfl) (by kernel_rfl) (fun _ => by kernel_rfl) (by kernel_rfl) (fun x => by kernel_rfl) (.nil)
noncomputable def laws_markRowS.fs (n : Nat) : laws_markRowS.d.Fs := (fun _ κe => laws_markRowS.loop3 n (laws_markRowS.o0.k (κe 0)) n, ())
theorem laws_markRowS.r3 (n : Nat) : laws_markRowS.d.Round (laws_markRowS.fs n) (cx n laws_markRowS.d.nt) (bodyOf Try.f118) 3 laws_markRowS.p3 (fun κe => laws_markRowS.step3 n (laws_markRowS.o0.k (κe 0))) := fun κ κe x y => by kernel_rfl
theorem laws_markRowS.ok (n : Nat) : CxOk E (cx n laws_markRowS.d.nt) → KPar (cx n laws_markRowS.d.nt) → laws_markRowS.d.Ok E (laws_markRowS.F (n + 1)) :=
  FD.ok (fs := laws_markRowS.fs n) mixedOk Try.func118 (by kernel_rfl) (by kernel_rfl) (by kernel_rfl) (by kernel_rfl) (fun _ => by kernel_rfl) (by kernel_rfl) (fun x => by kernel_rfl) (.cons (FD.lp n (laws_markRowS.r3 n) (by kernel_rfl) fun _ _ => by kernel_rfl) (.nil))
noncomputable def laws_markKidS.fs (n : Nat) : laws_markKidS.d.Fs := (fun _ κe => laws_markKidS.loop3 n (laws_markKidS.o0.k (κe 0)) n, ())
theorem laws_markKidS.r3 (n : Nat) : laws_markKidS.d.Round (laws_markKidS.fs n) (cx n laws_markKidS.d.nt) (bodyOf Try.f119) 3 laws_markKidS.p3 (fun κe => laws_markKidS.step3 n (laws_markKidS.o0.k (κe 0))) := fun κ κe x y => by kernel_rfl
theorem laws_markKidS.ok (n : Nat) : CxOk E (cx n laws_markKidS.d.nt) → KPar (cx n laws_markKidS.d.nt) → laws_markKidS.d.Ok E (laws_markKidS.F (n + 1)) :=
  FD.ok (fs := laws_markKidS.fs n) mixedOk Try.func119 (by kernel_rfl) (by kernel_rfl) (by kernel_rfl) (by kernel_rfl) (fun _ => by kernel_rfl) (by kernel_rfl) (fun x => by kernel_rfl) (.cons (FD.lp n (laws_markKidS.r3 n) (by kernel_rfl) fun _ _ => by kernel_rfl) (.nil))
noncomputable def laws_markView.fs (n : Nat) : laws_markView.d.Fs := ()
theorem laws_markView.ok (n : Nat) : CxOk E (cx n laws_markView.d.nt) → KPar (cx n laws_markView.d.nt) → laws_markView.d.Ok E (laws_markView.F (n + 1)) :=
  FD.ok (fs := laws_markView.fs n) mixedOk Try.func72 (by kernel_rfl) (by kernel_rfl) (by kernel_rfl) (by kernel_rfl) (fun _ => by kernel_rfl) (by kernel_rfl) (fun x => by kernel_rfl) (.nil)
noncomputable def laws_markSess.fs (n : Nat) : laws_markSess.d.Fs := ()
theorem laws_markSess.ok (n : Nat) : CxOk E (cx n laws_markSess.d.nt) → KPar (cx n laws_markSess.d.nt) → laws_markSess.d.Ok E (laws_markSess.F (n + 1)) :=
  FD.ok (fs := laws_markSess.fs n) mixedOk Try.func26 (by kernel_rfl) (by kernel_rfl) (by kernel_rfl) (by kernel_rfl) (fun _ => by kernel_rfl) (by kernel_rfl) (fun x => by kernel_rfl) (.nil)
noncomputable def laws_markChangeS.fs (n : Nat) : laws_markChangeS.d.Fs := (fun _ κe => laws_markChangeS.loop3 n (laws_markChangeS.o0.k (κe 0)) n, ())
theorem laws_markChangeS.r3 (n : Nat) : laws_markChangeS.d.Round (laws_markChangeS.fs n) (cx n laws_markChangeS.d.nt) (bodyOf Try.f27) 3 laws_markChangeS.p3 (fun κe => laws_markChangeS.step3 n (laws_markChangeS.o0.k (κe 0))) := fun κ κe x y => by kernel_rfl
theorem laws_markChangeS.ok (n : Nat) : CxOk E (cx n laws_markChangeS.d.nt) → KPar (cx n laws_markChangeS.d.nt) → laws_markChangeS.d.Ok E (laws_markChangeS.F (n + 1)) :=
  FD.ok (fs := laws_markChangeS.fs n) mixedOk Try.func27 (by kernel_rfl) (by kernel_rfl) (by kernel_rfl) (by kernel_rfl) (fun _ => by kernel_rfl) (by kernel_rfl) (fun x => by kernel_rfl) (.cons (FD.lp n (laws_markChangeS.r3 n) (by kernel_rfl) fun _ _ => by kernel_rfl) (.nil))
noncomputable def laws_heldCondS.fs (n : Nat) : laws_heldCondS.d.Fs := (fun _ κe => laws_heldCondS.loop3 n (laws_heldCondS.o0.k (κe 0)) n, ())
theorem laws_heldCondS.r3 (n : Nat) : laws_heldCondS.d.Round (laws_heldCondS.fs n) (cx n laws_heldCondS.d.nt) (bodyOf Try.f123) 3 laws_heldCondS.p3 (fun κe => laws_heldCondS.step3 n (laws_heldCondS.o0.k (κe 0))) := fun κ κe x y => by kernel_rfl
theorem laws_heldCondS.ok (n : Nat) : CxOk E (cx n laws_heldCondS.d.nt) → KPar (cx n laws_heldCondS.d.nt) → laws_heldCondS.d.Ok E (laws_heldCondS.F (n + 1)) :=
  FD.ok (fs := laws_heldCondS.fs n) mixedOk Try.func123 (by kernel_rfl) (by kernel_rfl) (by kernel_rfl) (by kernel_rfl) (fun _ => by kernel_rfl) (by kernel_rfl) (fun x => by kernel_rfl) (.cons (FD.lp n (laws_heldCondS.r3 n) (by kernel_rfl) fun _ _ => by kernel_rfl) (.nil))
noncomputable def laws_heldIntS.fs (n : Nat) : laws_heldIntS.d.Fs := (fun _ κe => laws_heldIntS.loop3 n (laws_heldIntS.o0.k (κe 0)) n, ())
theorem laws_heldIntS.r3 (n : Nat) : laws_heldIntS.d.Round (laws_heldIntS.fs n) (cx n laws_heldIntS.d.nt) (bodyOf Try.f124) 3 laws_heldIntS.p3 (fun κe => laws_heldIntS.step3 n (laws_heldIntS.o0.k (κe 0))) := fun κ κe x y => by kernel_rfl
theorem laws_heldIntS.ok (n : Nat) : CxOk E (cx n laws_heldIntS.d.nt) → KPar (cx n laws_heldIntS.d.nt) → laws_heldIntS.d.Ok E (laws_heldIntS.F (n + 1)) :=
  FD.ok (fs := laws_heldIntS.fs n) mixedOk Try.func124 (by kernel_rfl) (by kernel_rfl) (by kernel_rfl) (by kernel_rfl) (fun _ => by kernel_rfl) (by kernel_rfl) (fun x => by kernel_rfl) (.cons (FD.lp n (laws_heldIntS.r3 n) (by kernel_rfl) fun _ _ => by kernel_rfl) (.nil))
noncomputable def laws_heldQuery.fs (n : Nat) : laws_heldQuery.d.Fs := ()
theorem laws_heldQuery.ok (n : Nat) : CxOk E (cx n laws_heldQuery.d.nt) → KPar (cx n laws_heldQuery.d.nt) → laws_heldQuery.d.Ok E (laws_heldQuery.F (n + 1)) :=
  FD.ok (fs := laws_heldQuery.fs n) mixedOk Try.func134 (by kernel_rfl) (by kernel_rfl) (by kernel_rfl) (by kernel_rfl) (fun _ => by kernel_rfl) (by kernel_rfl) (fun x => by kernel_rfl) (.nil)
noncomputable def laws_heldRowS.fs (n : Nat) : laws_heldRowS.d.Fs := (fun _ κe => laws_heldRowS.loop3 n (laws_heldRowS.o0.k (κe 0)) n, ())
theorem laws_heldRowS.r3 (n : Nat) : laws_heldRowS.d.Round (laws_heldRowS.fs n) (cx n laws_heldRowS.d.nt) (bodyOf Try.f125) 3 laws_heldRowS.p3 (fun κe => laws_heldRowS.step3 n (laws_heldRowS.o0.k (κe 0))) := fun κ κe x y => by kernel_rfl
theorem laws_heldRowS.ok (n : Nat) : CxOk E (cx n laws_heldRowS.d.nt) → KPar (cx n laws_heldRowS.d.nt) → laws_heldRowS.d.Ok E (laws_heldRowS.F (n + 1)) :=
  FD.ok (fs := laws_heldRowS.fs n) mixedOk Try.func125 (by kernel_rfl) (by kernel_rfl) (by kernel_rfl) (by kernel_rfl) (fun _ => by kernel_rfl) (by kernel_rfl) (fun x => by kernel_rfl) (.cons (FD.lp n (laws_heldRowS.r3 n) (by kernel_rfl) fun _ _ => by kernel_rfl) (.nil))
noncomputable def laws_heldKidS.fs (n : Nat) : laws_heldKidS.d.Fs := (fun _ κe => laws_heldKidS.loop3 n (laws_heldKidS.o0.k (κe 0)) n, ())
theorem laws_heldKidS.r3 (n : Nat) : laws_heldKidS.d.Round (laws_heldKidS.fs n) (cx n laws_heldKidS.d.nt) (bodyOf Try.f126) 3 laws_heldKidS.p3 (fun κe => laws_heldKidS.step3 n (laws_heldKidS.o0.k (κe 0))) := fun κ κe x y => by kernel_rfl
theorem laws_heldKidS.ok (n : Nat) : CxOk E (cx n laws_heldKidS.d.nt) → KPar (cx n laws_heldKidS.d.nt) → laws_heldKidS.d.Ok E (laws_heldKidS.F (n + 1)) :=
  FD.ok (fs := laws_heldKidS.fs n) mixedOk Try.func126 (by kernel_rfl) (by kernel_rfl) (by kernel_rfl) (by kernel_rfl) (fun _ => by kernel_rfl) (by kernel_rfl) (fun x => by kernel_rfl) (.cons (FD.lp n (laws_heldKidS.r3 n) (by kernel_rfl) fun _ _ => by kernel_rfl) (.nil))
noncomputable def laws_heldView.fs (n : Nat) : laws_heldView.d.Fs := ()
theorem laws_heldView.ok (n : Nat) : CxOk E (cx n laws_heldView.d.nt) → KPar (cx n laws_heldView.d.nt) → laws_heldView.d.Ok E (laws_heldView.F (n + 1)) :=
  FD.ok (fs := laws_heldView.fs n) mixedOk Try.func73 (by kernel_rfl) (by kernel_rfl) (by kernel_rfl) (by kernel_rfl) (fun _ => by kernel_rfl) (by kernel_rfl) (fun x => by kernel_rfl) (.nil)
noncomputable def laws_heldSess.fs (n : Nat) : laws_heldSess.d.Fs := ()
theorem laws_heldSess.ok (n : Nat) : CxOk E (cx n laws_heldSess.d.nt) → KPar (cx n laws_heldSess.d.nt) → laws_heldSess.d.Ok E (laws_heldSess.F (n + 1)) :=
  FD.ok (fs := laws_heldSess.fs n) mixedOk Try.func28 (by kernel_rfl) (by kernel_rfl) (by kernel_rfl) (by kernel_rfl) (fun _ => by kernel_rfl) (by kernel_rfl) (fun x => by kernel_rfl) (.nil)
noncomputable def laws_FnExactSessGo.fs (n : Nat) : laws_FnExactSessGo.d.Fs := ()
theorem laws_FnExactSessGo.ok (n : Nat) : CxOk E (cx n laws_FnExactSessGo.d.nt) → KPar (cx n laws_FnExactSessGo.d.nt) → laws_FnExactSessGo.d.Ok E (laws_FnExactSessGo.F (n + 1)) :=
  FD.ok (fs := laws_FnExactSessGo.fs n) mixedOk Try.func5 (by kernel_rfl) (by kernel_rfl) (by kernel_rfl) (by kernel_rfl) (fun _ => by kernel_rfl) (by kernel_rfl) (fun x => by kernel_rfl) (.nil)
end Go.Pi
end
section
set_option linter.unusedVariables false
namespace Go.Pi
/-- what an insertion makes of two rows -/
def InsM (P : Program) (f : FuncId) (e : TypeId) (K B : Nat) : Prop :=
  ∀ (w : World) (S : Value) (n : Nat) (vals : List Value) (U : Value) (m : Nat) (us : List Value) (i : Nat), w.ownsRow 0 e K S n vals → w.ownsRow 0 e K U m us → (∀ b, own1 S b ≠ 0 → own1 U b = 0) → i ≤ n →
    (∀ v ∈ vals, v.oneCell' = true) → (∀ v ∈ us, v.oneCell' = true) → (n + m) * B ≤ 140737488355328 →
    Calls P f (List.toArray [S, .int .i64 i, U]) w fun e' w' => ∃ R, e' = .returned R ∧ w'.ownsRow 0 e K R (n + m) (vals.take (i * K) ++ us ++ vals.drop (i * K)) ∧ GrewC w w' (fun b => own1 S b ≠ 0) ∧
      ∀ b, own1 R b ≠ 0 → (w.heap.size ≤ b ∨ own1 S b ≠ 0) ∧ b < w'.heap.size
/-- what a deletion makes of a row -/
def DelM (P : Program) (f : FuncId) (e : TypeId) (K : Nat) : Prop :=
  ∀ (w : World) (S : Value) (n : Nat) (vals : List Value) (i j : Nat), w.ownsRow 0 e K S n vals → i ≤ j → j ≤ n → (∀ v ∈ vals, v.oneCell' = true) →
    Calls P f (List.toArray [S, .int .i64 i, .int .i64 j]) w fun e' w' => ∃ R, e' = .returned R ∧ w'.ownsRow 0 e K R (n - (j - i)) (vals.take (i * K) ++ vals.drop (j * K)) ∧ GrewC w w' (fun b => own1 S b ≠ 0) ∧
      ∀ b, own1 R b ≠ 0 → (w.heap.size ≤ b ∨ own1 S b ≠ 0) ∧ b < w'.heap.size
def M.both : M → M → M
  | .d, .d => .d
  | _, _ => .s
variable [Coding]
open Coding
variable {E : Env} {w w' : World} {F F' : Nat → Prop}
theorem RL.own_inv {m t xs v l vs φ} (hm : m ≠ .v) (h : RL E w F (.sl m t xs :: l) (v :: vs) φ) : ∃ vals φ₁ φ₂, w.ownsRow 0 (E.eid t) t.width v xs.length vals ∧ RL E w F (encRows m.sub t xs) vals φ₁ ∧ (∀ b, own1 v b ≠ 0 → F b) ∧ RL E w F l vs φ₂ ∧ ∀ b, φ b = own1 v b + φ₁ b + φ₂ b := by
  cases h with
  | scal _ _ _ _ _ h => exact h.elim
  | view => exact absurd rfl hm
  | own m t xs v vals φ₁ l vs φ₂ φ h1 h2 h3 h4 h5 h6 => exact ⟨vals, φ₁, φ₂, h2, h3, h4, h5, h6⟩
theorem RL.len_inv {a l Vs φ} (h : RL E w F (a :: l) Vs φ) : ∃ v vs, Vs = v :: vs := by
  obtain ⟨v, vs, _, _, h, _⟩ := RL.uncons h
  exact ⟨v, vs, h⟩
/-- a row that came out of one that was handed over, and what lies in it -/
theorem row_back [CodingOk] {φ : Nat → Nat} (h1 : ∀ b, φ b ≤ 1) (low : ∀ b, φ b ≠ 0 → F b ∧ b < w.heap.size) {S : Value} (hSF : ∀ b, own1 S b ≠ 0 → F b) {t : TC} {zs : List (El t)} {vals : List Value} {ψ : Nat → Nat}
    (hz : RL E w F (encRows .d t zs) vals ψ) (eφ : ∀ b, own1 S b + ψ b ≤ φ b) {R : Value} (hR : w'.ownsRow 0 (E.eid t) t.width R zs.length vals) (hg : GrewC w w' (fun b => own1 S b ≠ 0))
    (hRb : ∀ b, own1 R b ≠ 0 → (w.heap.size ≤ b ∨ own1 S b ≠ 0) ∧ b < w'.heap.size) :
    ∃ φ', RL E w' (fun b => (F b ∧ φ b = 0) ∨ φ' b ≠ 0) [.sl .d t zs] [R] φ' ∧ (∀ b, φ' b ≤ 1) ∧ (∀ b, φ' b ≠ 0 → φ b ≠ 0 ∨ w.heap.size ≤ b) ∧
      w'.os = w.os ∧ w'.tape = w.tape ∧ w'.output = w.output ∧ w.heap.size ≤ w'.heap.size ∧ ∀ b, b < w.heap.size → φ b = 0 → w'.heap[b]? = w.heap[b]? := by
  have key : ∀ b, own1 R b ≠ 0 → own1 S b ≠ 0 ∨ w.heap.size ≤ b := fun b hb => (hRb b hb).1.symm
  have elt : ∀ b, ψ b ≠ 0 → own1 R b = 0 ∧ own1 S b = 0 := fun b hb => by
    have q1 := eφ b; have q2 := h1 b
    have s0 : own1 S b = 0 := by omega
    refine ⟨Classical.byContradiction fun hr => ?_, s0⟩
    rcases key b hr with hs | hs
    · exact hs s0
    · have := (low b (by omega)).2; omega
  refine ⟨fun b => own1 R b + ψ b, ?_, fun b => ?_, fun b hb => ?_, hg.os, hg.tape, hg.output, hg.size, fun b hb h0 => hg.heap b hb fun hc => hc (by have := eφ b; omega)⟩
  · refine .own .d t zs R vals ψ [] _ (fun _ => 0) _ (by decide) hR ?_ (fun b hb => .inr (by show own1 R b + _ ≠ 0; omega)) (.nil _ fun _ => rfl) (fun b => rfl)
    refine hz.frame hg.size (fun b hb => ⟨hg.heap b (hz.low b hb).2 fun hc => hc (elt b hb).2, .inr (by show own1 R b + ψ b ≠ 0; omega)⟩) fun b hb hn => ⟨hg.heap b hb fun hc => hn (hSF b hc), fun hc => ?_⟩
    rcases hc with ⟨hf, -⟩ | hc
    · exact hn hf
    · have hc : own1 R b + ψ b ≠ 0 := hc
      by_cases hr0 : own1 R b = 0
      · exact hn (hz.low b (by omega)).1
      · rcases key b hr0 with hs | hs
        · exact hn (hSF b hs)
        · omega
  · show own1 R b + ψ b ≤ 1
    have q1 := eφ b; have q2 := h1 b; have := own1_le R b
    by_cases h0 : ψ b = 0
    · omega
    · have := elt b h0; omega
  · have hb : own1 R b + ψ b ≠ 0 := hb
    by_cases h0 : ψ b = 0
    · rcases key b (by omega) with hs | hs
      · exact .inl (by have := eφ b; omega)
      · exact .inr hs
    · exact .inl (by have := eφ b; omega)
/-- the same of a row whose elements are seen from then on -/
theorem row_back_s [CodingOk] {φ : Nat → Nat} (h1 : ∀ b, φ b ≤ 1) (low : ∀ b, φ b ≠ 0 → F b ∧ b < w.heap.size) {S : Value} (hSF : ∀ b, own1 S b ≠ 0 → F b) {t : TC} {zs : List (El t)} {L : List AV} {vals : List Value} {ψ : Nat → Nat}
    (hz : RL E w F L vals ψ) (hL : L.map AV.asView = encRows .v t zs) (eφ : ∀ b, own1 S b + ψ b ≤ φ b) {R : Value} (hR : w'.ownsRow 0 (E.eid t) t.width R zs.length vals) (hg : GrewC w w' (fun b => own1 S b ≠ 0))
    (hRb : ∀ b, own1 R b ≠ 0 → (w.heap.size ≤ b ∨ own1 S b ≠ 0) ∧ b < w'.heap.size) :
    ∃ φ', RL E w' (fun b => (F b ∧ φ b = 0) ∨ φ' b ≠ 0) [.sl .s t zs] [R] φ' ∧ (∀ b, φ' b ≤ 1) ∧ (∀ b, φ' b ≠ 0 → φ b ≠ 0 ∨ w.heap.size ≤ b) ∧
      w'.os = w.os ∧ w'.tape = w.tape ∧ w'.output = w.output ∧ w.heap.size ≤ w'.heap.size ∧ ∀ b, b < w.heap.size → φ b = 0 → w'.heap[b]? = w.heap[b]? := by
  have key : ∀ b, own1 R b ≠ 0 → own1 S b ≠ 0 ∨ w.heap.size ≤ b := fun b hb => (hRb b hb).1.symm
  have hv := hz.seen (F' := fun b => F b ∧ ψ b = 0) (fun b hb hc => hb hc.2) (fun b _ hn hc => hn hc.1)
  rw [hL] at hv
  refine ⟨own1 R, ?_, own1_le R, fun b hb => ?_, hg.os, hg.tape, hg.output, hg.size, fun b hb h0 => hg.heap b hb fun hc => hc (by have := eφ b; omega)⟩
  · refine .own .s t zs R vals (fun _ => 0) [] _ (fun _ => 0) _ (by decide) hR ?_ (fun b hb => .inr hb) (.nil _ fun _ => rfl) (fun b => rfl)
    refine hv.frame hg.size (fun b hb => absurd rfl hb) fun b hb hn => ⟨hg.heap b hb fun hc => hn ⟨hSF b hc, by have := eφ b; have := h1 b; omega⟩, fun hc => ?_⟩
    rcases hc with ⟨hf, h0⟩ | hc
    · exact hn ⟨hf, by have := eφ b; omega⟩
    · rcases key b hc with hs | hs
      · exact hn ⟨hSF b hs, by have := eφ b; have := h1 b; omega⟩
      · omega
  · rcases key b hb with hs | hs
    · exact .inl (by have := eφ b; omega)
    · exact .inr hs
theorem asView_rows [CodingOk] (m : M) (t : TC) (xs : List (El t)) : (encRows m t xs).map AV.asView = encRows .v t xs := by
  simp only [encRows, List.map_flatMap]
  congr 1
  funext x
  exact CodingOk.view m t x
theorem RL.int_inv {k n l v vs φ} (h : RL E w F (.i k n :: l) (v :: vs) φ) : v = .int k n ∧ RL E w F l vs φ := by
  cases h with
  | scal _ _ _ _ _ h1 h2 => exact ⟨h1, h2⟩
theorem codedD [CodingOk] {m : M} {t : TC} (zs : List (El t)) : ∀ a ∈ encRows m t zs, ∃ m, a.coded m := fun a ha => ⟨m, rows_coded a ha⟩
theorem ins_callOk [CodingOk] {f : FuncId} {t : TC} {m1 m2 : M} (hm1 : m1 ≠ .v) (hm2 : m2 ≠ .v) (h : InsM E.P f (E.eid t) t.width t.bytes) {xs ys : List (El t)} {i : Nat} (hi : i ≤ xs.length) (hb : (xs.length + ys.length) * t.bytes ≤ 140737488355328) :
    CallOk E f [.sl m1 t xs, .i .i64 i, .sl m2 t ys] (.sl (M.both m1 m2) t (xs.take i ++ ys ++ xs.drop i)) [] [.o, .v, .o] := by
  intro w F Vs φ hrl h1 hlow
  have low : ∀ b, φ b ≠ 0 → F b ∧ b < w.heap.size := hrl.low
  obtain ⟨S, _, rfl⟩ := hrl.len_inv
  replace hrl := hrl.own_inv hm1
  obtain ⟨vals, φx, φ2, hS, hx, hSF, hrl, e1⟩ := hrl
  obtain ⟨I, _, rfl⟩ := hrl.len_inv
  replace hrl := hrl.int_inv
  obtain ⟨rfl, hrl⟩ := hrl
  obtain ⟨U, _, rfl⟩ := hrl.len_inv
  replace hrl := hrl.own_inv hm2
  obtain ⟨us, φy, φ4, hU, hy, hUF, hrl, e3⟩ := hrl
  obtain ⟨rfl, e4⟩ := RL.nil_inv hrl
  have eφ : ∀ b, φ b = own1 S b + φx b + (own1 U b + φy b) := fun b => by rw [e1, e3, e4]; omega
  refine (h w S xs.length vals U ys.length us i hS hU (fun b hb => by have := h1 b; have := eφ b; omega) hi (hx.one (codedD _)) (hy.one (codedD _)) hb).mono ?_
  rintro e' w' ⟨R, rfl, hR, hg, hRb⟩
  have hx' : RL E w F (encRows m1.sub t (xs.take i) ++ encRows m1.sub t (xs.drop i)) vals φx := by rw [← encRows_append, List.take_append_drop]; exact hx
  obtain ⟨va, vb, φa, φb, rfl, ha, hb', e6⟩ := hx'.split
  have hla : va.length = i * t.width := by rw [← ha.length, encRows_length, List.length_take, Nat.min_eq_left hi]
  rw [← hla, List.take_left, List.drop_left] at hR
  have hz : RL E w F (encRows m1.sub t (xs.take i) ++ encRows m2.sub t ys ++ encRows m1.sub t (xs.drop i)) (va ++ us ++ vb) (fun b => φa b + φy b + φb b) :=
    (ha.append hy (ψ := fun b => φa b + φy b) (fun b => rfl)).append hb' (fun b => rfl)
  have hl : (xs.take i ++ ys ++ xs.drop i).length = xs.length + ys.length := by simp; omega
  have he : ∀ b, own1 S b + (φa b + φy b + φb b) ≤ φ b := fun b => by have := eφ b; have := e6 b; omega
  by_cases hd : m1 = .d ∧ m2 = .d
  · obtain ⟨rfl, rfl⟩ := hd
    have hz' : RL E w F (encRows .d t (xs.take i ++ ys ++ xs.drop i)) (va ++ us ++ vb) (fun b => φa b + φy b + φb b) := by
      rw [encRows_append, encRows_append]; exact hz
    obtain ⟨φ', k1, k2⟩ := row_back (S := S) (R := R) h1 low hSF hz' he (by rw [hl]; exact hR) hg hRb
    exact ⟨R, φ', rfl, k1, k2⟩
  · have hb2 : M.both m1 m2 = .s := by cases m1 <;> cases m2 <;> first | rfl | exact absurd rfl hm1 | exact absurd rfl hm2 | exact absurd ⟨rfl, rfl⟩ hd
    rw [hb2]
    obtain ⟨φ', k1, k2⟩ := row_back_s (S := S) (R := R) (t := t) (zs := xs.take i ++ ys ++ xs.drop i) h1 low hSF hz (by rw [List.map_append, List.map_append, asView_rows, asView_rows, asView_rows, encRows_append, encRows_append]) he (by rw [hl]; exact hR) hg hRb
    exact ⟨R, φ', rfl, k1, k2⟩
theorem del_callOk [CodingOk] {f : FuncId} {t : TC} {m : M} (hm0 : m ≠ .v) (h : DelM E.P f (E.eid t) t.width) {xs : List (El t)} {i j : Nat} (hij : i ≤ j) (hj : j ≤ xs.length) :
    CallOk E f [.sl m t xs, .i .i64 i, .i .i64 j] (.sl (M.both m m) t (xs.take i ++ xs.drop j)) [] [.o, .v, .v] := by
  intro w F Vs φ hrl h1 hlow
  have low : ∀ b, φ b ≠ 0 → F b ∧ b < w.heap.size := hrl.low
  obtain ⟨S, _, rfl⟩ := hrl.len_inv
  replace hrl := hrl.own_inv hm0
  obtain ⟨vals, φx, φ2, hS, hx, hSF, hrl, e1⟩ := hrl
  obtain ⟨I, _, rfl⟩ := hrl.len_inv
  replace hrl := hrl.int_inv
  obtain ⟨rfl, hrl⟩ := hrl
  obtain ⟨J, _, rfl⟩ := hrl.len_inv
  replace hrl := hrl.int_inv
  obtain ⟨rfl, hrl⟩ := hrl
  obtain ⟨rfl, e4⟩ := RL.nil_inv hrl
  have eφ : ∀ b, φ b = own1 S b + φx b := fun b => by rw [e1, e4]; omega
  refine (h w S xs.length vals i j hS hij hj (hx.one (codedD _))).mono ?_
  rintro e' w' ⟨R, rfl, hR, hg, hRb⟩
  have hx' : RL E w F (encRows m.sub t (xs.take i) ++ (encRows m.sub t ((xs.drop i).take (j - i)) ++ encRows m.sub t (xs.drop j))) vals φx := by
    rw [← encRows_append, ← encRows_append]
    have : xs.drop j = (xs.drop i).drop (j - i) := by rw [List.drop_drop]; congr 1; omega
    rw [this, List.take_append_drop, List.take_append_drop]; exact hx
  obtain ⟨va, vc, φa, φc, rfl, ha, hc, e6⟩ := hx'.split
  obtain ⟨vm, vb, φm, φb, rfl, hm, hb', e7⟩ := hc.split
  have hla : va.length = i * t.width := by rw [← ha.length, encRows_length, List.length_take, Nat.min_eq_left (by omega)]
  have hlm : vm.length = (j - i) * t.width := by rw [← hm.length, encRows_length, List.length_take, List.length_drop, Nat.min_eq_left (by omega)]
  have hlj : (va ++ vm).length = j * t.width := by rw [List.length_append, hla, hlm, ← Nat.add_mul]; congr 1; omega
  rw [← hla, List.take_left, ← hlj, ← List.append_assoc, List.drop_left] at hR
  have hz : RL E w F (encRows m.sub t (xs.take i) ++ encRows m.sub t (xs.drop j)) (va ++ vb) (fun b => φa b + φb b) := ha.append hb' (fun b => rfl)
  have hl : (xs.take i ++ xs.drop j).length = xs.length - (j - i) := by simp; omega
  have he : ∀ b, own1 S b + (φa b + φb b) ≤ φ b := fun b => by have := eφ b; have := e6 b; have := e7 b; omega
  cases m with
  | v => exact absurd rfl hm0
  | d =>
    have hz' : RL E w F (encRows .d t (xs.take i ++ xs.drop j)) (va ++ vb) (fun b => φa b + φb b) := by
      rw [encRows_append]; exact hz
    obtain ⟨φ', k1, k2⟩ := row_back (S := S) (R := R) h1 low hSF hz' he (by rw [hl]; exact hR) hg hRb
    exact ⟨R, φ', rfl, k1, k2⟩
  | s =>
    obtain ⟨φ', k1, k2⟩ := row_back_s (S := S) (R := R) (t := t) (zs := xs.take i ++ xs.drop j) h1 low hSF hz (by rw [List.map_append, asView_rows, asView_rows, encRows_append]) he (by rw [hl]; exact hR) hg hRb
    exact ⟨R, φ', rfl, k1, k2⟩
theorem nDel_ok [CodingOk] {f : FuncId} {t : TC} {m : M} (hm0 : m ≠ .v) (h : DelM E.P f (E.eid t) t.width) {xs r : List (El t)} {i j : Int} (hr : nDelete xs i j = some r) :
    CallOk E f [.sl m t xs, .i .i64 i, .i .i64 j] (.sl (M.both m m) t r) [] [.o, .v, .v] := by
  unfold nDelete at hr
  by_cases hc : 0 ≤ i ∧ i ≤ j ∧ j ≤ (xs.length : Int)
  · obtain ⟨h1, h2, h3⟩ := hc
    obtain ⟨i, rfl⟩ := Int.eq_ofNat_of_zero_le h1
    obtain ⟨j, rfl⟩ := Int.eq_ofNat_of_zero_le (Int.le_trans h1 h2)
    simp only [h1, h2, h3, decide_true, Bool.and_true, cond_true, Option.some.injEq] at hr
    subst hr
    exact del_callOk hm0 h (by omega) (by omega)
  · have : (decide (0 ≤ i) && (decide (i ≤ j) && decide (j ≤ (xs.length : Int)))) = false := by
      rw [Bool.eq_false_iff]; intro h; simp only [Bool.and_eq_true, decide_eq_true_eq] at h; exact hc h
    rw [this] at hr; cases hr
theorem nIns_ok [CodingOk] {f : FuncId} {t : TC} {m1 m2 : M} (hm1 : m1 ≠ .v) (hm2 : m2 ≠ .v) (h : InsM E.P f (E.eid t) t.width t.bytes) {xs ys r : List (El t)} {i : Int} (hr : nInsert t.bytes xs i ys = some r) :
    CallOk E f [.sl m1 t xs, .i .i64 i, .sl m2 t ys] (.sl (M.both m1 m2) t r) [] [.o, .v, .o] := by
  unfold nInsert at hr
  by_cases hc : 0 ≤ i ∧ i ≤ (xs.length : Int)
  · obtain ⟨h1, h2⟩ := hc
    obtain ⟨i, rfl⟩ := Int.eq_ofNat_of_zero_le h1
    by_cases hb : (xs.length + ys.length) * t.bytes ≤ 140737488355328
    · simp only [h1, h2, hb, decide_true, Bool.and_true, cond_true, Option.some.injEq] at hr
      subst hr
      exact ins_callOk hm1 hm2 h (by omega) hb
    · simp [h1, h2, hb] at hr
  · have : (decide (0 ≤ i) && decide (i ≤ (xs.length : Int))) = false := by
      rw [Bool.eq_false_iff]; intro h; simp only [Bool.and_eq_true, decide_eq_true_eq] at h; exact hc h
    rw [this] at hr; cases hr
end Go.Pi
end
section
set_option linter.unusedVariables false
set_option linter.unusedSimpArgs false
namespace Go.Proofs
open Go.Shelf Go.RowKit Go.Lib Go.Pi
section
variable {P : Program}
theorem step_append_runI {ops : Array Oper} {o : Oper} {a : Act} {w : World} {K : Act → World → Prop} {Q : Exit → Act → World → Prop} {E : Prop}
    (hg : o.guard = none) (d x : Operand) (dT sT : TypeId) (hop : o.op = Op.call { callee := Callee.builtin Builtin.append, args := #[d, x], argTypes := #[dT, sT] })
    (v u : Value) (hd : a.eval d = v) (hx : a.eval x = u) {v' : Value} {w' : World} (hr : (Builtin.append_ #[dT, sT] o.type #[v, u]).run P w = .ok v' w') (hK : K (a.put o.dst v') w') :
    if Region.wanted o (yielded ops a.tmps) = true then Oper.wp P o a w K Q else E := by
  have hw : Region.wanted o (yielded ops a.tmps) = true := by simp [Region.wanted, hg]
  rw [if_pos hw]
  unfold Oper.wp
  simp [execOp, hop, resolve, invoke, builtin, hd, hx, hr, Result.andThen]
  exact hK
theorem wpList_clear_runI (w : World) {ops : Array Oper} {rest : List Oper} {o : Oper} {a : Act} {Q : Exit → Act → World → Prop} (hgd : o.guard = none) (d : Operand) (t : TypeId)
    (ho : o.op = .call { callee := .builtin .clear, args := #[d], argTypes := #[t] }) (v : Value) (hd : a.eval d = v) {v' : Value} {w' : World}
    (hr : (Builtin.clear_ #[t] o.type #[v]).run P w = .ok v' w') (h : wpList P ops Q rest (a.put o.dst v') w') : wpList P ops Q (o :: rest) a w :=
  wpList_plain hgd fun _ hK => by
    unfold Oper.wp execOp
    simp only [ho, resolve, invoke, builtin, Sem.run_bind, Sem.run_pure, Result.andThen_ok, List.map_toArray, List.map_cons, List.map_nil, hd, hr]
    exact hK _ _ h
theorem run_clear_k (w : World) (t e ty : TypeId) (z : Value) (ht : P.underlying t = some (.slice e)) (hv : ∀ w, (zeroValue e).run P w = .ok z w) (g o n c : Nat) (hn : 0 < n) (cur : Array Value) (T : TypeId) (hg : w.heap[g]? = some (.cells cur T (0, 0)))
    (hfit : o + (Builtin.zeroCells z.cells n).toList.length ≤ cur.size) (h1 : ∀ v ∈ (Builtin.zeroCells z.cells n).toList, v.oneCell' = true) :
    (Builtin.clear_ #[t] ty #[.slice (some ⟨g, o, none⟩) n c]).run P w = .ok (.tuple #[]) (w.setRow g (cur.toList.take o ++ (Builtin.zeroCells z.cells n).toList ++ cur.toList.drop (o + (Builtin.zeroCells z.cells n).toList.length)).toArray) := by
  have hst := run_storeCells_at P g o T (Builtin.zeroCells z.cells n).toList 0 cur w hg (by simpa using hfit) h1
  obtain ⟨m, rfl⟩ : ∃ m, n = m + 1 := ⟨n - 1, by omega⟩
  simp only [Builtin.clear_, run_underlying ht, Sem.run_bind, Result.andThen_ok, hv]
  simp only [List.getElem?_toArray, List.getElem?_cons_zero, Sem.run_bind, run_underlying ht, Result.andThen_ok, hv, hst, Nat.add_zero, Sem.run_pure]
end
theorem wpList_copy_runI (w : World) {P : Program} {ops : Array Oper} {rest : List Oper} {o : Oper} {a : Act} {Q : Exit → Act → World → Prop} (hgd : o.guard = none) (d s : Operand) (t t' : TypeId)
    (ho : o.op = .call { callee := .builtin .copy, args := #[d, s], argTypes := #[t, t'] }) (v u : Value) (hd : a.eval d = v) (hs : a.eval s = u) {v' : Value} {w' : World}
    (hr : (Builtin.copy_ #[t, t'] o.type #[v, u]).run P w = .ok v' w') (h : wpList P ops Q rest (a.put o.dst v') w') : wpList P ops Q (o :: rest) a w :=
  wpList_plain hgd fun _ hK => by
    unfold Oper.wp execOp
    simp only [ho, resolve, invoke, builtin, Sem.run_bind, Sem.run_pure, Result.andThen_ok, List.map_toArray, List.map_cons, List.map_nil, hd, hs, hr]
    exact hK _ _ h
theorem step_copy_runI {P : Program} {ops : Array Oper} {o : Oper} {a : Act} {w : World} {K : Act → World → Prop} {Q : Exit → Act → World → Prop} {E : Prop}
    (hg : o.guard = none) (d x : Operand) (dT sT : TypeId) (hop : o.op = Op.call { callee := Callee.builtin Builtin.copy, args := #[d, x], argTypes := #[dT, sT] })
    (v u : Value) (hd : a.eval d = v) (hx : a.eval x = u) {v' : Value} {w' : World} (hr : (Builtin.copy_ #[dT, sT] o.type #[v, u]).run P w = .ok v' w') (hK : K (a.put o.dst v') w') :
    if Region.wanted o (yielded ops a.tmps) = true then Oper.wp P o a w K Q else E := by
  have hw : Region.wanted o (yielded ops a.tmps) = true := by simp [Region.wanted, hg]
  rw [if_pos hw]
  unfold Oper.wp
  simp [execOp, hop, resolve, invoke, builtin, hd, hx, hr, Result.andThen]
  exact hK
theorem run_copy_rowK {P : Program} (w : World) (dT sT ty elem : TypeId) (k : Nat) (g o dLen dCap : Nat) (a : Addr) (sLen sCap : Nat) (cur : Array Value) (t : TypeId) (cs : List Value)
    (hu : P.underlying dT = some (.slice elem)) (hs : (P.info? elem).map (·.size) = some k)
    (hg : w.heap[g]? = some (.cells cur t (0, 0))) (hn : cs.length = Nat.min sLen dLen * k)
    (hsrc : ∀ j v, cs[j]? = some v → w.cell? (a.add j) = some v) (hfit : o + cs.length ≤ cur.size) (h1 : ∀ v ∈ cs, v.oneCell' = true) :
    (Builtin.copy_ #[dT, sT] ty #[.slice (some ⟨g, o, none⟩) dLen dCap, .slice (some a) sLen sCap]).run P w =
      .ok (goInt (Nat.min sLen dLen)) (w.setRow g (cur.toList.take o ++ cs ++ cur.toList.drop (o + cs.length)).toArray) := by
  have hl := run_loadCells_list (P := P) w a cs hsrc
  have hst := run_storeCells_at P g o t cs 0 cur w hg (by simpa using hfit) h1
  cases hq : P.info? elem with
  | none => simp [hq] at hs
  | some i =>
    have hi : i.size = k := by simpa [hq] using hs
    simp [Builtin.copy_, run_underlying hu, Builtin.lenOf, Builtin.firstCells, sizeOf, typeInfo, hq, hi, ← hn, hl, hst]
theorem zc_one (cs : Array Value) (h : cs.toList.all Value.oneCell' = true) (n : Nat) : ∀ v ∈ (Builtin.zeroCells cs n).toList, v.oneCell' = true := by
  intro v hv
  simp only [Builtin.zeroCells, Array.toList_map, List.mem_map, Array.toList_range, List.mem_range] at hv
  obtain ⟨x, hx, rfl⟩ := hv
  have h0 : 0 < cs.size := Nat.pos_of_mul_pos_left (by omega : 0 < n * cs.size)
  have : x % cs.size < cs.size := Nat.mod_lt _ h0
  rw [getElem!_pos cs _ this]
  exact List.all_eq_true.1 h _ (by simp)
theorem own_low {w : World} {e : TypeId} {K : Nat} {S : Value} {n : Nat} {vals : List Value} (h : w.ownsRow 0 e K S n vals) : ∀ b, own1 S b ≠ 0 → b < w.heap.size := by
  intro b hb
  rcases h.2 with ⟨rfl, _⟩ | ⟨g, cap, cur, rfl, _, hg, _⟩
  · simp [own1] at hb
  · have : g = b := by simp only [own1] at hb; exact Classical.byContradiction fun h => hb (if_neg h)
    subst this
    exact (Array.getElem?_eq_some_iff.1 hg).1
theorem drow_size (w : World) (g : Nat) (A : Array Value) : w.heap.size ≤ (w.drew.setRow g A).heap.size := by
  have : (w.drew.setRow g A).heap.size = w.drew.heap.size := by simp [World.setRow]
  rw [this]; exact Nat.le_refl _
end Go.Proofs
end
section
set_option linter.unusedVariables false
set_option linter.unusedSimpArgs false
namespace Go.Proofs
open Go.Shelf Go.RowKit Go.Lib Go.Pi
section
variable {P : Program}
/-- the larger row of an insertion, and what comes into it -/
theorem insGrow171 (TS TE : TypeId) (TI : TypeId) (Z : Value) (i0 : TypeInfo) (uS : P.underlying TS = some (.slice TE)) (uI : P.underlying TI = some (.int .i64)) (hi0 : P.info? TE = some i0) (hz2 : i0.zero = some Z) (hz0 : i0.size = 2) (hz1 : i0.bytes = 16) (hZK : Z.cells.size = 2)
    (w : World) (g n c i : Nat) (cur : Array Value) (hg : w.heap[g]? = some (.cells cur TE (0, 0))) (hs : cur.size = c * 2) (hnc : n ≤ c) (hi : i < n)
    (gv m vc : Nat) (curv : Array Value) (Tv : TypeId) (hgv : w.heap[gv]? = some (.cells curv Tv (0, 0))) (hmv : m * 2 ≤ curv.size) (us : List Value) (hul : us = curv.toList.take (m * 2)) (h1u : ∀ v ∈ us, v.oneCell' = true) (hm : 0 < m) (hroom : c < n + m)
    (hbig : (n + m) * 16 ≤ 140737488355328) (h1 : ∀ v ∈ cur.toList.take (n * 2), v.oneCell' = true) :
    ∃ G N W1 R1 W2 A, Hid (N = w.heap.size) ∧ n + m ≤ G ∧ G ≤ maxLen ∧
      (∀ ty, (Builtin.append_ #[TS, TI] ty #[.slice (some ⟨g, 0, none⟩) i c, .int .i64 ((n : Int) + (m : Int) - (i : Int))]).run P w = .ok (.slice (some ⟨N, 0, none⟩) (n + m) G) W1) ∧
      (∀ ty dc, (Builtin.copy_ #[TS, TS] ty #[.slice (some ⟨N, i * 2, none⟩) (n + m - i) dc, .slice (some ⟨gv, 0, none⟩) m vc]).run P W1 = .ok (goInt m) (W1.setRow N R1)) ∧
      (W1.setRow N R1).drew = W2 ∧
      (∀ ty dc sc, (Builtin.copy_ #[TS, TS] ty #[.slice (some ⟨N, (i + m) * 2, none⟩) (n + m - (i + m)) dc, .slice (some ⟨g, i * 2, none⟩) (n - i) sc]).run P W2 = .ok (goInt (n - i)) (W2.setRow N A)) ∧
      Hid (n + m ≤ G ∧ G ≤ maxLen ∧ (W2.setRow N A).heap[w.heap.size]? = some (.cells A TE (0, 0)) ∧ A.size = G * 2 ∧ A.toList.take ((n + m) * 2) = (cur.toList.take (n * 2)).take (i * 2) ++ us ++ (cur.toList.take (n * 2)).drop (i * 2) ∧ w.grownBy (W2.setRow N A) none) := by
  have hul2 : us.length = m * 2 := by rw [hul, List.length_take, Array.length_toList]; omega
  have hsz : (P.info? TE).map (·.size) = some 2 := by rw [hi0]; simp [hz0]
  have hgd : w.drew.heap[g]? = some (.cells cur TE (0, 0)) := hg
  have hgl : g < w.heap.size := (Array.getElem?_eq_some_iff.1 hg).1
  have hgvl : gv < w.heap.size := (Array.getElem?_eq_some_iff.1 hgv).1
  obtain ⟨olds, holds⟩ : ∃ olds, olds = (cur.toList.take (n * 2)).take (i * 2) := ⟨_, rfl⟩
  have hol : olds.length = i * 2 := by rw [holds]; simp [hs]; omega
  obtain ⟨G, hG⟩ : ∃ G, G = grownCap w (n + m) c TE := ⟨_, rfl⟩
  have hGn : n + m ≤ G := by rw [hG]; exact grownCap_ge w _ _ _
  have hGm : G ≤ maxLen := by rw [hG]; exact grownCap_le_maxLen w (n + m) c TE (by unfold maxLen; omega)
  obtain ⟨ROW, hROW⟩ : ∃ ROW : Array Value, ROW = olds.toArray ++ Builtin.zeroCells Z.cells (n + m - i) ++ Builtin.zeroCells Z.cells (G - (n + m)) := ⟨_, rfl⟩
  have hRl : ROW.size = G * 2 := by rw [hROW]; simp [Builtin.zeroCells, hol, hZK]; omega
  have hRt : ROW.toList.take (i * 2) = olds := by
    rw [hROW]; simp only [Array.toList_append, List.append_assoc]
    rw [List.take_append_of_le_length (by simp [hol]), List.take_of_length_le (by simp [hol])]
  have hkk : (n : Int) + (m : Int) - (i : Int) = ((n + m - i : Nat) : Int) := by omega
  have hrz : ∀ ty, (Builtin.append_ #[TS, TI] ty #[.slice (some ⟨g, 0, none⟩) i c, .int .i64 ((n : Int) + (m : Int) - (i : Int))]).run P w =
      .ok (.slice (some ⟨w.heap.size, 0, none⟩) (n + m) G) (w.drew.alloc (.cells ROW TE)) := fun ty => by
    have h := Lib.run_append_grow_zeros (P := P) w TS TI ty TE i0 _ .i64 .i64 uS uI hi0 hz2 (some ⟨g, 0, none⟩) i c olds (by
      rw [hz0]
      exact run_firstCells_some w.drew 2 i ⟨g, 0, none⟩ i c olds hol (fun j v hj => by
        have hj2 := (List.getElem?_eq_some_iff.1 hj).1
        rw [holds, List.getElem?_take_of_lt (by omega), List.getElem?_take_of_lt (by omega), Array.getElem?_toList] at hj
        rw [Addr.add_lit, Nat.zero_add]
        simp only [World.cell?, hgd]
        exact hj)) (n + m - i) (by omega) (by omega) (by omega) (by omega) (by rw [hz1]; omega) (by rw [hz1, show i + (n + m - i) = n + m by omega]; exact growslice_fits hroom hbig)
    rw [show i + (n + m - i) = n + m by omega, ← hG, ← hROW] at h
    rw [hkk]
    exact h
  obtain ⟨N, hN⟩ : ∃ N, N = w.heap.size := ⟨_, rfl⟩
  rw [← hN] at hrz
  obtain ⟨W1, hW1⟩ : ∃ W1, W1 = w.drew.alloc (.cells ROW TE) := ⟨_, rfl⟩
  rw [← hW1] at hrz
  have hN1 : W1.heap[N]? = some (.cells ROW TE (0, 0)) := by rw [hW1, hN]; exact heap_alloc_new w.drew _
  have hold : ∀ b, b < w.heap.size → W1.heap[b]? = w.heap[b]? := fun b hb => by rw [hW1]; exact heap_alloc_old w.drew _ hb
  have hgr1 : w.grownBy W1 none := by rw [hW1]; exact ⟨rfl, rfl, rfl, by simp, fun k hk _ => heap_alloc_old w.drew _ hk⟩
  obtain ⟨R1, hR1⟩ : ∃ R1, R1 = (ROW.toList.take (i * 2) ++ us ++ ROW.toList.drop (i * 2 + us.length)).toArray := ⟨_, rfl⟩
  have hR1s : R1.size = G * 2 := by rw [hR1]; simp [hul2, hRl]; omega
  have hcp1 : ∀ ty dc, (Builtin.copy_ #[TS, TS] ty #[.slice (some ⟨N, i * 2, none⟩) (n + m - i) dc, .slice (some ⟨gv, 0, none⟩) m vc]).run P W1 = .ok (goInt m) (W1.setRow N R1) := fun ty dc => by
    have := run_copy_rowK (P := P) W1 TS TS ty TE 2 N (i * 2) (n + m - i) dc ⟨gv, 0, none⟩ m vc ROW TE us uS hsz hN1 (by rw [hul2]; simp only [Nat.min_def]; split <;> omega)
      (fun j v hj => by
        have hj2 := (List.getElem?_eq_some_iff.1 hj).1
        rw [hul, List.getElem?_take_of_lt (by omega), Array.getElem?_toList] at hj
        rw [Addr.add_lit, Nat.zero_add]
        simp only [World.cell?, hold gv hgvl, hgv]
        exact hj) (by rw [hul2, hRl]; omega) h1u
    rw [this, hR1]
    congr 2
    simp only [Nat.min_def]; split <;> omega
  obtain ⟨W2, hW2⟩ : ∃ W2, W2 = (W1.setRow N R1).drew := ⟨_, rfl⟩
  have hN2 : W2.heap[N]? = some (.cells R1 TE (0, 0)) := by rw [hW2]; exact setRow_heap _ _ _ _ _ _ hN1
  have hg2 : W2.heap[g]? = some (.cells cur TE (0, 0)) := by
    rw [hW2]; show (W1.setRow N R1).heap[g]? = _
    rw [setRow_other _ _ _ _ (by omega), hold g hgl]; exact hg
  obtain ⟨mv, hmv2⟩ : ∃ mv, mv = (cur.toList.take (n * 2)).drop (i * 2) := ⟨_, rfl⟩
  have hml : mv.length = (n - i) * 2 := by rw [hmv2]; simp [hs]; omega
  obtain ⟨A, hA⟩ : ∃ A, A = (R1.toList.take ((i + m) * 2) ++ mv ++ R1.toList.drop ((i + m) * 2 + mv.length)).toArray := ⟨_, rfl⟩
  have hcp2 : ∀ ty dc sc, (Builtin.copy_ #[TS, TS] ty #[.slice (some ⟨N, (i + m) * 2, none⟩) (n + m - (i + m)) dc, .slice (some ⟨g, i * 2, none⟩) (n - i) sc]).run P W2 = .ok (goInt (n - i)) (W2.setRow N A) := fun ty dc sc => by
    have := run_copy_rowK (P := P) W2 TS TS ty TE 2 N ((i + m) * 2) (n + m - (i + m)) dc ⟨g, i * 2, none⟩ (n - i) sc R1 TE mv uS hsz hN2 (by rw [hml]; simp only [Nat.min_def]; split <;> omega)
      (fun j v hj => by
        have hj2 := (List.getElem?_eq_some_iff.1 hj).1
        rw [hmv2, List.getElem?_drop, List.getElem?_take_of_lt (by omega), Array.getElem?_toList] at hj
        rw [Addr.add_lit]
        simp only [World.cell?, hg2]
        exact hj) (by rw [hml, hR1s]; omega) (fun v hv => h1 v (by rw [hmv2] at hv; exact List.mem_of_mem_drop hv))
    rw [this, hA]
    congr 2
    simp only [Nat.min_def]; split <;> omega
  have kA : Hid (n + m ≤ G ∧ G ≤ maxLen ∧ (W2.setRow N A).heap[w.heap.size]? = some (.cells A TE (0, 0)) ∧ A.size = G * 2 ∧ A.toList.take ((n + m) * 2) = (cur.toList.take (n * 2)).take (i * 2) ++ us ++ (cur.toList.take (n * 2)).drop (i * 2) ∧ w.grownBy (W2.setRow N A) none) := by
    refine ⟨hGn, hGm, by rw [← hN]; exact setRow_heap _ _ _ _ _ _ hN2, by rw [hA]; simp [hml, hR1s]; omega, ?_, ?_⟩
    · have e1 : R1.toList.take ((i + m) * 2) = olds ++ us := by
        rw [hR1]; simp only [List.toList_toArray]
        rw [List.take_append_of_le_length (by simp [hul2, hRl]; omega), List.take_of_length_le (by simp [hul2, hRl]; omega), hRt]
      rw [hA]; simp only [List.toList_toArray]
      rw [e1, List.take_append_of_le_length (by simp [hol, hul2, hml]; omega), List.take_of_length_le (by simp [hol, hul2, hml]; omega), holds, hmv2]
    · refine ⟨by rw [hW2]; exact hgr1.os, by rw [hW2]; exact hgr1.tape, by rw [hW2]; exact hgr1.output, ?_, fun k hk hne => ?_⟩
      · have : (W2.setRow N A).heap.size = W1.heap.size := by rw [hW2]; simp [World.setRow, World.drew]
        rw [this]; exact hgr1.size
      · rw [setRow_other _ _ _ _ (by omega), hW2]
        show (W1.setRow N R1).heap[k]? = _
        rw [setRow_other _ _ _ _ (by omega)]; exact hold k hk
  exact ⟨G, N, W1, R1, W2, A, hN, hGn, hGm, hrz, hcp1, hW2.symm, hcp2, kA⟩
end
set_option maxRecDepth 1000000 in
theorem InsEnd171 (w : World) (S : Value) (n : Nat) (vals : List Value) (hS : w.ownsRow 0 137 2 S n vals) (gv m vc : Nat) (us : List Value) (hul : us.length = m * 2) (hus : ∀ j u, us[j]? = some u → w.cell? ⟨gv, j, none⟩ = some u) (h1u : ∀ v ∈ us, v.oneCell' = true) (hm : 0 < m) (hb : (n + m) * 16 ≤ 140737488355328) :
    Calls Try.prog 171 #[S, .int .i64 n, .slice (some ⟨gv, 0, none⟩) m vc] w fun e w' => ∃ R, e = .returned R ∧ w'.ownsRow 0 137 2 R (n + m) (vals ++ us) ∧ GrewC w w' (fun b => own1 S b ≠ 0) ∧
      ∀ b, own1 R b ≠ 0 → (w.heap.size ≤ b ∨ own1 S b ≠ 0) ∧ b < w'.heap.size := by
  obtain ⟨i0, hi0⟩ := Option.isSome_iff_exists.1 (show (Try.prog.info? 137).isSome = true by kernel_rfl)
  have hz0 : i0.size = 2 := by
    have : (Try.prog.info? 137).map (·.size) = some 2 := by kernel_rfl
    rw [hi0] at this; simpa using this
  have hz1 : i0.bytes = 16 := by
    have : (Try.prog.info? 137).map (·.bytes) = some 16 := by kernel_rfl
    rw [hi0] at this; simpa using this
  have hz2 : i0.zero = some (.agg #[.int .i64 0, .int .i64 0]) := by
    have : (Try.prog.info? 137).bind (·.zero) = some (.agg #[.int .i64 0, .int .i64 0]) := by kernel_rfl
    rw [hi0] at this; simpa using this
  have hz3 : ¬ ((m : Int) = 0) := by omega
  have mixed : Try.prog.follows .mixedOrders = true := by kernel_rfl
  have key : ∀ ty, ∃ v' w', (Builtin.append_ #[43, 43] ty #[S, .slice (some ⟨gv, 0, none⟩) m vc]).run Try.prog w = .ok v' w' ∧ w'.ownsRow 0 137 2 v' (n + m) (vals ++ us) ∧ GrewC w w' (fun b => own1 S b ≠ 0) ∧
      ∀ b, own1 v' b ≠ 0 → (w.heap.size ≤ b ∨ own1 S b ≠ 0) ∧ b < w'.heap.size := fun ty => by
    have := run_append_at (P := Try.prog) w 43 ty 137 i0 _ Try.underlying43 hi0 hz2 (by rw [hz0]; rfl) (by rw [hz0]; decide) S n vals (by rw [hz0]; exact hS) (.slice (some ⟨gv, 0, none⟩) m vc) m us (by rw [hz0]; exact hul) (.inl ⟨_, _, rfl, fun j u h => by rw [Addr.add_lit, Nat.zero_add]; exact hus j u h⟩) h1u (by unfold maxLen; omega) (by rw [hz1]; exact hb)
    rw [hz0] at this
    exact this
  obtain ⟨v', w', k1, k2, k3⟩ := key 43
  rcases hS.2 with ⟨rfl, rfl⟩ | ⟨g, c, cur, rfl, -, hg, hnc, hcm, hcs, htake⟩
  · clear key hS hus hz2 hi0 hz0 hz1
    go_enter Try.func171, Try.ntmps171
    go_wp2_with (at_builtin; refine Lib.wpList_append_run _ rfl _ _ 43 43 rfl _ _ rfl rfl _ _ k1 ?_)
    go_ret
    exact ⟨_, rfl, k2, k3⟩
  · clear key hS hus hz2 hg htake hcs hi0 hz0 hz1
    unfold maxLen at hcm
    go_enter Try.func171, Try.ntmps171
    go_wp2_with (at_builtin; refine Lib.wpList_append_run _ rfl _ _ 43 43 rfl _ _ rfl rfl _ _ k1 ?_)
    all_goals (go_ret; exact ⟨_, rfl, k2, k3⟩)
set_option maxRecDepth 1000000 in
theorem InsNone171 (w : World) (S : Value) (n i : Nat) (vals : List Value) (hS : w.ownsRow 0 137 2 S n vals) (U : Value) (us : List Value) (hU : w.ownsRow 0 137 2 U 0 us) (hi : i ≤ n) :
    Calls Try.prog 171 #[S, .int .i64 i, U] w fun e w' => e = .returned S ∧ w' = w := by
  rcases hS.2 with ⟨rfl, rfl⟩ | ⟨g, c, cur, rfl, -, hg, hnc, hcm, hcs, htake⟩
  · have hi0 : i = 0 := by omega
    subst hi0
    rcases hU.2 with ⟨rfl, -⟩ | ⟨gv, vc, curv, rfl, -, hgv, hmc, hcm, hcs, htake⟩
    · clear hS hU
      go_enter Try.func171, Try.ntmps171
      go_wp2_with fail
      go_ret
      exact ⟨rfl, rfl⟩
    · clear hS hU hgv hcs htake
      go_enter Try.func171, Try.ntmps171
      go_wp2_with fail
      go_ret
      exact ⟨rfl, rfl⟩
  · unfold maxLen at hcm
    have hic : i ≤ c := by omega
    rcases hU.2 with ⟨rfl, -⟩ | ⟨gv, vc, curv, rfl, -, hgv, hmc, hcm2, hcs2, htake2⟩
    · clear hS hU hg hcs htake
      go_enter Try.func171, Try.ntmps171
      go_wp2_with fail
      all_goals (go_ret; exact ⟨rfl, rfl⟩)
    · clear hS hU hg hcs htake hgv hcs2 htake2
      go_enter Try.func171, Try.ntmps171
      go_wp2_with fail
      all_goals (go_ret; exact ⟨rfl, rfl⟩)
set_option maxRecDepth 1000000 in
theorem InsShift171 (w : World) (g n c i : Nat) (cur : Array Value) (hg : w.heap[g]? = some (.cells cur 137 (0, 0))) (hs : cur.size = c * 2) (hc : c ≤ 9223372036854775807) (hi : i < n)
    (gv m vc : Nat) (curv : Array Value) (Tv : TypeId) (hgv : w.heap[gv]? = some (.cells curv Tv (0, 0))) (hmv : m * 2 ≤ curv.size) (hne : gv ≠ g) (us : List Value) (hul : us = curv.toList.take (m * 2)) (h1u : ∀ v ∈ us, v.oneCell' = true) (hm : 0 < m) (hroom : n + m ≤ c)
    (h1 : ∀ v ∈ cur.toList.take (n * 2), v.oneCell' = true) :
    Calls Try.prog 171 #[.slice (some ⟨g, 0, none⟩) n c, .int .i64 i, .slice (some ⟨gv, 0, none⟩) m vc] w fun e w' => e = .returned (.slice (some ⟨g, 0, none⟩) (n + m) c) ∧
      ∃ A, w' = w.drew.setRow g A ∧ A.size = cur.size ∧ A.toList.take ((n + m) * 2) = (cur.toList.take (n * 2)).take (i * 2) ++ us ++ (cur.toList.take (n * 2)).drop (i * 2) := by
  have hsz : (Try.prog.info? 137).map (·.size) = some 2 := by kernel_rfl
  have hul2 : us.length = m * 2 := by rw [hul, List.length_take, Array.length_toList]; omega
  have hov : ∀ lb cb, (callFunc 178 #[.slice (some ⟨gv, 0, none⟩) m vc, .slice (some ⟨g, (i + m) * 2, none⟩) lb cb]).run Try.prog w = .ok (.value (.bool false)) w := fun lb cb => by
    rw [run_callFunc_extern Try.func178 (by kernel_rfl) (by kernel_rfl) (by kernel_rfl) (e := Extern.SlicesOverlaps.overlaps #[43, 43] #[4]) (by kernel_rfl),
      Lib.run_overlaps_apart w 43 4 137 Try.underlying43 2 Try.sizeOf137 ⟨gv, 0, none⟩ ⟨g, (i + m) * 2, none⟩ m vc lb cb hne Tv 137 curv.size cur.size (by simp [World.shape?, hgv]) (by simp [World.shape?, hg]) (by omega) (by simp [World.frozen?, hgv]) (by simp [World.frozen?, hgv])]
    rfl
  obtain ⟨mv, hmv2⟩ : ∃ mv, mv = (cur.toList.take (n * 2)).drop (i * 2) := ⟨_, rfl⟩
  have hml : mv.length = (n - i) * 2 := by rw [hmv2]; simp [hs]; omega
  have hgd : w.drew.heap[g]? = some (.cells cur 137 (0, 0)) := hg
  obtain ⟨B, hB⟩ : ∃ B, B = (cur.toList.take ((i + m) * 2) ++ mv ++ cur.toList.drop ((i + m) * 2 + mv.length)).toArray := ⟨_, rfl⟩
  have hcp1 : ∀ ty dc sc, (Builtin.copy_ #[43, 43] ty #[.slice (some ⟨g, (i + m) * 2, none⟩) (n + m - (i + m)) dc, .slice (some ⟨g, i * 2, none⟩) (n + m - i) sc]).run Try.prog w.drew = .ok (goInt (n - i)) (w.drew.setRow g B) := fun ty dc sc => by
    have := run_copy_rowK (P := Try.prog) w.drew 43 43 ty 137 2 g ((i + m) * 2) (n + m - (i + m)) dc ⟨g, i * 2, none⟩ (n + m - i) sc cur 137 mv Try.underlying43 hsz hgd (by rw [hml]; simp only [Nat.min_def]; split <;> omega)
      (fun j v hj => by
        have hj2 := (List.getElem?_eq_some_iff.1 hj).1
        rw [hmv2, List.getElem?_drop, List.getElem?_take_of_lt (by omega), Array.getElem?_toList] at hj
        rw [Addr.add_lit]
        simp only [World.cell?, hgd]
        exact hj) (by rw [hml, hs]; omega) (fun v hv => h1 v (by rw [hmv2] at hv; exact List.mem_of_mem_drop hv))
    rw [this, hB]
    congr 2
    simp only [Nat.min_def]; split <;> omega
  have hBs : B.size = cur.size := by rw [hB]; simp [hml, hs]; omega
  have hgB : (w.drew.setRow g B).heap[g]? = some (.cells B 137 (0, 0)) := setRow_heap _ _ _ _ _ _ hgd
  obtain ⟨A, hA⟩ : ∃ A, A = (B.toList.take (i * 2) ++ us ++ B.toList.drop (i * 2 + us.length)).toArray := ⟨_, rfl⟩
  have hcp2 : ∀ ty dc, (Builtin.copy_ #[43, 43] ty #[.slice (some ⟨g, i * 2, none⟩) (n + m - i) dc, .slice (some ⟨gv, 0, none⟩) m vc]).run Try.prog (w.drew.setRow g B) = .ok (goInt m) (w.drew.setRow g A) := fun ty dc => by
    have := run_copy_rowK (P := Try.prog) (w.drew.setRow g B) 43 43 ty 137 2 g (i * 2) (n + m - i) dc ⟨gv, 0, none⟩ m vc B 137 us Try.underlying43 hsz hgB (by rw [hul2]; simp only [Nat.min_def]; split <;> omega)
      (fun j v hj => by
        have hj2 := (List.getElem?_eq_some_iff.1 hj).1
        rw [hul, List.getElem?_take_of_lt (by omega), Array.getElem?_toList] at hj
        rw [Addr.add_lit, Nat.zero_add]
        have e : (w.drew.setRow g B).heap[gv]? = some (.cells curv Tv (0, 0)) := by rw [setRow_other _ _ _ _ hne]; exact hgv
        simp only [World.cell?, e]
        exact hj) (by rw [hul2, hBs, hs]; omega) h1u
    rw [this, hA, setRow_setRow]
    congr 2
    simp only [Nat.min_def]; split <;> omega
  have kA : Hid (A.size = cur.size ∧ A.toList.take ((n + m) * 2) = (cur.toList.take (n * 2)).take (i * 2) ++ us ++ mv) := by
    have e1 : B.toList.take (i * 2) = (cur.toList.take (n * 2)).take (i * 2) := by
      rw [hB]; simp only [List.toList_toArray, List.append_assoc]
      rw [List.take_append_of_le_length (by simp [hs]; omega), List.take_take, List.take_take]
      congr 1; omega
    have e2 : (B.toList.drop (i * 2 + us.length)).take mv.length = mv := by
      rw [hB]; simp only [List.toList_toArray, List.append_assoc]
      rw [List.drop_append, List.drop_eq_nil_of_le (by simp [hul2, hs]; omega), List.nil_append, List.length_take, show i * 2 + us.length - min ((i + m) * 2) cur.toList.length = 0 by simp [hul2, hs]; omega, List.drop_zero, List.take_append_of_le_length (Nat.le_refl _), List.take_of_length_le (Nat.le_refl _)]
    refine ⟨by rw [hA]; simp [hul2, hBs, hs]; omega, ?_⟩
    rw [hA]; simp only [List.toList_toArray]
    rw [List.take_append, List.take_of_length_le (by simp [hul2, hBs, hs]; omega), e1]
    congr 1
    rw [show (n + m) * 2 - (List.take (i * 2) (List.take (n * 2) cur.toList) ++ us).length = mv.length by simp [hul2, hml, hs]; omega]
    exact e2
  rw [hmv2] at kA
  have hnc : n ≤ c := by omega
  have hic : i ≤ c := by omega
  have hz1 : ¬ ((m : Int) = 0) := by omega
  have hz2 : ¬ ((i : Int) = (n : Int)) := by omega
  have mixed : Try.prog.follows .mixedOrders = true := by kernel_rfl
  have hw1 : IntKind.i64.wrap ((i : Int) + (m : Int)) = (i : Int) + (m : Int) := by rw [IntKind.wrap_i64]; omega
  have hb1 : (0 : Int) ≤ (i : Int) + (m : Int) := by omega
  have hin : i ≤ n := by omega
  have htn : ((i : Int) + (m : Int)).toNat = i + m := by omega
  have hb2 : ¬ (c = i + m) := by omega
  have hb3 : (i : Int) ≤ (n : Int) + (m : Int) := by omega
  have hb4 : ¬ (c = i) := by omega
  clear hB hBs hgB hA hmv2 hml hgd hg hgv hul hul2 h1 h1u hsz hs hmv
  go_enter Try.func171, Try.ntmps171
  go_wp2_with (simp only [hov])
  go_region_law_o (refine step_copy_runI rfl _ _ 43 43 rfl _ _ (by simp [Act.eval, Act.put]) (by simp [Act.eval, Act.put]) (hcp1 _ _ _) ?_)
  go_wp2_with (at_builtin; refine wpList_copy_runI _ rfl _ _ 43 43 rfl _ _ rfl rfl (hcp2 _ _) ?_)
  go_ret
  exact ⟨rfl, A, rfl, kA.out.1, kA.out.2⟩
set_option maxRecDepth 1000000 in
theorem InsGrow171 (w : World) (g n c i : Nat) (cur : Array Value) (hg : w.heap[g]? = some (.cells cur 137 (0, 0))) (hs : cur.size = c * 2) (hnc : n ≤ c) (hi : i < n)
    (gv m vc : Nat) (curv : Array Value) (Tv : TypeId) (hgv : w.heap[gv]? = some (.cells curv Tv (0, 0))) (hmv : m * 2 ≤ curv.size) (us : List Value) (hul : us = curv.toList.take (m * 2)) (h1u : ∀ v ∈ us, v.oneCell' = true) (hm : 0 < m) (hroom : c < n + m)
    (hbig : (n + m) * 16 ≤ 140737488355328) (h1 : ∀ v ∈ cur.toList.take (n * 2), v.oneCell' = true) :
    Calls Try.prog 171 #[.slice (some ⟨g, 0, none⟩) n c, .int .i64 i, .slice (some ⟨gv, 0, none⟩) m vc] w fun e w' => ∃ C A, e = .returned (.slice (some ⟨w.heap.size, 0, none⟩) (n + m) C) ∧ n + m ≤ C ∧ C ≤ maxLen ∧
      w'.heap[w.heap.size]? = some (.cells A 137 (0, 0)) ∧ A.size = C * 2 ∧ A.toList.take ((n + m) * 2) = (cur.toList.take (n * 2)).take (i * 2) ++ us ++ (cur.toList.take (n * 2)).drop (i * 2) ∧ w.grownBy w' none := by
  obtain ⟨i0, hi0⟩ := Option.isSome_iff_exists.1 (show (Try.prog.info? 137).isSome = true by kernel_rfl)
  have hz0 : i0.size = 2 := by
    have : (Try.prog.info? 137).map (·.size) = some 2 := by kernel_rfl
    rw [hi0] at this; simpa using this
  have hz1 : i0.bytes = 16 := by
    have : (Try.prog.info? 137).map (·.bytes) = some 16 := by kernel_rfl
    rw [hi0] at this; simpa using this
  have hz2 : i0.zero = some (.agg #[.int .i64 0, .int .i64 0]) := by
    have : (Try.prog.info? 137).bind (·.zero) = some (.agg #[.int .i64 0, .int .i64 0]) := by kernel_rfl
    rw [hi0] at this; simpa using this
  obtain ⟨G, N, W1, R1, W2, A, hNN, hGn, hGm, hrz, hcp1, hW2', hcp2, kA⟩ := insGrow171 43 137 3 _ i0 Try.underlying43 Try.underlying3 hi0 hz2 hz0 hz1 rfl w g n c i cur hg hs hnc hi gv m vc curv Tv hgv hmv us hul h1u hm hroom hbig h1
  have hic : i ≤ c := by omega
  have hz3 : ¬ ((m : Int) = 0) := by omega
  have hz4 : ¬ ((i : Int) = (n : Int)) := by omega
  have hz5 : (c : Int) < (n : Int) + (m : Int) := by omega
  have mixed : Try.prog.follows .mixedOrders = true := by kernel_rfl
  have hG63 : G ≤ 9223372036854775807 := by unfold maxLen at hGm; omega
  have hw1 : IntKind.i64.wrap ((n : Int) + (m : Int)) = (n : Int) + (m : Int) := by rw [IntKind.wrap_i64]; omega
  have hw2 : IntKind.i64.wrap ((n : Int) + (m : Int) - (i : Int)) = (n : Int) + (m : Int) - (i : Int) := by rw [IntKind.wrap_i64]; omega
  have hw3 : IntKind.i64.wrap ((i : Int) + (m : Int)) = (i : Int) + (m : Int) := by rw [IntKind.wrap_i64]; omega
  have hb1 : (0 : Int) ≤ (i : Int) + (m : Int) := by omega
  have htn : ((i : Int) + (m : Int)).toNat = i + m := by omega
  have hGi : ¬ (G = i) := by omega
  have hGim : ¬ (G = i + m) := by omega
  have hb3 : (i : Int) ≤ (n : Int) + (m : Int) := by omega
  have hb4 : ¬ (c = i) := by omega
  have hinm : i ≤ n + m := by omega
  have himn : i + m ≤ n + m := by omega
  have hin : i ≤ n := by omega
  clear hul h1 h1u hg hgv hs hmv hz0 hz1 hz2 hi0 hbig
  go_enter Try.func171, Try.ntmps171
  go_wp2_with (at_builtin; refine Lib.wpList_append_run _ rfl _ _ 43 3 rfl _ _ rfl rfl _ _ (hrz _) ?_)
  go_region_law_o (simp only [hW2']; refine step_copy_runI rfl _ _ 43 43 rfl _ _ (by simp [Act.eval, Act.put]) (by simp [Act.eval, Act.put]) (hcp2 _ _ _) ?_)
  go_wp2_with fail
  go_ret
  exact ⟨G, A, by rw [hNN.out]; rfl, kA.out⟩
theorem insM171 : InsM Try.prog 171 137 2 16 := by
  intro w S n vals U m us i hS hU hdis hi h1 h1u hb
  have hvl := hS.1
  by_cases hm : m = 0
  · subst hm
    have hus : us = [] := by have := hU.1; rw [Nat.zero_mul] at this; exact List.eq_nil_of_length_eq_zero this
    subst hus
    refine (InsNone171 w S n i vals hS U [] hU hi).mono ?_
    rintro e w' ⟨rfl, rfl⟩
    refine ⟨S, rfl, by rw [List.append_nil, List.take_append_drop]; exact hS, ⟨rfl, rfl, rfl, Nat.le_refl _, fun _ _ _ => rfl⟩, fun b hb => ⟨.inr hb, own_low hS b hb⟩⟩
  · rcases hU.2 with ⟨rfl, h0⟩ | ⟨gv, vc, curv, rfl, -, hgv, hmc, hcm, hcs, htake⟩
    · exact absurd h0 hm
    · by_cases hin : i = n
      · subst hin
        rw [List.take_of_length_le (by omega), List.drop_eq_nil_of_le (by omega), List.append_nil]
        exact InsEnd171 w S i vals hS gv m vc us hU.1 (fun j u h => by have := hU.cells (g := gv) rfl j u h; rwa [Addr.add_lit, Nat.zero_add] at this) h1u (by omega) hb
      · rcases hS.2 with ⟨rfl, h0⟩ | ⟨g, c, cur, rfl, -, hg, hnc, hcm', hcs', htake'⟩
        · omega
        · have hne : gv ≠ g := fun e => by subst e; have := hdis gv (by simp [own1]); simp [own1] at this
          have hmv : m * 2 ≤ curv.size := by rw [hcs]; exact Nat.mul_le_mul_right _ hmc
          by_cases hroom : n + m ≤ c
          · refine (InsShift171 w g n c i cur hg hcs' (by unfold maxLen at hcm'; omega) (by omega) gv m vc curv 137 hgv hmv hne us htake.symm h1u (by omega) hroom (by rw [htake']; exact h1)).mono ?_
            rintro e w' ⟨rfl, A, rfl, hA, ht⟩
            rw [htake'] at ht
            have hgd : w.drew.heap[g]? = some (.cells cur 137 (0, 0)) := hg
            have hA2 := setRow_heap w.drew g cur A _ _ hgd
            refine ⟨_, rfl, ⟨by rw [← ht]; simp [hA, hcs']; omega, .inr ⟨g, c, A, rfl, Nat.zero_le _, hA2, hroom, hcm', by rw [hA, hcs'], ht⟩⟩, ⟨rfl, rfl, rfl, drow_size w g A, fun b _ hn => ?_⟩, fun b hb => ⟨.inr hb, ?_⟩⟩
            · rw [setRow_other _ _ _ _ (fun e => hn (by subst e; simp [own1]))]; rfl
            · have : g = b := by simp only [own1] at hb; exact Classical.byContradiction fun h => hb (if_neg h)
              subst this
              exact (Array.getElem?_eq_some_iff.1 hA2).1
          · refine (InsGrow171 w g n c i cur hg hcs' hnc (by omega) gv m vc curv 137 hgv hmv us htake.symm h1u (by omega) (by omega) hb (by rw [htake']; exact h1)).mono ?_
            rintro e w' ⟨C, A, rfl, hC, hCm, hN, hA, ht, hgr⟩
            rw [htake'] at ht
            refine ⟨_, rfl, ⟨by rw [← ht]; simp [hA]; omega, .inr ⟨_, C, A, rfl, Nat.zero_le _, hN, hC, hCm, hA, ht⟩⟩, ⟨hgr.os, hgr.tape, hgr.output, hgr.size, fun b hb _ => hgr.block b hb (by simp)⟩, fun b hb => ?_⟩
            have : w.heap.size = b := by simp only [own1] at hb; exact Classical.byContradiction fun h => hb (if_neg h)
            subst this
            exact ⟨.inl (Nat.le_refl _), (Array.getElem?_eq_some_iff.1 hN).1⟩
end Go.Proofs
namespace Go.Pi
open Go.Proofs
theorem slices_Insert_Kid.ok (n : Nat) (_ : CxOk E (cx n slices_Insert_Kid.d.nt)) (_ : KPar (cx n slices_Insert_Kid.d.nt)) : slices_Insert_Kid.d.Ok E (slices_Insert_Kid.F (n + 1)) := fun _ _ h => nIns_ok (t := .iKid) (m1 := .d) (m2 := .d) (by decide) (by decide) insM171 h
end Go.Pi
end
section
set_option linter.unusedVariables false
set_option linter.unusedSimpArgs false
namespace Go.Proofs
open Go.Shelf Go.RowKit Go.Lib Go.Pi
set_option maxRecDepth 1000000 in
theorem Delete172 (w : World) (g n c i j : Nat) (cur : Array Value) (hg : w.heap[g]? = some (.cells cur 137 (0, 0))) (hs : cur.size = c * 2) (hn : n ≤ c) (hc : c ≤ 9223372036854775807) (hij : i < j) (hj : j ≤ n) 
    (h1 : ∀ v ∈ cur.toList.take (n * 2), v.oneCell' = true) :
    Calls Try.prog 172 #[.slice (some ⟨g, 0, none⟩) n c, .int .i64 i, .int .i64 j] w fun e w' => e = .returned (.slice (some ⟨g, 0, none⟩) (n - (j - i)) c) ∧
      ∃ A, w' = w.drew.setRow g A ∧ A.size = cur.size ∧ A.toList.take ((n - (j - i)) * 2) = (cur.toList.take (n * 2)).take (i * 2) ++ (cur.toList.take (n * 2)).drop (j * 2) := by
  have hic : i ≤ c := by omega
  have hjc : j ≤ c := by omega
  obtain ⟨news, hnews⟩ : ∃ news, news = (cur.toList.take (n * 2)).drop (j * 2) := ⟨_, rfl⟩
  have hlen : news.length = (n - j) * 2 := by rw [hnews, List.length_drop, List.length_take, Array.length_toList, hs]; omega
  have hgd : w.drew.heap[g]? = some (.cells cur 137 (0, 0)) := hg
  obtain ⟨A, hA, hsrc⟩ : ∃ A : Addr, (if c = j then some (⟨g, 0, none⟩ : Addr) else some ⟨g, j * 2, none⟩) = some A ∧ Hid (∀ t u, news[t]? = some u → w.drew.cell? (A.add t) = some u) := by
    by_cases h : c = j
    · refine ⟨⟨g, 0, none⟩, by simp [h], fun t u hu => ?_⟩
      have h0 : news.length = 0 := by rw [hlen]; omega
      rw [List.length_eq_zero_iff.1 h0] at hu
      simp at hu
    · refine ⟨⟨g, j * 2, none⟩, by simp [h], fun t u hu => ?_⟩
      have ht := (List.getElem?_eq_some_iff.1 hu).1
      rw [hlen] at ht
      rw [hnews, List.getElem?_drop, List.getElem?_take_of_lt (by omega), Array.getElem?_toList] at hu
      rw [Addr.add_lit]
      simp only [World.cell?, hgd]
      exact hu
  obtain ⟨i0, hi0⟩ := Option.isSome_iff_exists.1 (show (Try.prog.info? 137).isSome = true by kernel_rfl)
  have hz0 : i0.size = 2 := by
    have : (Try.prog.info? 137).map (·.size) = some 2 := by kernel_rfl
    rw [hi0] at this
    simpa using this
  have hr1 : ∀ ty, (Builtin.append_ #[43, 43] ty #[.slice (some ⟨g, 0, none⟩) i c, .slice (some A) (n - j) (c - j)]).run Try.prog w.drew = .ok (.slice (some ⟨g, 0, none⟩) (i + (n - j)) c) (w.drew.setRow g (cur.toList.take (i * 2) ++ news ++ cur.toList.drop (i * 2 + news.length)).toArray) := fun ty => by
    have := run_append_room (P := Try.prog) w.drew 43 ty 137 i0 Try.underlying43 hi0 g i c cur hgd A (n - j) (c - j) news (by rw [hlen, hz0]) hsrc.out (fun u hu => h1 u (by rw [hnews] at hu; exact List.mem_of_mem_drop hu)) (by omega) (by rw [hz0, hlen, hs]; omega)
    rw [hz0] at this
    exact this
  obtain ⟨B, hB⟩ : ∃ B, B = (cur.toList.take (i * 2) ++ news ++ cur.toList.drop (i * 2 + news.length)).toArray := ⟨_, rfl⟩
  have hBs : B.size = cur.size := by rw [hB]; simp [hlen, hs]; omega
  have hBt : B.toList.take ((i + (n - j)) * 2) = (cur.toList.take (n * 2)).take (i * 2) ++ news := by
    rw [hB]
    simp only [List.toList_toArray]
    rw [List.take_append_of_le_length (by simp [hlen, hs]; omega), List.take_of_length_le (by simp [hlen, hs]; omega), List.take_take, Nat.min_eq_left (by omega)]
  have hgB : (w.drew.setRow g B).heap[g]? = some (.cells B 137 (0, 0)) := setRow_heap _ _ _ _ _ _ hgd
  obtain ⟨Z, hZ⟩ : ∃ Z, Z = (Builtin.zeroCells (Value.agg #[.int .i64 0, .int .i64 0]).cells (n - (i + (n - j)))).toList := ⟨_, rfl⟩
  have hZl : Z.length = (n - (i + (n - j))) * 2 := by rw [hZ]; simp [Builtin.zeroCells, Value.cells]
  have hcl : ∀ ty, (Builtin.clear_ #[43] ty #[.slice (some ⟨g, (i + (n - j)) * 2, none⟩) (n - (i + (n - j))) (c - (i + (n - j)))]).run Try.prog (w.drew.setRow g B) = .ok (.tuple #[]) ((w.drew.setRow g B).setRow g (B.toList.take ((i + (n - j)) * 2) ++ Z ++ B.toList.drop ((i + (n - j)) * 2 + Z.length)).toArray) := fun ty => by
    rw [hZ]
    refine run_clear_k _ 43 137 ty _ Try.underlying43 Try.zeroValue137 g _ _ _ (by omega) B 137 hgB (by rw [← hZ, hZl, hBs, hs]; omega) (fun v hv => ?_)
    exact zc_one _ (by kernel_rfl) _ v hv
  rw [← hB] at hr1
  obtain ⟨Z', hZ'⟩ : ∃ Z', Z' = (B.toList.take ((i + (n - j)) * 2) ++ Z ++ B.toList.drop ((i + (n - j)) * 2 + Z.length)).toArray := ⟨_, rfl⟩
  have kZ : Hid (Z'.size = cur.size ∧ Z'.toList.take ((i + (n - j)) * 2) = (cur.toList.take (n * 2)).take (i * 2) ++ (cur.toList.take (n * 2)).drop (j * 2)) := by
    refine ⟨by rw [hZ']; simp [hZl, hBs, hs]; omega, ?_⟩
    rw [hZ', ← hnews, ← hBt]
    simp only [List.toList_toArray, List.append_assoc]
    rw [List.take_append_of_le_length (by simp [hBs, hs]; omega), List.take_take, Nat.min_self]
  rw [← hZ'] at hcl
  clear hsrc h1 hB hBs hBt hgB hZ hZl hZ' hnews hlen hgd hg
  have hw1 : ¬ ((i : Int) = (j : Int)) := by omega
  have mixed : Try.prog.follows .mixedOrders = true := by kernel_rfl
  go_enter Try.func172, Try.ntmps172
  go_wp2_with fail
  go_region_law_o (refine step_append_runI rfl (.tmp 22) (.tmp 25) 43 43 rfl _ _ (by simp [Act.eval, Act.put]) (by simp [Act.eval, Act.put, hA]) (hr1 _) ?_)
  go_wp2_with fail
  go_ret
  exact ⟨by rw [show n - (j - i) = i + (n - j) by omega]; rfl, Z', by rw [setRow_setRow], kZ.out.1, by rw [show n - (j - i) = i + (n - j) by omega]; exact kZ.out.2⟩
set_option maxRecDepth 1000000 in
theorem DelNone172 (w : World) (S : Value) (n i : Nat) (vals : List Value) (hS : w.ownsRow 0 137 2 S n vals) (hi : i ≤ n) :
    Calls Try.prog 172 #[S, .int .i64 i, .int .i64 i] w fun e w' => e = .returned S ∧ w' = w := by
  rcases hS.2 with ⟨rfl, rfl⟩ | ⟨g, c, cur, rfl, -, hg, hnc, hcm, hcs, htake⟩
  · have hi0 : i = 0 := by omega
    subst hi0
    clear hS
    go_enter Try.func172, Try.ntmps172
    go_wp2_with fail
    all_goals (go_ret; exact ⟨rfl, rfl⟩)
  · unfold maxLen at hcm
    have hic : i ≤ c := by omega
    clear hS hg hcs htake
    go_enter Try.func172, Try.ntmps172
    go_wp2_with fail
    all_goals (go_ret; exact ⟨rfl, rfl⟩)
theorem delM172 : DelM Try.prog 172 137 2 := by
  intro w S n vals i j hS hij hj h1
  by_cases e : i = j
  · subst e
    refine (DelNone172 w S n i vals hS hj).mono ?_
    rintro e w' ⟨rfl, rfl⟩
    refine ⟨S, rfl, by rw [Nat.sub_self, Nat.sub_zero, List.take_append_drop]; exact hS, ⟨rfl, rfl, rfl, Nat.le_refl _, fun _ _ _ => rfl⟩, fun b hb => ⟨.inr hb, own_low hS b hb⟩⟩
  · rcases hS.2 with ⟨rfl, rfl⟩ | ⟨g, c, cur, rfl, -, hg, hnc, hcm, hcs, htake⟩
    · omega
    · refine (Delete172 w g n c i j cur hg hcs hnc (by unfold maxLen at hcm; omega) (by omega) hj (by rw [htake]; exact h1)).mono ?_
      rintro e w' ⟨rfl, A, rfl, hA, ht⟩
      rw [htake] at ht
      have hgd : w.drew.heap[g]? = some (.cells cur 137 (0, 0)) := hg
      have hA2 := setRow_heap w.drew g cur A _ _ hgd
      refine ⟨_, rfl, ⟨by rw [← ht]; simp [hA, hcs]; omega, .inr ⟨g, c, A, rfl, Nat.zero_le _, hA2, by omega, hcm, by rw [hA, hcs], ht⟩⟩, ⟨rfl, rfl, rfl, drow_size w g A, fun b _ hn => ?_⟩, fun b hb => ⟨.inr hb, ?_⟩⟩
      · rw [setRow_other _ _ _ _ (fun e => hn (by subst e; simp [own1]))]; rfl
      · have : g = b := by simp only [own1] at hb; exact Classical.byContradiction fun h => hb (if_neg h)
        subst this
        exact (Array.getElem?_eq_some_iff.1 hA2).1
end Go.Proofs
namespace Go.Pi
open Go.Proofs
theorem slices_Delete_Kid.ok (n : Nat) (_ : CxOk E (cx n slices_Delete_Kid.d.nt)) (_ : KPar (cx n slices_Delete_Kid.d.nt)) : slices_Delete_Kid.d.Ok E (slices_Delete_Kid.F (n + 1)) := fun _ _ h => nDel_ok (t := .iKid) (m := .d) (by decide) delM172 h
end Go.Pi
end
section
set_option linter.unusedVariables false
set_option linter.unusedSimpArgs false
namespace Go.Proofs
open Go.Shelf Go.RowKit Go.Lib Go.Pi
set_option maxRecDepth 1000000 in
theorem Delete174 (w : World) (g n c i j : Nat) (cur : Array Value) (hg : w.heap[g]? = some (.cells cur 113 (0, 0))) (hs : cur.size = c * 2) (hn : n ≤ c) (hc : c ≤ 9223372036854775807) (hij : i < j) (hj : j ≤ n) 
    (h1 : ∀ v ∈ cur.toList.take (n * 2), v.oneCell' = true) :
    Calls Try.prog 174 #[.slice (some ⟨g, 0, none⟩) n c, .int .i64 i, .int .i64 j] w fun e w' => e = .returned (.slice (some ⟨g, 0, none⟩) (n - (j - i)) c) ∧
      ∃ A, w' = w.drew.setRow g A ∧ A.size = cur.size ∧ A.toList.take ((n - (j - i)) * 2) = (cur.toList.take (n * 2)).take (i * 2) ++ (cur.toList.take (n * 2)).drop (j * 2) := by
  have hic : i ≤ c := by omega
  have hjc : j ≤ c := by omega
  obtain ⟨news, hnews⟩ : ∃ news, news = (cur.toList.take (n * 2)).drop (j * 2) := ⟨_, rfl⟩
  have hlen : news.length = (n - j) * 2 := by rw [hnews, List.length_drop, List.length_take, Array.length_toList, hs]; omega
  have hgd : w.drew.heap[g]? = some (.cells cur 113 (0, 0)) := hg
  obtain ⟨A, hA, hsrc⟩ : ∃ A : Addr, (if c = j then some (⟨g, 0, none⟩ : Addr) else some ⟨g, j * 2, none⟩) = some A ∧ Hid (∀ t u, news[t]? = some u → w.drew.cell? (A.add t) = some u) := by
    by_cases h : c = j
    · refine ⟨⟨g, 0, none⟩, by simp [h], fun t u hu => ?_⟩
      have h0 : news.length = 0 := by rw [hlen]; omega
      rw [List.length_eq_zero_iff.1 h0] at hu
      simp at hu
    · refine ⟨⟨g, j * 2, none⟩, by simp [h], fun t u hu => ?_⟩
      have ht := (List.getElem?_eq_some_iff.1 hu).1
      rw [hlen] at ht
      rw [hnews, List.getElem?_drop, List.getElem?_take_of_lt (by omega), Array.getElem?_toList] at hu
      rw [Addr.add_lit]
      simp only [World.cell?, hgd]
      exact hu
  obtain ⟨i0, hi0⟩ := Option.isSome_iff_exists.1 (show (Try.prog.info? 113).isSome = true by kernel_rfl)
  have hz0 : i0.size = 2 := by
    have : (Try.prog.info? 113).map (·.size) = some 2 := by kernel_rfl
    rw [hi0] at this
    simpa using this
  have hr1 : ∀ ty, (Builtin.append_ #[42, 42] ty #[.slice (some ⟨g, 0, none⟩) i c, .slice (some A) (n - j) (c - j)]).run Try.prog w.drew = .ok (.slice (some ⟨g, 0, none⟩) (i + (n - j)) c) (w.drew.setRow g (cur.toList.take (i * 2) ++ news ++ cur.toList.drop (i * 2 + news.length)).toArray) := fun ty => by
    have := run_append_room (P := Try.prog) w.drew 42 ty 113 i0 Try.underlying42 hi0 g i c cur hgd A (n - j) (c - j) news (by rw [hlen, hz0]) hsrc.out (fun u hu => h1 u (by rw [hnews] at hu; exact List.mem_of_mem_drop hu)) (by omega) (by rw [hz0, hlen, hs]; omega)
    rw [hz0] at this
    exact this
  obtain ⟨B, hB⟩ : ∃ B, B = (cur.toList.take (i * 2) ++ news ++ cur.toList.drop (i * 2 + news.length)).toArray := ⟨_, rfl⟩
  have hBs : B.size = cur.size := by rw [hB]; simp [hlen, hs]; omega
  have hBt : B.toList.take ((i + (n - j)) * 2) = (cur.toList.take (n * 2)).take (i * 2) ++ news := by
    rw [hB]
    simp only [List.toList_toArray]
    rw [List.take_append_of_le_length (by simp [hlen, hs]; omega), List.take_of_length_le (by simp [hlen, hs]; omega), List.take_take, Nat.min_eq_left (by omega)]
  have hgB : (w.drew.setRow g B).heap[g]? = some (.cells B 113 (0, 0)) := setRow_heap _ _ _ _ _ _ hgd
  obtain ⟨Z, hZ⟩ : ∃ Z, Z = (Builtin.zeroCells (Value.agg #[.int .i64 0, .slice none 0 0]).cells (n - (i + (n - j)))).toList := ⟨_, rfl⟩
  have hZl : Z.length = (n - (i + (n - j))) * 2 := by rw [hZ]; simp [Builtin.zeroCells, Value.cells]
  have hcl : ∀ ty, (Builtin.clear_ #[42] ty #[.slice (some ⟨g, (i + (n - j)) * 2, none⟩) (n - (i + (n - j))) (c - (i + (n - j)))]).run Try.prog (w.drew.setRow g B) = .ok (.tuple #[]) ((w.drew.setRow g B).setRow g (B.toList.take ((i + (n - j)) * 2) ++ Z ++ B.toList.drop ((i + (n - j)) * 2 + Z.length)).toArray) := fun ty => by
    rw [hZ]
    refine run_clear_k _ 42 113 ty _ Try.underlying42 Try.zeroValue113 g _ _ _ (by omega) B 113 hgB (by rw [← hZ, hZl, hBs, hs]; omega) (fun v hv => ?_)
    exact zc_one _ (by kernel_rfl) _ v hv
  rw [← hB] at hr1
  obtain ⟨Z', hZ'⟩ : ∃ Z', Z' = (B.toList.take ((i + (n - j)) * 2) ++ Z ++ B.toList.drop ((i + (n - j)) * 2 + Z.length)).toArray := ⟨_, rfl⟩
  have kZ : Hid (Z'.size = cur.size ∧ Z'.toList.take ((i + (n - j)) * 2) = (cur.toList.take (n * 2)).take (i * 2) ++ (cur.toList.take (n * 2)).drop (j * 2)) := by
    refine ⟨by rw [hZ']; simp [hZl, hBs, hs]; omega, ?_⟩
    rw [hZ', ← hnews, ← hBt]
    simp only [List.toList_toArray, List.append_assoc]
    rw [List.take_append_of_le_length (by simp [hBs, hs]; omega), List.take_take, Nat.min_self]
  rw [← hZ'] at hcl
  clear hsrc h1 hB hBs hBt hgB hZ hZl hZ' hnews hlen hgd hg
  have hw1 : ¬ ((i : Int) = (j : Int)) := by omega
  have mixed : Try.prog.follows .mixedOrders = true := by kernel_rfl
  go_enter Try.func174, Try.ntmps174
  go_wp2_with fail
  go_region_law_o (refine step_append_runI rfl (.tmp 22) (.tmp 25) 42 42 rfl _ _ (by simp [Act.eval, Act.put]) (by simp [Act.eval, Act.put, hA]) (hr1 _) ?_)
  go_wp2_with fail
  go_ret
  exact ⟨by rw [show n - (j - i) = i + (n - j) by omega]; rfl, Z', by rw [setRow_setRow], kZ.out.1, by rw [show n - (j - i) = i + (n - j) by omega]; exact kZ.out.2⟩
set_option maxRecDepth 1000000 in
theorem DelNone174 (w : World) (S : Value) (n i : Nat) (vals : List Value) (hS : w.ownsRow 0 113 2 S n vals) (hi : i ≤ n) :
    Calls Try.prog 174 #[S, .int .i64 i, .int .i64 i] w fun e w' => e = .returned S ∧ w' = w := by
  rcases hS.2 with ⟨rfl, rfl⟩ | ⟨g, c, cur, rfl, -, hg, hnc, hcm, hcs, htake⟩
  · have hi0 : i = 0 := by omega
    subst hi0
    clear hS
    go_enter Try.func174, Try.ntmps174
    go_wp2_with fail
    all_goals (go_ret; exact ⟨rfl, rfl⟩)
  · unfold maxLen at hcm
    have hic : i ≤ c := by omega
    clear hS hg hcs htake
    go_enter Try.func174, Try.ntmps174
    go_wp2_with fail
    all_goals (go_ret; exact ⟨rfl, rfl⟩)
theorem delM174 : DelM Try.prog 174 113 2 := by
  intro w S n vals i j hS hij hj h1
  by_cases e : i = j
  · subst e
    refine (DelNone174 w S n i vals hS hj).mono ?_
    rintro e w' ⟨rfl, rfl⟩
    refine ⟨S, rfl, by rw [Nat.sub_self, Nat.sub_zero, List.take_append_drop]; exact hS, ⟨rfl, rfl, rfl, Nat.le_refl _, fun _ _ _ => rfl⟩, fun b hb => ⟨.inr hb, own_low hS b hb⟩⟩
  · rcases hS.2 with ⟨rfl, rfl⟩ | ⟨g, c, cur, rfl, -, hg, hnc, hcm, hcs, htake⟩
    · omega
    · refine (Delete174 w g n c i j cur hg hcs hnc (by unfold maxLen at hcm; omega) (by omega) hj (by rw [htake]; exact h1)).mono ?_
      rintro e w' ⟨rfl, A, rfl, hA, ht⟩
      rw [htake] at ht
      have hgd : w.drew.heap[g]? = some (.cells cur 113 (0, 0)) := hg
      have hA2 := setRow_heap w.drew g cur A _ _ hgd
      refine ⟨_, rfl, ⟨by rw [← ht]; simp [hA, hcs]; omega, .inr ⟨g, c, A, rfl, Nat.zero_le _, hA2, by omega, hcm, by rw [hA, hcs], ht⟩⟩, ⟨rfl, rfl, rfl, drow_size w g A, fun b _ hn => ?_⟩, fun b hb => ⟨.inr hb, ?_⟩⟩
      · rw [setRow_other _ _ _ _ (fun e => hn (by subst e; simp [own1]))]; rfl
      · have : g = b := by simp only [own1] at hb; exact Classical.byContradiction fun h => hb (if_neg h)
        subst this
        exact (Array.getElem?_eq_some_iff.1 hA2).1
end Go.Proofs
namespace Go.Pi
open Go.Proofs
theorem slices_Delete_Row.ok (n : Nat) (_ : CxOk E (cx n slices_Delete_Row.d.nt)) (_ : KPar (cx n slices_Delete_Row.d.nt)) : slices_Delete_Row.d.Ok E (slices_Delete_Row.F (n + 1)) := fun _ _ h => nDel_ok (t := .iRow) (m := .d) (by decide) delM174 h
end Go.Pi
end
section
set_option linter.unusedVariables false
set_option linter.unusedSimpArgs false
namespace Go.Proofs
open Go.Shelf Go.RowKit Go.Lib Go.Pi
section
variable {P : Program}
/-- the larger row of an insertion, and what comes into it -/
theorem insGrow176 (TS TE : TypeId) (TI : TypeId) (Z : Value) (i0 : TypeInfo) (uS : P.underlying TS = some (.slice TE)) (uI : P.underlying TI = some (.int .i64)) (hi0 : P.info? TE = some i0) (hz2 : i0.zero = some Z) (hz0 : i0.size = 2) (hz1 : i0.bytes = 32) (hZK : Z.cells.size = 2)
    (w : World) (g n c i : Nat) (cur : Array Value) (hg : w.heap[g]? = some (.cells cur TE (0, 0))) (hs : cur.size = c * 2) (hnc : n ≤ c) (hi : i < n)
    (gv m vc : Nat) (curv : Array Value) (Tv : TypeId) (hgv : w.heap[gv]? = some (.cells curv Tv (0, 0))) (hmv : m * 2 ≤ curv.size) (us : List Value) (hul : us = curv.toList.take (m * 2)) (h1u : ∀ v ∈ us, v.oneCell' = true) (hm : 0 < m) (hroom : c < n + m)
    (hbig : (n + m) * 32 ≤ 140737488355328) (h1 : ∀ v ∈ cur.toList.take (n * 2), v.oneCell' = true) :
    ∃ G N W1 R1 W2 A, Hid (N = w.heap.size) ∧ n + m ≤ G ∧ G ≤ maxLen ∧
      (∀ ty, (Builtin.append_ #[TS, TI] ty #[.slice (some ⟨g, 0, none⟩) i c, .int .i64 ((n : Int) + (m : Int) - (i : Int))]).run P w = .ok (.slice (some ⟨N, 0, none⟩) (n + m) G) W1) ∧
      (∀ ty dc, (Builtin.copy_ #[TS, TS] ty #[.slice (some ⟨N, i * 2, none⟩) (n + m - i) dc, .slice (some ⟨gv, 0, none⟩) m vc]).run P W1 = .ok (goInt m) (W1.setRow N R1)) ∧
      (W1.setRow N R1).drew = W2 ∧
      (∀ ty dc sc, (Builtin.copy_ #[TS, TS] ty #[.slice (some ⟨N, (i + m) * 2, none⟩) (n + m - (i + m)) dc, .slice (some ⟨g, i * 2, none⟩) (n - i) sc]).run P W2 = .ok (goInt (n - i)) (W2.setRow N A)) ∧
      Hid (n + m ≤ G ∧ G ≤ maxLen ∧ (W2.setRow N A).heap[w.heap.size]? = some (.cells A TE (0, 0)) ∧ A.size = G * 2 ∧ A.toList.take ((n + m) * 2) = (cur.toList.take (n * 2)).take (i * 2) ++ us ++ (cur.toList.take (n * 2)).drop (i * 2) ∧ w.grownBy (W2.setRow N A) none) := by
  have hul2 : us.length = m * 2 := by rw [hul, List.length_take, Array.length_toList]; omega
  have hsz : (P.info? TE).map (·.size) = some 2 := by rw [hi0]; simp [hz0]
  have hgd : w.drew.heap[g]? = some (.cells cur TE (0, 0)) := hg
  have hgl : g < w.heap.size := (Array.getElem?_eq_some_iff.1 hg).1
  have hgvl : gv < w.heap.size := (Array.getElem?_eq_some_iff.1 hgv).1
  obtain ⟨olds, holds⟩ : ∃ olds, olds = (cur.toList.take (n * 2)).take (i * 2) := ⟨_, rfl⟩
  have hol : olds.length = i * 2 := by rw [holds]; simp [hs]; omega
  obtain ⟨G, hG⟩ : ∃ G, G = grownCap w (n + m) c TE := ⟨_, rfl⟩
  have hGn : n + m ≤ G := by rw [hG]; exact grownCap_ge w _ _ _
  have hGm : G ≤ maxLen := by rw [hG]; exact grownCap_le_maxLen w (n + m) c TE (by unfold maxLen; omega)
  obtain ⟨ROW, hROW⟩ : ∃ ROW : Array Value, ROW = olds.toArray ++ Builtin.zeroCells Z.cells (n + m - i) ++ Builtin.zeroCells Z.cells (G - (n + m)) := ⟨_, rfl⟩
  have hRl : ROW.size = G * 2 := by rw [hROW]; simp [Builtin.zeroCells, hol, hZK]; omega
  have hRt : ROW.toList.take (i * 2) = olds := by
    rw [hROW]; simp only [Array.toList_append, List.append_assoc]
    rw [List.take_append_of_le_length (by simp [hol]), List.take_of_length_le (by simp [hol])]
  have hkk : (n : Int) + (m : Int) - (i : Int) = ((n + m - i : Nat) : Int) := by omega
  have hrz : ∀ ty, (Builtin.append_ #[TS, TI] ty #[.slice (some ⟨g, 0, none⟩) i c, .int .i64 ((n : Int) + (m : Int) - (i : Int))]).run P w =
      .ok (.slice (some ⟨w.heap.size, 0, none⟩) (n + m) G) (w.drew.alloc (.cells ROW TE)) := fun ty => by
    have h := Lib.run_append_grow_zeros (P := P) w TS TI ty TE i0 _ .i64 .i64 uS uI hi0 hz2 (some ⟨g, 0, none⟩) i c olds (by
      rw [hz0]
      exact run_firstCells_some w.drew 2 i ⟨g, 0, none⟩ i c olds hol (fun j v hj => by
        have hj2 := (List.getElem?_eq_some_iff.1 hj).1
        rw [holds, List.getElem?_take_of_lt (by omega), List.getElem?_take_of_lt (by omega), Array.getElem?_toList] at hj
        rw [Addr.add_lit, Nat.zero_add]
        simp only [World.cell?, hgd]
        exact hj)) (n + m - i) (by omega) (by omega) (by omega) (by omega) (by rw [hz1]; omega) (by rw [hz1, show i + (n + m - i) = n + m by omega]; exact growslice_fits hroom hbig)
    rw [show i + (n + m - i) = n + m by omega, ← hG, ← hROW] at h
    rw [hkk]
    exact h
  obtain ⟨N, hN⟩ : ∃ N, N = w.heap.size := ⟨_, rfl⟩
  rw [← hN] at hrz
  obtain ⟨W1, hW1⟩ : ∃ W1, W1 = w.drew.alloc (.cells ROW TE) := ⟨_, rfl⟩
  rw [← hW1] at hrz
  have hN1 : W1.heap[N]? = some (.cells ROW TE (0, 0)) := by rw [hW1, hN]; exact heap_alloc_new w.drew _
  have hold : ∀ b, b < w.heap.size → W1.heap[b]? = w.heap[b]? := fun b hb => by rw [hW1]; exact heap_alloc_old w.drew _ hb
  have hgr1 : w.grownBy W1 none := by rw [hW1]; exact ⟨rfl, rfl, rfl, by simp, fun k hk _ => heap_alloc_old w.drew _ hk⟩
  obtain ⟨R1, hR1⟩ : ∃ R1, R1 = (ROW.toList.take (i * 2) ++ us ++ ROW.toList.drop (i * 2 + us.length)).toArray := ⟨_, rfl⟩
  have hR1s : R1.size = G * 2 := by rw [hR1]; simp [hul2, hRl]; omega
  have hcp1 : ∀ ty dc, (Builtin.copy_ #[TS, TS] ty #[.slice (some ⟨N, i * 2, none⟩) (n + m - i) dc, .slice (some ⟨gv, 0, none⟩) m vc]).run P W1 = .ok (goInt m) (W1.setRow N R1) := fun ty dc => by
    have := run_copy_rowK (P := P) W1 TS TS ty TE 2 N (i * 2) (n + m - i) dc ⟨gv, 0, none⟩ m vc ROW TE us uS hsz hN1 (by rw [hul2]; simp only [Nat.min_def]; split <;> omega)
      (fun j v hj => by
        have hj2 := (List.getElem?_eq_some_iff.1 hj).1
        rw [hul, List.getElem?_take_of_lt (by omega), Array.getElem?_toList] at hj
        rw [Addr.add_lit, Nat.zero_add]
        simp only [World.cell?, hold gv hgvl, hgv]
        exact hj) (by rw [hul2, hRl]; omega) h1u
    rw [this, hR1]
    congr 2
    simp only [Nat.min_def]; split <;> omega
  obtain ⟨W2, hW2⟩ : ∃ W2, W2 = (W1.setRow N R1).drew := ⟨_, rfl⟩
  have hN2 : W2.heap[N]? = some (.cells R1 TE (0, 0)) := by rw [hW2]; exact setRow_heap _ _ _ _ _ _ hN1
  have hg2 : W2.heap[g]? = some (.cells cur TE (0, 0)) := by
    rw [hW2]; show (W1.setRow N R1).heap[g]? = _
    rw [setRow_other _ _ _ _ (by omega), hold g hgl]; exact hg
  obtain ⟨mv, hmv2⟩ : ∃ mv, mv = (cur.toList.take (n * 2)).drop (i * 2) := ⟨_, rfl⟩
  have hml : mv.length = (n - i) * 2 := by rw [hmv2]; simp [hs]; omega
  obtain ⟨A, hA⟩ : ∃ A, A = (R1.toList.take ((i + m) * 2) ++ mv ++ R1.toList.drop ((i + m) * 2 + mv.length)).toArray := ⟨_, rfl⟩
  have hcp2 : ∀ ty dc sc, (Builtin.copy_ #[TS, TS] ty #[.slice (some ⟨N, (i + m) * 2, none⟩) (n + m - (i + m)) dc, .slice (some ⟨g, i * 2, none⟩) (n - i) sc]).run P W2 = .ok (goInt (n - i)) (W2.setRow N A) := fun ty dc sc => by
    have := run_copy_rowK (P := P) W2 TS TS ty TE 2 N ((i + m) * 2) (n + m - (i + m)) dc ⟨g, i * 2, none⟩ (n - i) sc R1 TE mv uS hsz hN2 (by rw [hml]; simp only [Nat.min_def]; split <;> omega)
      (fun j v hj => by
        have hj2 := (List.getElem?_eq_some_iff.1 hj).1
        rw [hmv2, List.getElem?_drop, List.getElem?_take_of_lt (by omega), Array.getElem?_toList] at hj
        rw [Addr.add_lit]
        simp only [World.cell?, hg2]
        exact hj) (by rw [hml, hR1s]; omega) (fun v hv => h1 v (by rw [hmv2] at hv; exact List.mem_of_mem_drop hv))
    rw [this, hA]
    congr 2
    simp only [Nat.min_def]; split <;> omega
  have kA : Hid (n + m ≤ G ∧ G ≤ maxLen ∧ (W2.setRow N A).heap[w.heap.size]? = some (.cells A TE (0, 0)) ∧ A.size = G * 2 ∧ A.toList.take ((n + m) * 2) = (cur.toList.take (n * 2)).take (i * 2) ++ us ++ (cur.toList.take (n * 2)).drop (i * 2) ∧ w.grownBy (W2.setRow N A) none) := by
    refine ⟨hGn, hGm, by rw [← hN]; exact setRow_heap _ _ _ _ _ _ hN2, by rw [hA]; simp [hml, hR1s]; omega, ?_, ?_⟩
    · have e1 : R1.toList.take ((i + m) * 2) = olds ++ us := by
        rw [hR1]; simp only [List.toList_toArray]
        rw [List.take_append_of_le_length (by simp [hul2, hRl]; omega), List.take_of_length_le (by simp [hul2, hRl]; omega), hRt]
      rw [hA]; simp only [List.toList_toArray]
      rw [e1, List.take_append_of_le_length (by simp [hol, hul2, hml]; omega), List.take_of_length_le (by simp [hol, hul2, hml]; omega), holds, hmv2]
    · refine ⟨by rw [hW2]; exact hgr1.os, by rw [hW2]; exact hgr1.tape, by rw [hW2]; exact hgr1.output, ?_, fun k hk hne => ?_⟩
      · have : (W2.setRow N A).heap.size = W1.heap.size := by rw [hW2]; simp [World.setRow, World.drew]
        rw [this]; exact hgr1.size
      · rw [setRow_other _ _ _ _ (by omega), hW2]
        show (W1.setRow N R1).heap[k]? = _
        rw [setRow_other _ _ _ _ (by omega)]; exact hold k hk
  exact ⟨G, N, W1, R1, W2, A, hN, hGn, hGm, hrz, hcp1, hW2.symm, hcp2, kA⟩
end
set_option maxRecDepth 1000000 in
theorem InsEnd176 (w : World) (S : Value) (n : Nat) (vals : List Value) (hS : w.ownsRow 0 113 2 S n vals) (gv m vc : Nat) (us : List Value) (hul : us.length = m * 2) (hus : ∀ j u, us[j]? = some u → w.cell? ⟨gv, j, none⟩ = some u) (h1u : ∀ v ∈ us, v.oneCell' = true) (hm : 0 < m) (hb : (n + m) * 32 ≤ 140737488355328) :
    Calls Try.prog 176 #[S, .int .i64 n, .slice (some ⟨gv, 0, none⟩) m vc] w fun e w' => ∃ R, e = .returned R ∧ w'.ownsRow 0 113 2 R (n + m) (vals ++ us) ∧ GrewC w w' (fun b => own1 S b ≠ 0) ∧
      ∀ b, own1 R b ≠ 0 → (w.heap.size ≤ b ∨ own1 S b ≠ 0) ∧ b < w'.heap.size := by
  obtain ⟨i0, hi0⟩ := Option.isSome_iff_exists.1 (show (Try.prog.info? 113).isSome = true by kernel_rfl)
  have hz0 : i0.size = 2 := by
    have : (Try.prog.info? 113).map (·.size) = some 2 := by kernel_rfl
    rw [hi0] at this; simpa using this
  have hz1 : i0.bytes = 32 := by
    have : (Try.prog.info? 113).map (·.bytes) = some 32 := by kernel_rfl
    rw [hi0] at this; simpa using this
  have hz2 : i0.zero = some (.agg #[.int .i64 0, .slice none 0 0]) := by
    have : (Try.prog.info? 113).bind (·.zero) = some (.agg #[.int .i64 0, .slice none 0 0]) := by kernel_rfl
    rw [hi0] at this; simpa using this
  have hz3 : ¬ ((m : Int) = 0) := by omega
  have mixed : Try.prog.follows .mixedOrders = true := by kernel_rfl
  have key : ∀ ty, ∃ v' w', (Builtin.append_ #[42, 42] ty #[S, .slice (some ⟨gv, 0, none⟩) m vc]).run Try.prog w = .ok v' w' ∧ w'.ownsRow 0 113 2 v' (n + m) (vals ++ us) ∧ GrewC w w' (fun b => own1 S b ≠ 0) ∧
      ∀ b, own1 v' b ≠ 0 → (w.heap.size ≤ b ∨ own1 S b ≠ 0) ∧ b < w'.heap.size := fun ty => by
    have := run_append_at (P := Try.prog) w 42 ty 113 i0 _ Try.underlying42 hi0 hz2 (by rw [hz0]; rfl) (by rw [hz0]; decide) S n vals (by rw [hz0]; exact hS) (.slice (some ⟨gv, 0, none⟩) m vc) m us (by rw [hz0]; exact hul) (.inl ⟨_, _, rfl, fun j u h => by rw [Addr.add_lit, Nat.zero_add]; exact hus j u h⟩) h1u (by unfold maxLen; omega) (by rw [hz1]; exact hb)
    rw [hz0] at this
    exact this
  obtain ⟨v', w', k1, k2, k3⟩ := key 42
  rcases hS.2 with ⟨rfl, rfl⟩ | ⟨g, c, cur, rfl, -, hg, hnc, hcm, hcs, htake⟩
  · clear key hS hus hz2 hi0 hz0 hz1
    go_enter Try.func176, Try.ntmps176
    go_wp2_with (at_builtin; refine Lib.wpList_append_run _ rfl _ _ 42 42 rfl _ _ rfl rfl _ _ k1 ?_)
    go_ret
    exact ⟨_, rfl, k2, k3⟩
  · clear key hS hus hz2 hg htake hcs hi0 hz0 hz1
    unfold maxLen at hcm
    go_enter Try.func176, Try.ntmps176
    go_wp2_with (at_builtin; refine Lib.wpList_append_run _ rfl _ _ 42 42 rfl _ _ rfl rfl _ _ k1 ?_)
    all_goals (go_ret; exact ⟨_, rfl, k2, k3⟩)
set_option maxRecDepth 1000000 in
theorem InsNone176 (w : World) (S : Value) (n i : Nat) (vals : List Value) (hS : w.ownsRow 0 113 2 S n vals) (U : Value) (us : List Value) (hU : w.ownsRow 0 113 2 U 0 us) (hi : i ≤ n) :
    Calls Try.prog 176 #[S, .int .i64 i, U] w fun e w' => e = .returned S ∧ w' = w := by
  rcases hS.2 with ⟨rfl, rfl⟩ | ⟨g, c, cur, rfl, -, hg, hnc, hcm, hcs, htake⟩
  · have hi0 : i = 0 := by omega
    subst hi0
    rcases hU.2 with ⟨rfl, -⟩ | ⟨gv, vc, curv, rfl, -, hgv, hmc, hcm, hcs, htake⟩
    · clear hS hU
      go_enter Try.func176, Try.ntmps176
      go_wp2_with fail
      go_ret
      exact ⟨rfl, rfl⟩
    · clear hS hU hgv hcs htake
      go_enter Try.func176, Try.ntmps176
      go_wp2_with fail
      go_ret
      exact ⟨rfl, rfl⟩
  · unfold maxLen at hcm
    have hic : i ≤ c := by omega
    rcases hU.2 with ⟨rfl, -⟩ | ⟨gv, vc, curv, rfl, -, hgv, hmc, hcm2, hcs2, htake2⟩
    · clear hS hU hg hcs htake
      go_enter Try.func176, Try.ntmps176
      go_wp2_with fail
      all_goals (go_ret; exact ⟨rfl, rfl⟩)
    · clear hS hU hg hcs htake hgv hcs2 htake2
      go_enter Try.func176, Try.ntmps176
      go_wp2_with fail
      all_goals (go_ret; exact ⟨rfl, rfl⟩)
set_option maxRecDepth 1000000 in
theorem InsShift176 (w : World) (g n c i : Nat) (cur : Array Value) (hg : w.heap[g]? = some (.cells cur 113 (0, 0))) (hs : cur.size = c * 2) (hc : c ≤ 9223372036854775807) (hi : i < n)
    (gv m vc : Nat) (curv : Array Value) (Tv : TypeId) (hgv : w.heap[gv]? = some (.cells curv Tv (0, 0))) (hmv : m * 2 ≤ curv.size) (hne : gv ≠ g) (us : List Value) (hul : us = curv.toList.take (m * 2)) (h1u : ∀ v ∈ us, v.oneCell' = true) (hm : 0 < m) (hroom : n + m ≤ c)
    (h1 : ∀ v ∈ cur.toList.take (n * 2), v.oneCell' = true) :
    Calls Try.prog 176 #[.slice (some ⟨g, 0, none⟩) n c, .int .i64 i, .slice (some ⟨gv, 0, none⟩) m vc] w fun e w' => e = .returned (.slice (some ⟨g, 0, none⟩) (n + m) c) ∧
      ∃ A, w' = w.drew.setRow g A ∧ A.size = cur.size ∧ A.toList.take ((n + m) * 2) = (cur.toList.take (n * 2)).take (i * 2) ++ us ++ (cur.toList.take (n * 2)).drop (i * 2) := by
  have hsz : (Try.prog.info? 113).map (·.size) = some 2 := by kernel_rfl
  have hul2 : us.length = m * 2 := by rw [hul, List.length_take, Array.length_toList]; omega
  have hov : ∀ lb cb, (callFunc 180 #[.slice (some ⟨gv, 0, none⟩) m vc, .slice (some ⟨g, (i + m) * 2, none⟩) lb cb]).run Try.prog w = .ok (.value (.bool false)) w := fun lb cb => by
    rw [run_callFunc_extern Try.func180 (by kernel_rfl) (by kernel_rfl) (by kernel_rfl) (e := Extern.SlicesOverlaps.overlaps #[42, 42] #[4]) (by kernel_rfl),
      Lib.run_overlaps_apart w 42 4 113 Try.underlying42 2 Try.sizeOf113 ⟨gv, 0, none⟩ ⟨g, (i + m) * 2, none⟩ m vc lb cb hne Tv 113 curv.size cur.size (by simp [World.shape?, hgv]) (by simp [World.shape?, hg]) (by omega) (by simp [World.frozen?, hgv]) (by simp [World.frozen?, hgv])]
    rfl
  obtain ⟨mv, hmv2⟩ : ∃ mv, mv = (cur.toList.take (n * 2)).drop (i * 2) := ⟨_, rfl⟩
  have hml : mv.length = (n - i) * 2 := by rw [hmv2]; simp [hs]; omega
  have hgd : w.drew.heap[g]? = some (.cells cur 113 (0, 0)) := hg
  obtain ⟨B, hB⟩ : ∃ B, B = (cur.toList.take ((i + m) * 2) ++ mv ++ cur.toList.drop ((i + m) * 2 + mv.length)).toArray := ⟨_, rfl⟩
  have hcp1 : ∀ ty dc sc, (Builtin.copy_ #[42, 42] ty #[.slice (some ⟨g, (i + m) * 2, none⟩) (n + m - (i + m)) dc, .slice (some ⟨g, i * 2, none⟩) (n + m - i) sc]).run Try.prog w.drew = .ok (goInt (n - i)) (w.drew.setRow g B) := fun ty dc sc => by
    have := run_copy_rowK (P := Try.prog) w.drew 42 42 ty 113 2 g ((i + m) * 2) (n + m - (i + m)) dc ⟨g, i * 2, none⟩ (n + m - i) sc cur 113 mv Try.underlying42 hsz hgd (by rw [hml]; simp only [Nat.min_def]; split <;> omega)
      (fun j v hj => by
        have hj2 := (List.getElem?_eq_some_iff.1 hj).1
        rw [hmv2, List.getElem?_drop, List.getElem?_take_of_lt (by omega), Array.getElem?_toList] at hj
        rw [Addr.add_lit]
        simp only [World.cell?, hgd]
        exact hj) (by rw [hml, hs]; omega) (fun v hv => h1 v (by rw [hmv2] at hv; exact List.mem_of_mem_drop hv))
    rw [this, hB]
    congr 2
    simp only [Nat.min_def]; split <;> omega
  have hBs : B.size = cur.size := by rw [hB]; simp [hml, hs]; omega
  have hgB : (w.drew.setRow g B).heap[g]? = some (.cells B 113 (0, 0)) := setRow_heap _ _ _ _ _ _ hgd
  obtain ⟨A, hA⟩ : ∃ A, A = (B.toList.take (i * 2) ++ us ++ B.toList.drop (i * 2 + us.length)).toArray := ⟨_, rfl⟩
  have hcp2 : ∀ ty dc, (Builtin.copy_ #[42, 42] ty #[.slice (some ⟨g, i * 2, none⟩) (n + m - i) dc, .slice (some ⟨gv, 0, none⟩) m vc]).run Try.prog (w.drew.setRow g B) = .ok (goInt m) (w.drew.setRow g A) := fun ty dc => by
    have := run_copy_rowK (P := Try.prog) (w.drew.setRow g B) 42 42 ty 113 2 g (i * 2) (n + m - i) dc ⟨gv, 0, none⟩ m vc B 113 us Try.underlying42 hsz hgB (by rw [hul2]; simp only [Nat.min_def]; split <;> omega)
      (fun j v hj => by
        have hj2 := (List.getElem?_eq_some_iff.1 hj).1
        rw [hul, List.getElem?_take_of_lt (by omega), Array.getElem?_toList] at hj
        rw [Addr.add_lit, Nat.zero_add]
        have e : (w.drew.setRow g B).heap[gv]? = some (.cells curv Tv (0, 0)) := by rw [setRow_other _ _ _ _ hne]; exact hgv
        simp only [World.cell?, e]
        exact hj) (by rw [hul2, hBs, hs]; omega) h1u
    rw [this, hA, setRow_setRow]
    congr 2
    simp only [Nat.min_def]; split <;> omega
  have kA : Hid (A.size = cur.size ∧ A.toList.take ((n + m) * 2) = (cur.toList.take (n * 2)).take (i * 2) ++ us ++ mv) := by
    have e1 : B.toList.take (i * 2) = (cur.toList.take (n * 2)).take (i * 2) := by
      rw [hB]; simp only [List.toList_toArray, List.append_assoc]
      rw [List.take_append_of_le_length (by simp [hs]; omega), List.take_take, List.take_take]
      congr 1; omega
    have e2 : (B.toList.drop (i * 2 + us.length)).take mv.length = mv := by
      rw [hB]; simp only [List.toList_toArray, List.append_assoc]
      rw [List.drop_append, List.drop_eq_nil_of_le (by simp [hul2, hs]; omega), List.nil_append, List.length_take, show i * 2 + us.length - min ((i + m) * 2) cur.toList.length = 0 by simp [hul2, hs]; omega, List.drop_zero, List.take_append_of_le_length (Nat.le_refl _), List.take_of_length_le (Nat.le_refl _)]
    refine ⟨by rw [hA]; simp [hul2, hBs, hs]; omega, ?_⟩
    rw [hA]; simp only [List.toList_toArray]
    rw [List.take_append, List.take_of_length_le (by simp [hul2, hBs, hs]; omega), e1]
    congr 1
    rw [show (n + m) * 2 - (List.take (i * 2) (List.take (n * 2) cur.toList) ++ us).length = mv.length by simp [hul2, hml, hs]; omega]
    exact e2
  rw [hmv2] at kA
  have hnc : n ≤ c := by omega
  have hic : i ≤ c := by omega
  have hz1 : ¬ ((m : Int) = 0) := by omega
  have hz2 : ¬ ((i : Int) = (n : Int)) := by omega
  have mixed : Try.prog.follows .mixedOrders = true := by kernel_rfl
  have hw1 : IntKind.i64.wrap ((i : Int) + (m : Int)) = (i : Int) + (m : Int) := by rw [IntKind.wrap_i64]; omega
  have hb1 : (0 : Int) ≤ (i : Int) + (m : Int) := by omega
  have hin : i ≤ n := by omega
  have htn : ((i : Int) + (m : Int)).toNat = i + m := by omega
  have hb2 : ¬ (c = i + m) := by omega
  have hb3 : (i : Int) ≤ (n : Int) + (m : Int) := by omega
  have hb4 : ¬ (c = i) := by omega
  clear hB hBs hgB hA hmv2 hml hgd hg hgv hul hul2 h1 h1u hsz hs hmv
  go_enter Try.func176, Try.ntmps176
  go_wp2_with (simp only [hov])
  go_region_law_o (refine step_copy_runI rfl _ _ 42 42 rfl _ _ (by simp [Act.eval, Act.put]) (by simp [Act.eval, Act.put]) (hcp1 _ _ _) ?_)
  go_wp2_with (at_builtin; refine wpList_copy_runI _ rfl _ _ 42 42 rfl _ _ rfl rfl (hcp2 _ _) ?_)
  go_ret
  exact ⟨rfl, A, rfl, kA.out.1, kA.out.2⟩
set_option maxRecDepth 1000000 in
theorem InsGrow176 (w : World) (g n c i : Nat) (cur : Array Value) (hg : w.heap[g]? = some (.cells cur 113 (0, 0))) (hs : cur.size = c * 2) (hnc : n ≤ c) (hi : i < n)
    (gv m vc : Nat) (curv : Array Value) (Tv : TypeId) (hgv : w.heap[gv]? = some (.cells curv Tv (0, 0))) (hmv : m * 2 ≤ curv.size) (us : List Value) (hul : us = curv.toList.take (m * 2)) (h1u : ∀ v ∈ us, v.oneCell' = true) (hm : 0 < m) (hroom : c < n + m)
    (hbig : (n + m) * 32 ≤ 140737488355328) (h1 : ∀ v ∈ cur.toList.take (n * 2), v.oneCell' = true) :
    Calls Try.prog 176 #[.slice (some ⟨g, 0, none⟩) n c, .int .i64 i, .slice (some ⟨gv, 0, none⟩) m vc] w fun e w' => ∃ C A, e = .returned (.slice (some ⟨w.heap.size, 0, none⟩) (n + m) C) ∧ n + m ≤ C ∧ C ≤ maxLen ∧
      w'.heap[w.heap.size]? = some (.cells A 113 (0, 0)) ∧ A.size = C * 2 ∧ A.toList.take ((n + m) * 2) = (cur.toList.take (n * 2)).take (i * 2) ++ us ++ (cur.toList.take (n * 2)).drop (i * 2) ∧ w.grownBy w' none := by
  obtain ⟨i0, hi0⟩ := Option.isSome_iff_exists.1 (show (Try.prog.info? 113).isSome = true by kernel_rfl)
  have hz0 : i0.size = 2 := by
    have : (Try.prog.info? 113).map (·.size) = some 2 := by kernel_rfl
    rw [hi0] at this; simpa using this
  have hz1 : i0.bytes = 32 := by
    have : (Try.prog.info? 113).map (·.bytes) = some 32 := by kernel_rfl
    rw [hi0] at this; simpa using this
  have hz2 : i0.zero = some (.agg #[.int .i64 0, .slice none 0 0]) := by
    have : (Try.prog.info? 113).bind (·.zero) = some (.agg #[.int .i64 0, .slice none 0 0]) := by kernel_rfl
    rw [hi0] at this; simpa using this
  obtain ⟨G, N, W1, R1, W2, A, hNN, hGn, hGm, hrz, hcp1, hW2', hcp2, kA⟩ := insGrow176 42 113 3 _ i0 Try.underlying42 Try.underlying3 hi0 hz2 hz0 hz1 rfl w g n c i cur hg hs hnc hi gv m vc curv Tv hgv hmv us hul h1u hm hroom hbig h1
  have hic : i ≤ c := by omega
  have hz3 : ¬ ((m : Int) = 0) := by omega
  have hz4 : ¬ ((i : Int) = (n : Int)) := by omega
  have hz5 : (c : Int) < (n : Int) + (m : Int) := by omega
  have mixed : Try.prog.follows .mixedOrders = true := by kernel_rfl
  have hG63 : G ≤ 9223372036854775807 := by unfold maxLen at hGm; omega
  have hw1 : IntKind.i64.wrap ((n : Int) + (m : Int)) = (n : Int) + (m : Int) := by rw [IntKind.wrap_i64]; omega
  have hw2 : IntKind.i64.wrap ((n : Int) + (m : Int) - (i : Int)) = (n : Int) + (m : Int) - (i : Int) := by rw [IntKind.wrap_i64]; omega
  have hw3 : IntKind.i64.wrap ((i : Int) + (m : Int)) = (i : Int) + (m : Int) := by rw [IntKind.wrap_i64]; omega
  have hb1 : (0 : Int) ≤ (i : Int) + (m : Int) := by omega
  have htn : ((i : Int) + (m : Int)).toNat = i + m := by omega
  have hGi : ¬ (G = i) := by omega
  have hGim : ¬ (G = i + m) := by omega
  have hb3 : (i : Int) ≤ (n : Int) + (m : Int) := by omega
  have hb4 : ¬ (c = i) := by omega
  have hinm : i ≤ n + m := by omega
  have himn : i + m ≤ n + m := by omega
  have hin : i ≤ n := by omega
  clear hul h1 h1u hg hgv hs hmv hz0 hz1 hz2 hi0 hbig
  go_enter Try.func176, Try.ntmps176
  go_wp2_with (at_builtin; refine Lib.wpList_append_run _ rfl _ _ 42 3 rfl _ _ rfl rfl _ _ (hrz _) ?_)
  go_region_law_o (simp only [hW2']; refine step_copy_runI rfl _ _ 42 42 rfl _ _ (by simp [Act.eval, Act.put]) (by simp [Act.eval, Act.put]) (hcp2 _ _ _) ?_)
  go_wp2_with fail
  go_ret
  exact ⟨G, A, by rw [hNN.out]; rfl, kA.out⟩
theorem insM176 : InsM Try.prog 176 113 2 32 := by
  intro w S n vals U m us i hS hU hdis hi h1 h1u hb
  have hvl := hS.1
  by_cases hm : m = 0
  · subst hm
    have hus : us = [] := by have := hU.1; rw [Nat.zero_mul] at this; exact List.eq_nil_of_length_eq_zero this
    subst hus
    refine (InsNone176 w S n i vals hS U [] hU hi).mono ?_
    rintro e w' ⟨rfl, rfl⟩
    refine ⟨S, rfl, by rw [List.append_nil, List.take_append_drop]; exact hS, ⟨rfl, rfl, rfl, Nat.le_refl _, fun _ _ _ => rfl⟩, fun b hb => ⟨.inr hb, own_low hS b hb⟩⟩
  · rcases hU.2 with ⟨rfl, h0⟩ | ⟨gv, vc, curv, rfl, -, hgv, hmc, hcm, hcs, htake⟩
    · exact absurd h0 hm
    · by_cases hin : i = n
      · subst hin
        rw [List.take_of_length_le (by omega), List.drop_eq_nil_of_le (by omega), List.append_nil]
        exact InsEnd176 w S i vals hS gv m vc us hU.1 (fun j u h => by have := hU.cells (g := gv) rfl j u h; rwa [Addr.add_lit, Nat.zero_add] at this) h1u (by omega) hb
      · rcases hS.2 with ⟨rfl, h0⟩ | ⟨g, c, cur, rfl, -, hg, hnc, hcm', hcs', htake'⟩
        · omega
        · have hne : gv ≠ g := fun e => by subst e; have := hdis gv (by simp [own1]); simp [own1] at this
          have hmv : m * 2 ≤ curv.size := by rw [hcs]; exact Nat.mul_le_mul_right _ hmc
          by_cases hroom : n + m ≤ c
          · refine (InsShift176 w g n c i cur hg hcs' (by unfold maxLen at hcm'; omega) (by omega) gv m vc curv 113 hgv hmv hne us htake.symm h1u (by omega) hroom (by rw [htake']; exact h1)).mono ?_
            rintro e w' ⟨rfl, A, rfl, hA, ht⟩
            rw [htake'] at ht
            have hgd : w.drew.heap[g]? = some (.cells cur 113 (0, 0)) := hg
            have hA2 := setRow_heap w.drew g cur A _ _ hgd
            refine ⟨_, rfl, ⟨by rw [← ht]; simp [hA, hcs']; omega, .inr ⟨g, c, A, rfl, Nat.zero_le _, hA2, hroom, hcm', by rw [hA, hcs'], ht⟩⟩, ⟨rfl, rfl, rfl, drow_size w g A, fun b _ hn => ?_⟩, fun b hb => ⟨.inr hb, ?_⟩⟩
            · rw [setRow_other _ _ _ _ (fun e => hn (by subst e; simp [own1]))]; rfl
            · have : g = b := by simp only [own1] at hb; exact Classical.byContradiction fun h => hb (if_neg h)
              subst this
              exact (Array.getElem?_eq_some_iff.1 hA2).1
          · refine (InsGrow176 w g n c i cur hg hcs' hnc (by omega) gv m vc curv 113 hgv hmv us htake.symm h1u (by omega) (by omega) hb (by rw [htake']; exact h1)).mono ?_
            rintro e w' ⟨C, A, rfl, hC, hCm, hN, hA, ht, hgr⟩
            rw [htake'] at ht
            refine ⟨_, rfl, ⟨by rw [← ht]; simp [hA]; omega, .inr ⟨_, C, A, rfl, Nat.zero_le _, hN, hC, hCm, hA, ht⟩⟩, ⟨hgr.os, hgr.tape, hgr.output, hgr.size, fun b hb _ => hgr.block b hb (by simp)⟩, fun b hb => ?_⟩
            have : w.heap.size = b := by simp only [own1] at hb; exact Classical.byContradiction fun h => hb (if_neg h)
            subst this
            exact ⟨.inl (Nat.le_refl _), (Array.getElem?_eq_some_iff.1 hN).1⟩
end Go.Proofs
namespace Go.Pi
open Go.Proofs
theorem slices_Insert_Row.ok (n : Nat) (_ : CxOk E (cx n slices_Insert_Row.d.nt)) (_ : KPar (cx n slices_Insert_Row.d.nt)) : slices_Insert_Row.d.Ok E (slices_Insert_Row.F (n + 1)) := fun _ _ h => nIns_ok (t := .iRow) (m1 := .d) (m2 := .d) (by decide) (by decide) insM176 h
end Go.Pi
end
section
set_option linter.unusedVariables false
set_option maxRecDepth 100000
namespace Go.Pi
open Go.Proofs
theorem kpar (n nt : Nat) : KPar (cx n nt) := KH_par (l := KL n) ⟨FD.kp, FD.kp, FD.kp, FD.kp, FD.kp, FD.kp, FD.kp, FD.kp, FD.kp, FD.kp, FD.kp, FD.kp, FD.kp, FD.kp, FD.kp, FD.kp, FD.kp, FD.kp, FD.kp, FD.kp, FD.kp, FD.kp, FD.kp, FD.kp, FD.kp, FD.kp, FD.kp, FD.kp, FD.kp, FD.kp, FD.kp, FD.kp, FD.kp, FD.kp, FD.kp, FD.kp, FD.kp, FD.kp, FD.kp, FD.kp, FD.kp, FD.kp, FD.kp, FD.kp, FD.kp, FD.kp, FD.kp, FD.kp, FD.kp, FD.kp, FD.kp, FD.kp, FD.kp, FD.kp, FD.kp, FD.kp, FD.kp, FD.kp, FD.kp, FD.kp, FD.kp, FD.kp, FD.kp, FD.kp, FD.kp, FD.kp, FD.kp, FD.kp, FD.kp, FD.kp, FD.kp, FD.kp, FD.kp, FD.kp, FD.kp, FD.kp, (by
    intro ω avs κ q h
    cases hc : Nat.beq (selClo 1 avs) 153 with
    | true =>
      obtain ⟨rv, outs, h1, h2⟩ := FD.kpar (cond_t hc h)
      exact ⟨rv, outs, h1, fun ω' κ' => (cond_is hc _ _).trans (h2 ω' κ')⟩
    | false =>
      have h := cond_f hc h
      have hc0 := hc
      clear hc
      cases hc : Nat.beq (selClo 1 avs) 175 with
      | true =>
        obtain ⟨rv, outs, h1, h2⟩ := FD.kpar (cond_t hc h)
        exact ⟨rv, outs, h1, fun ω' κ' => (cond_no hc0 _ _).trans ((cond_is hc _ _).trans (h2 ω' κ'))⟩
      | false =>
        have h := cond_f hc h
        have hc1 := hc
        clear hc
        cases h), FD.kp, FD.kp, FD.kp, FD.kp, FD.kp, FD.kp, FD.kp, FD.kp, FD.kp, FD.kp, FD.kp, FD.kp, FD.kp, FD.kp, FD.kp, trivial⟩
structure AllOk (n : Nat) : Prop where
  h0 : laws_szCondS.d.Ok E (laws_szCondS.F n)
  h1 : laws_szIntS.d.Ok E (laws_szIntS.F n)
  h2 : laws_szQuery.d.Ok E (laws_szQuery.F n)
  h3 : laws_szRow.d.Ok E (laws_szRow.F n)
  h4 : laws_szRowS.d.Ok E (laws_szRowS.F n)
  h5 : laws_szKidS.d.Ok E (laws_szKidS.F n)
  h6 : laws_szView.d.Ok E (laws_szView.F n)
  h7 : laws_szSess.d.Ok E (laws_szSess.F n)
  h8 : laws_szChange.d.Ok E (laws_szChange.F n)
  h9 : laws_szChangeS.d.Ok E (laws_szChangeS.F n)
  h10 : laws_toCond.d.Ok E (laws_toCond.F n)
  h11 : laws_toCondS.d.Ok E (laws_toCondS.F n)
  h12 : laws_toIntS.d.Ok E (laws_toIntS.F n)
  h13 : laws_toQuery.d.Ok E (laws_toQuery.F n)
  h14 : laws_toRow.d.Ok E (laws_toRow.F n)
  h15 : laws_toRowS.d.Ok E (laws_toRowS.F n)
  h16 : laws_toKid.d.Ok E (laws_toKid.F n)
  h17 : laws_toKidS.d.Ok E (laws_toKidS.F n)
  h18 : laws_toView.d.Ok E (laws_toView.F n)
  h19 : laws_toSess.d.Ok E (laws_toSess.F n)
  h20 : laws_toChange.d.Ok E (laws_toChange.F n)
  h21 : laws_toChangeS.d.Ok E (laws_toChangeS.F n)
  h22 : spec_l9Copy.d.Ok E (spec_l9Copy.F n)
  h23 : spec_l6Copy.d.Ok E (spec_l6Copy.F n)
  h24 : spec_l6Rows.d.Ok E (spec_l6Rows.F n)
  h25 : spec_l13Copy.d.Ok E (spec_l13Copy.F n)
  h26 : spec_l16Copy.d.Ok E (spec_l16Copy.F n)
  h27 : spec_RowAt.d.Ok E (spec_RowAt.F n)
  h28 : spec_RowDrop.d.Ok E (spec_RowDrop.F n)
  h29 : spec_l1In.d.Ok E (spec_l1In.F n)
  h30 : spec_l9Holds.d.Ok E (spec_l9Holds.F n)
  h31 : spec_Matches.d.Ok E (spec_Matches.F n)
  h32 : spec_l9Cell.d.Ok E (spec_l9Cell.F n)
  h33 : spec_Ahead.d.Ok E (spec_Ahead.F n)
  h34 : spec_l11Put.d.Ok E (spec_l11Put.F n)
  h35 : spec_KidPut.d.Ok E (spec_KidPut.F n)
  h36 : spec_ViewChange.d.Ok E (spec_ViewChange.F n)
  h37 : spec_ViewChanges.d.Ok E (spec_ViewChanges.F n)
  h38 : spec_SessGo.d.Ok E (spec_SessGo.F n)
  h39 : impl_copyInts.d.Ok E (impl_copyInts.F n)
  h40 : impl_copyQuery.d.Ok E (impl_copyQuery.F n)
  h41 : impl_copyRow.d.Ok E (impl_copyRow.F n)
  h42 : impl_copyRows.d.Ok E (impl_copyRows.F n)
  h43 : impl_copyView.d.Ok E (impl_copyView.F n)
  h44 : impl_copySess.d.Ok E (impl_copySess.F n)
  h45 : impl_RowAt_f1.d.Ok E (impl_RowAt_f1.F n)
  h46 : slices_IndexFunc_Row_impl_RowAt_f1.d.Ok E (slices_IndexFunc_Row_impl_RowAt_f1.F n)
  h47 : impl_RowAt.d.Ok E (impl_RowAt.F n)
  h48 : slices_Delete_Row.d.Ok E (slices_Delete_Row.F n)
  h49 : impl_RowDrop.d.Ok E (impl_RowDrop.F n)
  h50 : impl_within.d.Ok E (impl_within.F n)
  h51 : impl_holds.d.Ok E (impl_holds.F n)
  h52 : impl_Matches.d.Ok E (impl_Matches.F n)
  h53 : impl_cellOf.d.Ok E (impl_cellOf.F n)
  h54 : impl_Ahead.d.Ok E (impl_Ahead.F n)
  h55 : impl_rowPut_f1.d.Ok E (impl_rowPut_f1.F n)
  h56 : slices_IndexFunc_Row_impl_rowPut_f1.d.Ok E (slices_IndexFunc_Row_impl_rowPut_f1.F n)
  h57 : slices_Insert_Row.d.Ok E (slices_Insert_Row.F n)
  h58 : impl_rowPut.d.Ok E (impl_rowPut.F n)
  h59 : slices_Insert_Kid.d.Ok E (slices_Insert_Kid.F n)
  h60 : slices_Delete_Kid.d.Ok E (slices_Delete_Kid.F n)
  h61 : impl_KidPut.d.Ok E (impl_KidPut.F n)
  h62 : impl_ViewChange.d.Ok E (impl_ViewChange.F n)
  h63 : impl_ViewChanges.d.Ok E (impl_ViewChanges.F n)
  h64 : impl_SessGo.d.Ok E (impl_SessGo.F n)
  h65 : laws_eqCond.d.Ok E (laws_eqCond.F n)
  h66 : laws_eqCondS.d.Ok E (laws_eqCondS.F n)
  h67 : laws_eqIntS.d.Ok E (laws_eqIntS.F n)
  h68 : laws_eqQuery.d.Ok E (laws_eqQuery.F n)
  h69 : laws_eqRow.d.Ok E (laws_eqRow.F n)
  h70 : laws_eqRowS.d.Ok E (laws_eqRowS.F n)
  h71 : laws_eqKid.d.Ok E (laws_eqKid.F n)
  h72 : laws_eqKidS.d.Ok E (laws_eqKidS.F n)
  h73 : laws_eqView.d.Ok E (laws_eqView.F n)
  h74 : laws_eqSess.d.Ok E (laws_eqSess.F n)
  h75 : laws_eqChange.d.Ok E (laws_eqChange.F n)
  h76 : laws_eqChangeS.d.Ok E (laws_eqChangeS.F n)
  h77 : laws_markCondS.d.Ok E (laws_markCondS.F n)
  h78 : laws_markIntS.d.Ok E (laws_markIntS.F n)
  h79 : laws_markQuery.d.Ok E (laws_markQuery.F n)
  h80 : laws_markRowS.d.Ok E (laws_markRowS.F n)
  h81 : laws_markKidS.d.Ok E (laws_markKidS.F n)
  h82 : laws_markView.d.Ok E (laws_markView.F n)
  h83 : laws_markSess.d.Ok E (laws_markSess.F n)
  h84 : laws_markChangeS.d.Ok E (laws_markChangeS.F n)
  h85 : laws_heldCondS.d.Ok E (laws_heldCondS.F n)
  h86 : laws_heldIntS.d.Ok E (laws_heldIntS.F n)
  h87 : laws_heldQuery.d.Ok E (laws_heldQuery.F n)
  h88 : laws_heldRowS.d.Ok E (laws_heldRowS.F n)
  h89 : laws_heldKidS.d.Ok E (laws_heldKidS.F n)
  h90 : laws_heldView.d.Ok E (laws_heldView.F n)
  h91 : laws_heldSess.d.Ok E (laws_heldSess.F n)
  h92 : laws_FnExactSessGo.d.Ok E (laws_FnExactSessGo.F n)
theorem kok (n nt : Nat) (a : AllOk n) : KOk E (cx n nt) := KH_ok (l := KL n) ⟨FD.kf (d := laws_FnExactSessGo.d) Try.func5 (by kernel_rfl) (by kernel_rfl) (by kernel_rfl) a.h92, FD.kf (d := laws_szSess.d) Try.func8 (by kernel_rfl) (by kernel_rfl) (by kernel_rfl) a.h7, FD.kf (d := laws_toSess.d) Try.func11 (by kernel_rfl) (by kernel_rfl) (by kernel_rfl) a.h19, FD.kf (d := laws_eqSess.d) Try.func14 (by kernel_rfl) (by kernel_rfl) (by kernel_rfl) a.h74, FD.kf (d := laws_szChangeS.d) Try.func21 (by kernel_rfl) (by kernel_rfl) (by kernel_rfl) a.h9, FD.kf (d := spec_SessGo.d) Try.func22 (by kernel_rfl) (by kernel_rfl) (by kernel_rfl) a.h38, FD.kf (d := laws_toChangeS.d) Try.func23 (by kernel_rfl) (by kernel_rfl) (by kernel_rfl) a.h21, FD.kf (d := impl_SessGo.d) Try.func24 (by kernel_rfl) (by kernel_rfl) (by kernel_rfl) a.h64, FD.kf (d := laws_eqChangeS.d) Try.func25 (by kernel_rfl) (by kernel_rfl) (by kernel_rfl) a.h76, FD.kf (d := laws_markSess.d) Try.func26 (by kernel_rfl) (by kernel_rfl) (by kernel_rfl) a.h83, FD.kf (d := laws_markChangeS.d) Try.func27 (by kernel_rfl) (by kernel_rfl) (by kernel_rfl) a.h84, FD.kf (d := laws_heldSess.d) Try.func28 (by kernel_rfl) (by kernel_rfl) (by kernel_rfl) a.h91, FD.kf (d := laws_szQuery.d) Try.func30 (by kernel_rfl) (by kernel_rfl) (by kernel_rfl) a.h2, FD.kf (d := laws_toQuery.d) Try.func33 (by kernel_rfl) (by kernel_rfl) (by kernel_rfl) a.h13, FD.kf (d := laws_eqQuery.d) Try.func36 (by kernel_rfl) (by kernel_rfl) (by kernel_rfl) a.h68, FD.kf (d := laws_markQuery.d) Try.func38 (by kernel_rfl) (by kernel_rfl) (by kernel_rfl) a.h79, FD.kf (d := laws_szIntS.d) Try.func39 (by kernel_rfl) (by kernel_rfl) (by kernel_rfl) a.h1, FD.kf (d := laws_szView.d) Try.func40 (by kernel_rfl) (by kernel_rfl) (by kernel_rfl) a.h6, FD.kf (d := spec_l1In.d) Try.func42 (by kernel_rfl) (by kernel_rfl) (by kernel_rfl) a.h29, FD.kf (d := laws_toIntS.d) Try.func45 (by kernel_rfl) (by kernel_rfl) (by kernel_rfl) a.h12, FD.kf (d := laws_toView.d) Try.func46 (by kernel_rfl) (by kernel_rfl) (by kernel_rfl) a.h18, FD.kf (d := impl_within.d) Try.func51 (by kernel_rfl) (by kernel_rfl) (by kernel_rfl) a.h50, FD.kf (d := laws_eqIntS.d) Try.func52 (by kernel_rfl) (by kernel_rfl) (by kernel_rfl) a.h67, FD.kf (d := laws_eqView.d) Try.func53 (by kernel_rfl) (by kernel_rfl) (by kernel_rfl) a.h73, FD.kf (d := laws_markIntS.d) Try.func60 (by kernel_rfl) (by kernel_rfl) (by kernel_rfl) a.h78, FD.kf (d := laws_szChange.d) Try.func65 (by kernel_rfl) (by kernel_rfl) (by kernel_rfl) a.h8, FD.kf (d := spec_l16Copy.d) Try.func66 (by kernel_rfl) (by kernel_rfl) (by kernel_rfl) a.h26, FD.kf (d := spec_ViewChanges.d) Try.func67 (by kernel_rfl) (by kernel_rfl) (by kernel_rfl) a.h37, FD.kf (d := laws_toChange.d) Try.func68 (by kernel_rfl) (by kernel_rfl) (by kernel_rfl) a.h20, FD.kf (d := impl_copySess.d) Try.func69 (by kernel_rfl) (by kernel_rfl) (by kernel_rfl) a.h44, FD.kf (d := impl_ViewChanges.d) Try.func70 (by kernel_rfl) (by kernel_rfl) (by kernel_rfl) a.h63, FD.kf (d := laws_eqChange.d) Try.func71 (by kernel_rfl) (by kernel_rfl) (by kernel_rfl) a.h75, FD.kf (d := laws_markView.d) Try.func72 (by kernel_rfl) (by kernel_rfl) (by kernel_rfl) a.h82, FD.kf (d := laws_heldView.d) Try.func73 (by kernel_rfl) (by kernel_rfl) (by kernel_rfl) a.h90, FD.kf (d := laws_szCondS.d) Try.func75 (by kernel_rfl) (by kernel_rfl) (by kernel_rfl) a.h0, FD.kf (d := laws_toCondS.d) Try.func78 (by kernel_rfl) (by kernel_rfl) (by kernel_rfl) a.h11, FD.kf (d := laws_eqCondS.d) Try.func81 (by kernel_rfl) (by kernel_rfl) (by kernel_rfl) a.h66, FD.kf (d := laws_markCondS.d) Try.func83 (by kernel_rfl) (by kernel_rfl) (by kernel_rfl) a.h77, FD.kf (d := laws_szRowS.d) Try.func84 (by kernel_rfl) (by kernel_rfl) (by kernel_rfl) a.h4, FD.kf (d := laws_szKidS.d) Try.func85 (by kernel_rfl) (by kernel_rfl) (by kernel_rfl) a.h5, FD.kf (d := spec_Matches.d) Try.func88 (by kernel_rfl) (by kernel_rfl) (by kernel_rfl) a.h31, FD.kf (d := spec_RowAt.d) Try.func89 (by kernel_rfl) (by kernel_rfl) (by kernel_rfl) a.h27, FD.kf (d := spec_Ahead.d) Try.func90 (by kernel_rfl) (by kernel_rfl) (by kernel_rfl) a.h33, FD.kf (d := laws_toRowS.d) Try.func94 (by kernel_rfl) (by kernel_rfl) (by kernel_rfl) a.h15, FD.kf (d := laws_toKidS.d) Try.func95 (by kernel_rfl) (by kernel_rfl) (by kernel_rfl) a.h17, FD.kf (d := impl_Matches.d) Try.func98 (by kernel_rfl) (by kernel_rfl) (by kernel_rfl) a.h52, FD.kf (d := impl_Ahead.d) Try.func99 (by kernel_rfl) (by kernel_rfl) (by kernel_rfl) a.h54, FD.kf (d := impl_RowAt.d) Try.func100 (by kernel_rfl) (by kernel_rfl) (by kernel_rfl) a.h47, FD.kf (d := laws_eqRowS.d) Try.func106 (by kernel_rfl) (by kernel_rfl) (by kernel_rfl) a.h70, FD.kf (d := laws_eqKidS.d) Try.func107 (by kernel_rfl) (by kernel_rfl) (by kernel_rfl) a.h72, FD.kf (d := impl_copyInts.d) Try.func112 (by kernel_rfl) (by kernel_rfl) (by kernel_rfl) a.h39, FD.kf (d := laws_markRowS.d) Try.func118 (by kernel_rfl) (by kernel_rfl) (by kernel_rfl) a.h80, FD.kf (d := laws_markKidS.d) Try.func119 (by kernel_rfl) (by kernel_rfl) (by kernel_rfl) a.h81, FD.kf (d := laws_heldCondS.d) Try.func123 (by kernel_rfl) (by kernel_rfl) (by kernel_rfl) a.h85, FD.kf (d := laws_heldIntS.d) Try.func124 (by kernel_rfl) (by kernel_rfl) (by kernel_rfl) a.h86, FD.kf (d := laws_heldRowS.d) Try.func125 (by kernel_rfl) (by kernel_rfl) (by kernel_rfl) a.h88, FD.kf (d := laws_heldKidS.d) Try.func126 (by kernel_rfl) (by kernel_rfl) (by kernel_rfl) a.h89, FD.kf (d := laws_szRow.d) Try.func127 (by kernel_rfl) (by kernel_rfl) (by kernel_rfl) a.h3, FD.kf (d := spec_l13Copy.d) Try.func128 (by kernel_rfl) (by kernel_rfl) (by kernel_rfl) a.h25, FD.kf (d := spec_ViewChange.d) Try.func129 (by kernel_rfl) (by kernel_rfl) (by kernel_rfl) a.h36, FD.kf (d := laws_toRow.d) Try.func130 (by kernel_rfl) (by kernel_rfl) (by kernel_rfl) a.h14, FD.kf (d := impl_copyView.d) Try.func131 (by kernel_rfl) (by kernel_rfl) (by kernel_rfl) a.h43, FD.kf (d := impl_ViewChange.d) Try.func132 (by kernel_rfl) (by kernel_rfl) (by kernel_rfl) a.h62, FD.kf (d := laws_eqRow.d) Try.func133 (by kernel_rfl) (by kernel_rfl) (by kernel_rfl) a.h69, FD.kf (d := laws_heldQuery.d) Try.func134 (by kernel_rfl) (by kernel_rfl) (by kernel_rfl) a.h87, FD.kf (d := spec_l9Copy.d) Try.func135 (by kernel_rfl) (by kernel_rfl) (by kernel_rfl) a.h22, FD.kf (d := spec_KidPut.d) Try.func137 (by kernel_rfl) (by kernel_rfl) (by kernel_rfl) a.h35, FD.kf (d := laws_toCond.d) Try.func138 (by kernel_rfl) (by kernel_rfl) (by kernel_rfl) a.h10, FD.kf (d := impl_copyQuery.d) Try.func139 (by kernel_rfl) (by kernel_rfl) (by kernel_rfl) a.h40, FD.kf (d := impl_KidPut.d) Try.func141 (by kernel_rfl) (by kernel_rfl) (by kernel_rfl) a.h61, FD.kf (d := laws_eqCond.d) Try.func142 (by kernel_rfl) (by kernel_rfl) (by kernel_rfl) a.h65, FD.kf (d := spec_l9Holds.d) Try.func143 (by kernel_rfl) (by kernel_rfl) (by kernel_rfl) a.h30, FD.kf (d := spec_l9Cell.d) Try.func144 (by kernel_rfl) (by kernel_rfl) (by kernel_rfl) a.h32, FD.kf (d := laws_toKid.d) Try.func145 (by kernel_rfl) (by kernel_rfl) (by kernel_rfl) a.h16, FD.kf (d := impl_holds.d) Try.func150 (by kernel_rfl) (by kernel_rfl) (by kernel_rfl) a.h51, FD.kf (d := impl_cellOf.d) Try.func151 (by kernel_rfl) (by kernel_rfl) (by kernel_rfl) a.h53, (by
    intro ω avs κ q h
    cases hc : Nat.beq (selClo 1 avs) 153 with
    | true => exact FD.kf (d := slices_IndexFunc_Row_impl_RowAt_f1.d) Try.func152 (by kernel_rfl) (by kernel_rfl) (by kernel_rfl) a.h46 _ _ _ _ (cond_t hc h)
    | false =>
      have h := cond_f hc h
      cases hc : Nat.beq (selClo 1 avs) 175 with
      | true => exact FD.kf (d := slices_IndexFunc_Row_impl_rowPut_f1.d) Try.func152 (by kernel_rfl) (by kernel_rfl) (by kernel_rfl) a.h56 _ _ _ _ (cond_t hc h)
      | false =>
        have h := cond_f hc h
        cases h), FD.kf (d := impl_RowAt_f1.d) Try.func153 (by kernel_rfl) (by kernel_rfl) (by kernel_rfl) a.h45, FD.kf (d := laws_eqKid.d) Try.func154 (by kernel_rfl) (by kernel_rfl) (by kernel_rfl) a.h71, FD.kf (d := spec_l6Rows.d) Try.func156 (by kernel_rfl) (by kernel_rfl) (by kernel_rfl) a.h24, FD.kf (d := spec_RowDrop.d) Try.func163 (by kernel_rfl) (by kernel_rfl) (by kernel_rfl) a.h28, FD.kf (d := spec_l11Put.d) Try.func164 (by kernel_rfl) (by kernel_rfl) (by kernel_rfl) a.h34, FD.kf (d := impl_copyRows.d) Try.func165 (by kernel_rfl) (by kernel_rfl) (by kernel_rfl) a.h42, FD.kf (d := impl_RowDrop.d) Try.func166 (by kernel_rfl) (by kernel_rfl) (by kernel_rfl) a.h49, FD.kf (d := impl_rowPut.d) Try.func167 (by kernel_rfl) (by kernel_rfl) (by kernel_rfl) a.h58, FD.kf (d := impl_copyRow.d) Try.func168 (by kernel_rfl) (by kernel_rfl) (by kernel_rfl) a.h41, FD.kf (d := slices_Insert_Kid.d) Try.func171 (by kernel_rfl) (by kernel_rfl) (by kernel_rfl) a.h59, FD.kf (d := slices_Delete_Kid.d) Try.func172 (by kernel_rfl) (by kernel_rfl) (by kernel_rfl) a.h60, FD.kf (d := spec_l6Copy.d) Try.func173 (by kernel_rfl) (by kernel_rfl) (by kernel_rfl) a.h23, FD.kf (d := slices_Delete_Row.d) Try.func174 (by kernel_rfl) (by kernel_rfl) (by kernel_rfl) a.h48, FD.kf (d := impl_rowPut_f1.d) Try.func175 (by kernel_rfl) (by kernel_rfl) (by kernel_rfl) a.h55, FD.kf (d := slices_Insert_Row.d) Try.func176 (by kernel_rfl) (by kernel_rfl) (by kernel_rfl) a.h57, trivial⟩
theorem cxok (n nt : Nat) (a : AllOk n) : CxOk E (cx n nt) := ⟨ttOk, tcOk, u8Ok, kok n nt a⟩
theorem allOk : ∀ n, AllOk n
  | 0 => ⟨fun _ _ h => (by cases h), fun _ _ h => (by cases h), fun _ _ h => (by cases h), fun _ _ h => (by cases h), fun _ _ h => (by cases h), fun _ _ h => (by cases h), fun _ _ h => (by cases h), fun _ _ h => (by cases h), fun _ _ h => (by cases h), fun _ _ h => (by cases h), fun _ _ h => (by cases h), fun _ _ h => (by cases h), fun _ _ h => (by cases h), fun _ _ h => (by cases h), fun _ _ h => (by cases h), fun _ _ h => (by cases h), fun _ _ h => (by cases h), fun _ _ h => (by cases h), fun _ _ h => (by cases h), fun _ _ h => (by cases h), fun _ _ h => (by cases h), fun _ _ h => (by cases h), fun _ _ h => (by cases h), fun _ _ h => (by cases h), fun _ _ h => (by cases h), fun _ _ h => (by cases h), fun _ _ h => (by cases h), fun _ _ h => (by cases h), fun _ _ h => (by cases h), fun _ _ h => (by cases h), fun _ _ h => (by cases h), fun _ _ h => (by cases h), fun _ _ h => (by cases h), fun _ _ h => (by cases h), fun _ _ h => (by cases h), fun _ _ h => (by cases h), fun _ _ h => (by cases h), fun _ _ h => (by cases h), fun _ _ h => (by cases h), fun _ _ h => (by cases h), fun _ _ h => (by cases h), fun _ _ h => (by cases h), fun _ _ h => (by cases h), fun _ _ h => (by cases h), fun _ _ h => (by cases h), fun _ _ h => (by cases h), fun _ _ h => (by cases h), fun _ _ h => (by cases h), fun _ _ h => (by cases h), fun _ _ h => (by cases h), fun _ _ h => (by cases h), fun _ _ h => (by cases h), fun _ _ h => (by cases h), fun _ _ h => (by cases h), fun _ _ h => (by cases h), fun _ _ h => (by cases h), fun _ _ h => (by cases h), fun _ _ h => (by cases h), fun _ _ h => (by cases h), fun _ _ h => (by cases h), fun _ _ h => (by cases h), fun _ _ h => (by cases h), fun _ _ h => (by cases h), fun _ _ h => (by cases h), fun _ _ h => (by cases h), fun _ _ h => (by cases h), fun _ _ h => (by cases h), fun _ _ h => (by cases h), fun _ _ h => (by cases h), fun _ _ h => (by cases h), fun _ _ h => (by cases h), fun _ _ h => (by cases h), fun _ _ h => (by cases h), fun _ _ h => (by cases h), fun _ _ h => (by cases h), fun _ _ h => (by cases h), fun _ _ h => (by cases h), fun _ _ h => (by cases h), fun _ _ h => (by cases h), fun _ _ h => (by cases h), fun _ _ h => (by cases h), fun _ _ h => (by cases h), fun _ _ h => (by cases h), fun _ _ h => (by cases h), fun _ _ h => (by cases h), fun _ _ h => (by cases h), fun _ _ h => (by cases h), fun _ _ h => (by cases h), fun _ _ h => (by cases h), fun _ _ h => (by cases h), fun _ _ h => (by cases h), fun _ _ h => (by cases h), fun _ _ h => (by cases h)⟩
  | n + 1 => ⟨laws_szCondS.ok n (cxok n _ (allOk n)) (kpar n _), laws_szIntS.ok n (cxok n _ (allOk n)) (kpar n _), laws_szQuery.ok n (cxok n _ (allOk n)) (kpar n _), laws_szRow.ok n (cxok n _ (allOk n)) (kpar n _), laws_szRowS.ok n (cxok n _ (allOk n)) (kpar n _), laws_szKidS.ok n (cxok n _ (allOk n)) (kpar n _), laws_szView.ok n (cxok n _ (allOk n)) (kpar n _), laws_szSess.ok n (cxok n _ (allOk n)) (kpar n _), laws_szChange.ok n (cxok n _ (allOk n)) (kpar n _), laws_szChangeS.ok n (cxok n _ (allOk n)) (kpar n _), laws_toCond.ok n (cxok n _ (allOk n)) (kpar n _), laws_toCondS.ok n (cxok n _ (allOk n)) (kpar n _), laws_toIntS.ok n (cxok n _ (allOk n)) (kpar n _), laws_toQuery.ok n (cxok n _ (allOk n)) (kpar n _), laws_toRow.ok n (cxok n _ (allOk n)) (kpar n _), laws_toRowS.ok n (cxok n _ (allOk n)) (kpar n _), laws_toKid.ok n (cxok n _ (allOk n)) (kpar n _), laws_toKidS.ok n (cxok n _ (allOk n)) (kpar n _), laws_toView.ok n (cxok n _ (allOk n)) (kpar n _), laws_toSess.ok n (cxok n _ (allOk n)) (kpar n _), laws_toChange.ok n (cxok n _ (allOk n)) (kpar n _), laws_toChangeS.ok n (cxok n _ (allOk n)) (kpar n _), spec_l9Copy.ok n (cxok n _ (allOk n)) (kpar n _), spec_l6Copy.ok n (cxok n _ (allOk n)) (kpar n _), spec_l6Rows.ok n (cxok n _ (allOk n)) (kpar n _), spec_l13Copy.ok n (cxok n _ (allOk n)) (kpar n _), spec_l16Copy.ok n (cxok n _ (allOk n)) (kpar n _), spec_RowAt.ok n (cxok n _ (allOk n)) (kpar n _), spec_RowDrop.ok n (cxok n _ (allOk n)) (kpar n _), spec_l1In.ok n (cxok n _ (allOk n)) (kpar n _), spec_l9Holds.ok n (cxok n _ (allOk n)) (kpar n _), spec_Matches.ok n (cxok n _ (allOk n)) (kpar n _), spec_l9Cell.ok n (cxok n _ (allOk n)) (kpar n _), spec_Ahead.ok n (cxok n _ (allOk n)) (kpar n _), spec_l11Put.ok n (cxok n _ (allOk n)) (kpar n _), spec_KidPut.ok n (cxok n _ (allOk n)) (kpar n _), spec_ViewChange.ok n (cxok n _ (allOk n)) (kpar n _), spec_ViewChanges.ok n (cxok n _ (allOk n)) (kpar n _), spec_SessGo.ok n (cxok n _ (allOk n)) (kpar n _), impl_copyInts.ok n (cxok n _ (allOk n)) (kpar n _), impl_copyQuery.ok n (cxok n _ (allOk n)) (kpar n _), impl_copyRow.ok n (cxok n _ (allOk n)) (kpar n _), impl_copyRows.ok n (cxok n _ (allOk n)) (kpar n _), impl_copyView.ok n (cxok n _ (allOk n)) (kpar n _), impl_copySess.ok n (cxok n _ (allOk n)) (kpar n _), impl_RowAt_f1.ok n (cxok n _ (allOk n)) (kpar n _), slices_IndexFunc_Row_impl_RowAt_f1.ok n (cxok n _ (allOk n)) (kpar n _), impl_RowAt.ok n (cxok n _ (allOk n)) (kpar n _), slices_Delete_Row.ok n (cxok n _ (allOk n)) (kpar n _), impl_RowDrop.ok n (cxok n _ (allOk n)) (kpar n _), impl_within.ok n (cxok n _ (allOk n)) (kpar n _), impl_holds.ok n (cxok n _ (allOk n)) (kpar n _), impl_Matches.ok n (cxok n _ (allOk n)) (kpar n _), impl_cellOf.ok n (cxok n _ (allOk n)) (kpar n _), impl_Ahead.ok n (cxok n _ (allOk n)) (kpar n _), impl_rowPut_f1.ok n (cxok n _ (allOk n)) (kpar n _), slices_IndexFunc_Row_impl_rowPut_f1.ok n (cxok n _ (allOk n)) (kpar n _), slices_Insert_Row.ok n (cxok n _ (allOk n)) (kpar n _), impl_rowPut.ok n (cxok n _ (allOk n)) (kpar n _), slices_Insert_Kid.ok n (cxok n _ (allOk n)) (kpar n _), slices_Delete_Kid.ok n (cxok n _ (allOk n)) (kpar n _), impl_KidPut.ok n (cxok n _ (allOk n)) (kpar n _), impl_ViewChange.ok n (cxok n _ (allOk n)) (kpar n _), impl_ViewChanges.ok n (cxok n _ (allOk n)) (kpar n _), impl_SessGo.ok n (cxok n _ (allOk n)) (kpar n _), laws_eqCond.ok n (cxok n _ (allOk n)) (kpar n _), laws_eqCondS.ok n (cxok n _ (allOk n)) (kpar n _), laws_eqIntS.ok n (cxok n _ (allOk n)) (kpar n _), laws_eqQuery.ok n (cxok n _ (allOk n)) (kpar n _), laws_eqRow.ok n (cxok n _ (allOk n)) (kpar n _), laws_eqRowS.ok n (cxok n _ (allOk n)) (kpar n _), laws_eqKid.ok n (cxok n _ (allOk n)) (kpar n _), laws_eqKidS.ok n (cxok n _ (allOk n)) (kpar n _), laws_eqView.ok n (cxok n _ (allOk n)) (kpar n _), laws_eqSess.ok n (cxok n _ (allOk n)) (kpar n _), laws_eqChange.ok n (cxok n _ (allOk n)) (kpar n _), laws_eqChangeS.ok n (cxok n _ (allOk n)) (kpar n _), laws_markCondS.ok n (cxok n _ (allOk n)) (kpar n _), laws_markIntS.ok n (cxok n _ (allOk n)) (kpar n _), laws_markQuery.ok n (cxok n _ (allOk n)) (kpar n _), laws_markRowS.ok n (cxok n _ (allOk n)) (kpar n _), laws_markKidS.ok n (cxok n _ (allOk n)) (kpar n _), laws_markView.ok n (cxok n _ (allOk n)) (kpar n _), laws_markSess.ok n (cxok n _ (allOk n)) (kpar n _), laws_markChangeS.ok n (cxok n _ (allOk n)) (kpar n _), laws_heldCondS.ok n (cxok n _ (allOk n)) (kpar n _), laws_heldIntS.ok n (cxok n _ (allOk n)) (kpar n _), laws_heldQuery.ok n (cxok n _ (allOk n)) (kpar n _), laws_heldRowS.ok n (cxok n _ (allOk n)) (kpar n _), laws_heldKidS.ok n (cxok n _ (allOk n)) (kpar n _), laws_heldView.ok n (cxok n _ (allOk n)) (kpar n _), laws_heldSess.ok n (cxok n _ (allOk n)) (kpar n _), laws_FnExactSessGo.ok n (cxok n _ (allOk n)) (kpar n _)⟩
end Go.Pi
end
section
set_option linter.unusedVariables false
namespace Go.Pi
/-! ### What a law is handed: data that anybody may read -/
inductive Kd where
  | i (k : IntKind)
  | b
  | s
  | sl (t : TC)
def kdsL (P : Program) (rec_ : TypeId → Option (List Kd)) : List Field → Nat → Option (List Kd)
  | [], _ => some []
  | f :: fs, off => cond (Nat.beq f.offset off) (match rec_ f.type with
    | some ks => cond (Nat.beq (P.cellsOf f.type) ks.length) (match kdsL P rec_ fs (off + ks.length) with
      | some r => some (ks ++ r)
      | none => none) none
    | none => none) none
def kds (P : Program) (code : TypeId → Option TC) : Nat → TypeId → Option (List Kd)
  | 0, _ => none
  | d + 1, T => match P.underlying T with
    | some (.int k) => some [.i k]
    | some .bool => some [.b]
    | some .string => some [.s]
    | some (.slice e) => match code e with
      | some t => some [.sl t]
      | none => none
    | some (.struct fs) => match kdsL P (kds P code d) fs.toList 0 with
      | some ks => cond (Nat.beq (P.cellsOf T) ks.length) (some ks) none
      | none => none
    | _ => none
/-- the lengths and ranges of what is read -/
inductive Good [Coding] : AV → Prop
  | i (k n) : (Lit.int k n).wf = true → Good (.i k n)
  | b (q) : Good (.b q)
  | s (l) : l.length ≤ maxLen → Good (.s l)
  | sl (t xs) : xs.length ≤ maxLen → (∀ x ∈ xs, ∀ c ∈ Coding.enc .v t x, Good c) → Good (.sl .v t xs)
def KindOk : Kd → AV → Prop
  | .i k, a => ∃ n, a = .i k n
  | .b, a => ∃ q, a = .b q
  | .s, a => ∃ l, a = .s l
  | .sl t, a => ∃ xs, a = .sl .v t xs
def Kinded : List Kd → List AV → Prop
  | [], [] => True
  | k :: ks, a :: l => KindOk k a ∧ Kinded ks l
  | _, _ => False
section
variable {H : Type} {enc : TypeId × Value → H} {P : Program} {w : World} {spare : Nat → Bool}
/-- a cell of a kind, whose rows are read with less -/
def CellOk (enc : TypeId × Value → H) (P : Program) (w : World) (spare : Nat → Bool) (eid : TC → TypeId) (F : Nat) : Kd → Value → Prop
  | .i k, v => ∃ n, v = .int k n ∧ (Lit.int k n).wf = true
  | .b, v => ∃ q, v = .bool q
  | .s, v => ∃ s : ByteArray, v = .string s ∧ s.size ≤ maxLen
  | .sl t, v => v = .slice none 0 0 ∨ ∃ (a : Addr) (len cap N : Nat), v = .slice (some a) len cap ∧ len ≤ cap ∧ cap ≤ maxLen ∧ N < F ∧
      ∀ i, i < len → ∃ cs x, w.cells? 0 (a.add (i * P.cellsOf (eid t))) (P.cellsOf (eid t)) = some cs ∧ DataW.trod enc P w 0 spare true N (eid t) cs = some x
def CellsOk (enc : TypeId × Value → H) (P : Program) (w : World) (spare : Nat → Bool) (eid : TC → TypeId) (F : Nat) : List Kd → List Value → Prop
  | [], [] => True
  | k :: ks, v :: vs => CellOk enc P w spare eid F k v ∧ CellsOk enc P w spare eid F ks vs
  | _, _ => False
theorem CellOk.mono {eid : TC → TypeId} {F F' : Nat} (hF : F ≤ F') {k : Kd} {v : Value} (h : CellOk enc P w spare eid F k v) : CellOk enc P w spare eid F' k v := by
  cases k with
  | sl t =>
    rcases h with h | ⟨a, len, cap, N, h1, h2, h3, h4, h5⟩
    · exact .inl h
    · exact .inr ⟨a, len, cap, N, h1, h2, h3, Nat.lt_of_lt_of_le h4 hF, h5⟩
  | _ => exact h
theorem CellsOk.mono {eid : TC → TypeId} {F F' : Nat} (hF : F ≤ F') : ∀ {ks : List Kd} {vs : List Value}, CellsOk enc P w spare eid F ks vs → CellsOk enc P w spare eid F' ks vs
  | [], [], _ => trivial
  | k :: ks, v :: vs, h => ⟨h.1.mono hF, CellsOk.mono hF h.2⟩
  | [], _ :: _, h => h.elim
  | _ :: _, [], h => h.elim
theorem CellsOk.append {eid : TC → TypeId} {F : Nat} : ∀ {ks : List Kd} {vs : List Value} {ks' : List Kd} {vs' : List Value}, CellsOk enc P w spare eid F ks vs → CellsOk enc P w spare eid F ks' vs' → CellsOk enc P w spare eid F (ks ++ ks') (vs ++ vs')
  | [], [], _, _, _, h => h
  | k :: ks, v :: vs, _, _, h, h' => ⟨h.1, CellsOk.append h.2 h'⟩
  | [], _ :: _, _, _, h, _ => h.elim
  | _ :: _, [], _, _, h, _ => h.elim
theorem fields_kds {code : TypeId → Option TC} {eid : TC → TypeId} {n : Nat} {rec_ : TypeId → Option (List Kd)} {cs : List Value} (hrec : ∀ T ks cs x, rec_ T = some ks → DataW.trod enc P w 0 spare true n T cs = some x → CellsOk enc P w spare eid n ks cs) :
    ∀ (fs : List Field) (off : Nat) (ks : List Kd), kdsL P rec_ fs off = some ks → (∀ f ∈ fs, ∃ x, DataW.trod enc P w 0 spare true n f.type ((cs.drop f.offset).take (P.cellsOf f.type)) = some x) → off + ks.length = cs.length → CellsOk enc P w spare eid n ks (cs.drop off)
  | [], off, ks, h, _, hl => by
    simp only [kdsL, Option.some.injEq] at h
    subst h
    rw [List.drop_eq_nil_of_le (by simp at hl; omega)]
    trivial
  | f :: fs, off, ks, h, hx, hl => by
    simp only [kdsL] at h
    obtain ⟨h1, h2⟩ := cond_some h
    have h1 := beq_iff.1 h1
    cases hr : rec_ f.type with
    | none => rw [hr] at h2; cases h2
    | some k1 =>
      rw [hr] at h2
      obtain ⟨h3, h4⟩ := cond_some h2
      have h3 := beq_iff.1 h3
      cases hk : kdsL P rec_ fs (off + k1.length) with
      | none => rw [hk] at h4; cases h4
      | some r =>
        rw [hk] at h4
        simp only [Option.some.injEq] at h4
        subst h4
        obtain ⟨x, hx1⟩ := hx f (List.mem_cons_self ..)
        have h5 := hrec _ _ _ _ hr hx1
        have h6 := fields_kds (code := code) hrec fs (off + k1.length) r hk (fun g hg => hx g (List.mem_cons_of_mem _ hg)) (by simp at hl; omega)
        rw [h1, h3] at h5
        have : cs.drop off = (cs.drop off).take k1.length ++ cs.drop (off + k1.length) := by rw [← List.drop_drop, List.take_append_drop]
        rw [this]
        exact h5.append h6
theorem trod_kds {code : TypeId → Option TC} {eid : TC → TypeId} (hcode : ∀ e t, code e = some t → eid t = e) : ∀ (d F : Nat) (T : TypeId) (ks : List Kd) (cs : List Value) (x : DataW H × List MemPlace), kds P code d T = some ks → DataW.trod enc P w 0 spare true F T cs = some x → CellsOk enc P w spare eid F ks cs
  | 0, F, T, ks, cs, x, hk, h => by cases hk
  | d + 1, F, T, ks, cs, x, hk, h => by
    simp only [kds] at hk
    cases hu : P.underlying T with
    | none => rw [hu] at hk; cases hk
    | some u =>
      rw [hu] at hk
      cases u <;> simp only at hk <;> (try (cases hk; done))
      case bool =>
        cases hk
        obtain ⟨q, rfl, _⟩ := DataW.trod_bool hu h
        exact ⟨⟨q, rfl⟩, trivial⟩
      case int k =>
        cases hk
        obtain ⟨n, rfl, _, hw⟩ := DataW.trod_int hu h
        exact ⟨⟨n, rfl, hw⟩, trivial⟩
      case string =>
        cases hk
        obtain ⟨s, rfl, _, hs⟩ := DataW.trod_string hu h
        exact ⟨⟨s, rfl, hs⟩, trivial⟩
      case slice e =>
        cases hc : code e with
        | none => rw [hc] at hk; cases hk
        | some t =>
          rw [hc] at hk
          cases hk
          have he := hcode e t hc
          rcases DataW.trod_slice hu h with ⟨rfl, _⟩ | ⟨a, len, cap, elems, rest, n, hF, rfl, _, _, hl, hm, hlen, hel, _, _⟩
          · exact ⟨.inl rfl, trivial⟩
          · refine ⟨.inr ⟨a, len, cap, n, rfl, hl, hm, by omega, fun i hi => ?_⟩, trivial⟩
            have h1 := hel i hi
            rw [List.getElem?_eq_getElem (by omega)] at h1
            rw [Option.bind_eq_some_iff] at h1
            obtain ⟨cs, k1, k2⟩ := h1
            exact ⟨cs, _, by rw [he]; exact k1, by rw [he]; exact k2⟩
      case struct fs =>
        obtain ⟨xs, n, hF, _, hcl, hxl, hx⟩ := DataW.trod_struct hu h
        cases hks : kdsL P (kds P code d) fs.toList 0 with
        | none => rw [hks] at hk; cases hk
        | some ks' =>
          rw [hks] at hk
          obtain ⟨h1, h2⟩ := cond_some hk
          have h1 := beq_iff.1 h1
          cases h2
          subst hF
          have := fields_kds (code := code) (eid := eid) (n := n) (cs := cs) (fun T ks cs x k1 k2 => trod_kds hcode d n T ks cs x k1 k2) fs.toList 0 ks hks (fun f hf => by
            obtain ⟨i, hi⟩ := List.getElem?_of_mem hf
            have hi' : fs[i]? = some f := by simpa using hi
            have h3 := hx i f hi'
            have hlt : i < xs.length := by rw [hxl]; exact (Array.getElem?_eq_some_iff.1 hi').1
            rw [List.getElem?_eq_getElem hlt] at h3
            exact ⟨_, h3⟩) (by omega)
          exact (this.mono (Nat.le_succ n))
end
end Go.Pi
end
section
set_option linter.unusedVariables false
namespace Go.Pi
variable [Coding]
open Coding
variable {H : Type} {enc' : TypeId × Value → H} {E : Env} {w : World} {spare : Nat → Bool}
abbrev NoF : Nat → Prop := fun _ => False
omit [Coding] in
theorem sims_kinded : ∀ {ks : List Kd} {l c : List AV}, Kinded ks l → sims .v l c → c = l
  | [], [], [], _, _ => rfl
  | k :: ks, a :: l, b :: c, h, hs => by
    have e := sims_kinded h.2 hs.2
    subst e
    have h1 := h.1
    have h2 := hs.1
    cases k <;> obtain ⟨x, rfl⟩ := h1 <;> simp only [AV.sim] at h2 <;> rw [h2]
  | [], [], _ :: _, _, h => h.elim
  | [], _ :: _, _, h, _ => h.elim
  | _ :: _, [], _, h, _ => h.elim
  | _ :: _, _ :: _, [], _, h => h.elim
/-- what is asked of the table of kinds -/
structure KindsOk (E : Env) (code : TypeId → Option TC) (kinds : TC → List Kd) (d : Nat) : Prop where
  codeOk : ∀ e t, code e = some t → E.eid t = e
  kdsOk : ∀ t, kds E.P code d (E.eid t) = some (kinds t)
  dec : ∀ t l, Kinded (kinds t) l → ∃ y, dec t l = some y
  cells : ∀ t, E.P.cellsOf (E.eid t) = t.width
theorem rows_open [CodingOk] {t : TC} {N : Nat} (hel : ∀ cs x, DataW.trod enc' E.P w 0 spare true N (E.eid t) cs = some x → ∃ y : El t, RL E w NoF (enc .v t y) cs (fun _ => 0) ∧ ∀ c ∈ enc .v t y, Good c) {b o : Nat} (hW : E.P.cellsOf (E.eid t) = t.width) :
    ∀ len, (∀ i, i < len → ∃ cs x, w.cells? 0 ((⟨b, o, none⟩ : Addr).add (i * E.P.cellsOf (E.eid t))) (E.P.cellsOf (E.eid t)) = some cs ∧ DataW.trod enc' E.P w 0 spare true N (E.eid t) cs = some x) →
    ∃ (xs : List (El t)) (vals : List Value), xs.length = len ∧ vals.length = len * t.width ∧ RL E w NoF (encRows .v t xs) vals (fun _ => 0) ∧ w.rangeAt b o vals ∧ ∀ x ∈ xs, ∀ c ∈ enc .v t x, Good c
  | 0, _ => ⟨[], [], rfl, by simp, RL.nil (fun _ => 0) fun _ => rfl, fun j v h => by simp at h, fun x hx => by cases hx⟩
  | len + 1, h => by
    obtain ⟨xs, vals, h1, h2, h3, h4, h5⟩ := rows_open hel hW len fun i hi => h i (by omega)
    obtain ⟨cs, x, k1, k2⟩ := h len (Nat.lt_succ_self _)
    obtain ⟨y, j1, j2⟩ := hel cs x k2
    obtain ⟨_, hl, hc⟩ := World.cells?_some k1
    rw [hW] at hl hc
    refine ⟨xs ++ [y], vals ++ cs, by simp [h1], by rw [List.length_append, h2, hl]; exact (Nat.succ_mul _ _).symm, ?_, fun j v hj => ?_, fun x hx => ?_⟩
    · rw [encRows_append]
      refine RL.append h3 (φ' := fun _ => 0) ?_ (fun b => rfl)
      simpa [encRows] using j1
    · by_cases hlt : j < vals.length
      · rw [List.getElem?_append_left hlt] at hj
        exact h4 j v hj
      · rw [List.getElem?_append_right (by omega)] at hj
        have hjl : j - vals.length < t.width := by rw [← hl]; exact (List.getElem?_eq_some_iff.1 hj).1
        have := hc (j - vals.length) hjl
        rw [Addr.add_mid, Addr.add_mid, hj] at this
        rw [← this]
        congr 2
        omega
    · rcases List.mem_append.1 hx with hx | hx
      · exact h5 x hx
      · rw [List.mem_singleton] at hx; subst hx; exact j2
theorem cell_open [CodingOk] {code : TypeId → Option TC} {kinds : TC → List Kd} {d : Nat} (hk : KindsOk E code kinds d) {F : Nat} (ih : ∀ N, N < F → ∀ t cs x, DataW.trod enc' E.P w 0 spare true N (E.eid t) cs = some x → ∃ y : El t, RL E w NoF (enc .v t y) cs (fun _ => 0) ∧ ∀ c ∈ enc .v t y, Good c) {k : Kd} {v : Value} (h : CellOk enc' E.P w spare E.eid F k v) :
    ∃ a, KindOk k a ∧ RL E w NoF [a] [v] (fun _ => 0) ∧ Good a := by
  cases k with
  | i k => obtain ⟨n, rfl, hw⟩ := h; exact ⟨.i k n, ⟨n, rfl⟩, .scal _ _ _ _ _ rfl (.nil _ fun _ => rfl), .i _ _ hw⟩
  | b => obtain ⟨q, rfl⟩ := h; exact ⟨.b q, ⟨q, rfl⟩, .scal _ _ _ _ _ rfl (.nil _ fun _ => rfl), .b _⟩
  | s =>
    obtain ⟨s, rfl, hs⟩ := h
    refine ⟨.s s.data.toList, ⟨_, rfl⟩, .scal _ _ _ _ _ ?_ (.nil _ fun _ => rfl), .s _ ?_⟩
    · show Value.string s = .string ⟨s.data.toList.toArray⟩
      simp
    · rw [Array.length_toList]; exact hs
  | sl t =>
    rcases h with rfl | ⟨a, len, cap, N, rfl, hl, hm, hN, hel⟩
    · exact ⟨.sl .v t [], ⟨_, rfl⟩, .view t [] none 0 0 [] (fun _ => 0) _ _ _ ⟨rfl, Nat.le_refl _⟩ (.nil _ fun _ => rfl) (fun _ => rfl) (fun hp => by omega) (.nil _ fun _ => rfl), .sl _ _ (Nat.zero_le _) (fun x hx => by cases hx)⟩
    · cases len with
      | zero => exact ⟨.sl .v t [], ⟨_, rfl⟩, .view t [] (some a) 0 cap [] (fun _ => 0) _ _ _ ⟨rfl, hl⟩ (.nil _ fun _ => rfl) (fun _ => rfl) (fun hp => by omega) (.nil _ fun _ => rfl), .sl _ _ (Nat.zero_le _) (fun x hx => by cases hx)⟩
      | succ len =>
        have hW := hk.cells t
        have hpos : 0 < t.width := CodingOk.pos t
        obtain ⟨cs0, x0, k1, _⟩ := hel 0 (Nat.succ_pos _)
        obtain ⟨_, hl0, hc0⟩ := World.cells?_some k1
        have hcell := hc0 0 (by rw [hW]; exact hpos)
        rw [List.getElem?_eq_getElem (by rw [hl0, hW]; exact hpos)] at hcell
        have ha : a.spot = none := by
          have h0 : (a.add (0 * E.P.cellsOf (E.eid t))).add 0 = a := by simp [Addr.add]
          rw [h0] at hcell
          unfold World.cell? at hcell
          split at hcell
          · cases hs : a.spot with
            | none => rfl
            | some q => simp [hs] at hcell
          · cases hcell
        obtain ⟨b, o, sp⟩ := a
        simp only at ha
        subst ha
        have hb : b < w.heap.size := World.cells?_block k1 (by rw [hW]; exact hpos) |> fun h => by simpa [Addr.add] using h
        obtain ⟨xs, vals, e1, e2, e3, e4, e5⟩ := rows_open (ih N hN t) hW (len + 1) hel
        refine ⟨.sl .v t xs, ⟨_, rfl⟩, ?_, .sl _ _ (by omega) e5⟩
        exact .view t xs (some ⟨b, o, none⟩) (len + 1) cap vals (fun _ => 0) _ _ _ ⟨e1.symm, hl⟩ e3 (fun _ => rfl) (fun _ => ⟨b, o, rfl, e4, hb, fun h => h⟩) (.nil _ fun _ => rfl)
theorem cells_open [CodingOk] {code : TypeId → Option TC} {kinds : TC → List Kd} {d : Nat} (hk : KindsOk E code kinds d) {F : Nat} (ih : ∀ N, N < F → ∀ t cs x, DataW.trod enc' E.P w 0 spare true N (E.eid t) cs = some x → ∃ y : El t, RL E w NoF (enc .v t y) cs (fun _ => 0) ∧ ∀ c ∈ enc .v t y, Good c) :
    ∀ {ks : List Kd} {vs : List Value}, CellsOk enc' E.P w spare E.eid F ks vs → ∃ l, Kinded ks l ∧ RL E w NoF l vs (fun _ => 0) ∧ ∀ c ∈ l, Good c
  | [], [], _ => ⟨[], trivial, .nil _ fun _ => rfl, fun c hc => by cases hc⟩
  | k :: ks, v :: vs, h => by
    obtain ⟨a, h1, h2, h3⟩ := cell_open hk ih h.1
    obtain ⟨l, k1, k2, k3⟩ := cells_open hk ih h.2
    refine ⟨a :: l, ⟨h1, k1⟩, RL.cons h2 k2 (fun b => rfl), fun c hc => ?_⟩
    rcases List.mem_cons.1 hc with rfl | hc
    · exact h3
    · exact k3 c hc
  | [], _ :: _, h => h.elim
  | _ :: _, [], h => h.elim
theorem el_open [CodingOk] {code : TypeId → Option TC} {kinds : TC → List Kd} {d : Nat} (hk : KindsOk E code kinds d) : ∀ (F : Nat) (t : TC) (cs : List Value) (x : DataW H × List MemPlace), DataW.trod enc' E.P w 0 spare true F (E.eid t) cs = some x →
    ∃ y : El t, RL E w NoF (enc .v t y) cs (fun _ => 0) ∧ ∀ c ∈ enc .v t y, Good c := by
  intro F
  induction F using Nat.strongRecOn with
  | _ F ih =>
    intro t cs x h
    have h1 := trod_kds hk.codeOk d F _ _ _ _ (hk.kdsOk t) h
    obtain ⟨l, h2, h3, h4⟩ := cells_open hk ih h1
    obtain ⟨y, hy⟩ := hk.dec t l h2
    have h5 := CodingOk.dec .v t l y hy
    have h6 := sims_kinded h2 h5
    exact ⟨y, by rw [h6]; exact h3, by rw [h6]; exact h4⟩
/-- an argument of any of the types -/
theorem arg_open [CodingOk] {code : TypeId → Option TC} {kinds : TC → List Kd} {d : Nat} (hk : KindsOk E code kinds d) {T : TypeId} {ks : List Kd} (hT : kds E.P code d T = some ks) {v : Value} {dd : DataW H} {ps : List MemPlace} (h : DataW.Trod enc' E.P w 0 spare true T v dd ps) :
    ∃ l, Kinded ks l ∧ RL E w NoF l v.cells.toList (fun _ => 0) ∧ ∀ c ∈ l, Good c := by
  obtain ⟨F, hF⟩ := h
  exact cells_open hk (fun N _ => el_open hk N) (trod_kds hk.codeOk d F T ks _ _ hT hF)
end Go.Pi
end
section
set_option linter.unusedVariables false
namespace Go.Pi
open Go.RowKit
variable [Coding]
open Coding
omit [Coding] in
theorem kinded_cons {k : Kd} {ks : List Kd} {l : List AV} (h : Kinded (k :: ks) l) : ∃ a l', l = a :: l' ∧ KindOk k a ∧ Kinded ks l' := by
  cases l with
  | nil => exact h.elim
  | cons a l => exact ⟨a, l, rfl, h.1, h.2⟩
omit [Coding] in
theorem kinded_nil {l : List AV} (h : Kinded [] l) : l = [] := by
  cases l with
  | nil => rfl
  | cons a l => exact h.elim
def codeL (eid : TC → TypeId) : List TC → TypeId → Option TC
  | [], _ => none
  | t :: ts, e => cond (Nat.beq (eid t) e) (some t) (codeL eid ts e)
omit [Coding] in
theorem codeL_ok {eid : TC → TypeId} {e : TypeId} {t : TC} : ∀ ts, codeL eid ts e = some t → eid t = e
  | [], h => by cases h
  | u :: ts, h => by
    simp only [codeL] at h
    cases hb : Nat.beq (eid u) e with
    | true => rw [hb] at h; cases h; exact beq_iff.1 hb
    | false => rw [hb] at h; exact codeL_ok ts h
/-- a law that answers true -/
theorem law_true [CodingOk] {E : Env} {f : FuncId} {avs : List AV} {outs : List AV} {ps : List PS} (h : CallOk E f avs (.b true) outs ps) {w : World} {Vs : List Value} (hr : RL E w NoF avs Vs (fun _ => 0)) :
    Calls E.P f Vs.toArray w fun e W' => e = .returned (.bool true) ∧ Below w.heap.size w W' := by
  refine (h w NoF Vs _ hr (fun _ => Nat.zero_le _) (fun b hb => hb.elim)).mono fun e W' ⟨V, φ', he, h1, _, _, e1, e2, e3, e4, e5⟩ => ⟨?_, e1, e2, e3, e4, fun k hk => e5 k hk rfl⟩
  cases h1 with
  | scal a v l vs φ hs _ => rw [he, show V = .bool true from hs]
theorem ag_open {E : Env} {w : World} {l : List AV} {cs : Array Value} (h : RL E w NoF l (Value.agg cs).cells.toList (fun _ => 0)) {l' : List AV} {vs : List Value} (h' : RL E w NoF l' vs (fun _ => 0)) :
    RL E w NoF (.ag l :: l') (.agg cs :: vs) (fun _ => 0) := by
  have := RL.ag (E := E) (w := w) (F := NoF) l cs.toList (fun _ => 0) l' vs (fun _ => 0) (fun _ => 0) h h' (fun b => rfl)
  simpa using this
end Go.Pi
end
section
set_option linter.unusedVariables false
set_option maxRecDepth 100000
namespace Go.Pi
open Go.Proofs Go.Proofs.Ytpifpdljphobdaa
open Go.ChangeShapes Go.WideShapes Go.ChangeAt Go.RowKit
def code : TypeId → Option TC := codeL eid [.int, .u8, .str, .lCond, .lRow, .lKid, .lChange, .iCond, .iRow, .iKid, .iChange]
def kinds : TC → List Kd
  | .int => [.i .i64]
  | .u8 => [.i .u8]
  | .str => [.s]
  | .lCond => [.i .i64, .i .i64, .i .i64]
  | .lRow => [.i .i64, .sl .int]
  | .lKid => [.i .i64, .i .i64]
  | .lChange => [.i .i64, .b, .b, .i .i64, .sl .int, .i .i64, .sl .int]
  | .iCond => [.i .i64, .i .i64, .i .i64]
  | .iRow => [.i .i64, .sl .int]
  | .iKid => [.i .i64, .i .i64]
  | .iChange => [.i .i64, .b, .b, .i .i64, .sl .int, .i .i64, .sl .int]
theorem kindsOk : KindsOk E code kinds 12 where
  codeOk := fun e t h => codeL_ok _ h
  kdsOk := by intro t; cases t <;> kernel_rfl
  cells := by intro t; cases t <;> kernel_rfl
  dec := by
    intro t l h
    cases t with
    | int =>
      iterate 1 (replace h := kinded_cons h; obtain ⟨_, _, rfl, ⟨_, rfl⟩, h⟩ := h)
      replace h := kinded_nil h; subst h; exact ⟨_, rfl⟩
    | u8 =>
      iterate 1 (replace h := kinded_cons h; obtain ⟨_, _, rfl, ⟨_, rfl⟩, h⟩ := h)
      replace h := kinded_nil h; subst h; exact ⟨_, rfl⟩
    | str =>
      iterate 1 (replace h := kinded_cons h; obtain ⟨_, _, rfl, ⟨_, rfl⟩, h⟩ := h)
      replace h := kinded_nil h; subst h; exact ⟨_, rfl⟩
    | lCond =>
      iterate 3 (replace h := kinded_cons h; obtain ⟨_, _, rfl, ⟨_, rfl⟩, h⟩ := h)
      replace h := kinded_nil h; subst h; exact ⟨_, rfl⟩
    | lRow =>
      iterate 2 (replace h := kinded_cons h; obtain ⟨_, _, rfl, ⟨_, rfl⟩, h⟩ := h)
      replace h := kinded_nil h; subst h; exact ⟨_, rfl⟩
    | lKid =>
      iterate 2 (replace h := kinded_cons h; obtain ⟨_, _, rfl, ⟨_, rfl⟩, h⟩ := h)
      replace h := kinded_nil h; subst h; exact ⟨_, rfl⟩
    | lChange =>
      iterate 7 (replace h := kinded_cons h; obtain ⟨_, _, rfl, ⟨_, rfl⟩, h⟩ := h)
      replace h := kinded_nil h; subst h; exact ⟨_, rfl⟩
    | iCond =>
      iterate 3 (replace h := kinded_cons h; obtain ⟨_, _, rfl, ⟨_, rfl⟩, h⟩ := h)
      replace h := kinded_nil h; subst h; exact ⟨_, rfl⟩
    | iRow =>
      iterate 2 (replace h := kinded_cons h; obtain ⟨_, _, rfl, ⟨_, rfl⟩, h⟩ := h)
      replace h := kinded_nil h; subst h; exact ⟨_, rfl⟩
    | iKid =>
      iterate 2 (replace h := kinded_cons h; obtain ⟨_, _, rfl, ⟨_, rfl⟩, h⟩ := h)
      replace h := kinded_nil h; subst h; exact ⟨_, rfl⟩
    | iChange =>
      iterate 7 (replace h := kinded_cons h; obtain ⟨_, _, rfl, ⟨_, rfl⟩, h⟩ := h)
      replace h := kinded_nil h; subst h; exact ⟨_, rfl⟩
namespace laws_FnExactSessGo
theorem own : ownKnob Try.prog.godebug = none := by kernel_rfl
theorem laidOut : laidOutB Try.prog = true := by kernel_rfl
def Pure : Prop := ∀ (o : TSess) (append : List TChange), (∀ c ∈ ([.i .i64 o.view.q.table, .sl .v .lCond o.view.q.where_, .i .i64 o.view.q.order, .b o.view.q.down, .i .i64 o.view.q.first, .sl .v .int o.view.q.show_, .b o.view.q.kids, .i .i64 o.view.q.kidTable, .i .i64 o.view.q.kidCol, .sl .v .lRow o.view.rows, .sl .v .lKid o.view.kids, .i .i64 o.version, .i .i64 o.last.q.table, .sl .v .lCond o.last.q.where_, .i .i64 o.last.q.order, .b o.last.q.down, .i .i64 o.last.q.first, .sl .v .int o.last.q.show_, .b o.last.q.kids, .i .i64 o.last.q.kidTable, .i .i64 o.last.q.kidCol, .sl .v .lRow o.last.rows, .sl .v .lKid o.last.kids, .i .i64 o.lastVersion, .b o.began] : List AV), Good c) → (∀ c ∈ ([.sl .v .lChange append] : List AV), Good c) → ∃ n, Go.Pi.laws_FnExactSessGo n o append = some true
theorem lifted (hp : Pure) (os : Os) (started : os.Started) (H : Type) (enc : TypeId × Value → H) :
    ReturnsInHanded {} Try.checked os 5 .any (Rows.fnExactSessGoSpec.pre6 enc Try.prog Try.f5 Rows.fnExactSessGoRow.domain false) (Rows.fnExactSessGoSpec.post enc Try.prog Try.f5 false true false false) := by
  refine returnsInHanded_of_change (C := Try.checked) own started (by kernel_rfl) Try.func5
    (ChangeSpec.witness6 (enc := enc) (C := Try.checked) false ⟨#[], #[.agg #[.int .i64 0, .slice none 0 0, .int .i64 0, .bool false, .int .i64 0, .slice none 0 0, .bool false, .int .i64 0, .int .i64 0, .slice none 0 0, .slice none 0 0, .int .i64 0, .int .i64 0, .slice none 0 0, .int .i64 0, .bool false, .int .i64 0, .slice none 0 0, .bool false, .int .i64 0, .int .i64 0, .slice none 0 0, .slice none 0 0, .int .i64 0, .bool false], .slice none 0 0], []⟩ 8 (by kernel_rfl) (by kernel_rfl) (by kernel_rfl) (by kernel_rfl)) ?_
  intro W base args ds gs before hval0 hW hcnd _
  have hval : ∀ (j : Nat) t v, Try.f5.params[j]? = some t → args[j]? = some v → Value.okWide Try.prog W .any base t v := hval0
  have hW' := hW
  obtain ⟨p, q, hA0, hV, rfl, hfz, hnd⟩ := hW
  have hA : DataW.TrodAll enc Try.prog W 0 (fun _ => true) true Try.f5.params.toList args.toList ds p := hA0
  rw [Try.params5] at hA hval
  obtain ⟨v0, vs0, d0, ds0, p0, q0, hargs, rfl, rfl, h0, r0⟩ := trodAll_cons hA
  obtain ⟨v1, vs1, d1, ds1, p1, q1, rfl, rfl, rfl, h1, r1⟩ := trodAll_cons r0
  obtain ⟨rfl, rfl, rfl⟩ := trodAll_nil r1
  obtain rfl : args = #[v0, v1] := by cases args; simp_all
  obtain ⟨rfl, rfl⟩ := trodVars_none hV
  obtain ⟨c0, rfl, -⟩ := okWide_struct Try.underlying33 (hval 0 33 v0 rfl rfl)
  have lt0 : ∀ x ∈ p0, x.block < W.heap.size := by obtain ⟨m, hm⟩ := h0; exact DataW.trod_lt m _ _ _ hm
  obtain ⟨l0, k0, e0, g0⟩ := arg_open kindsOk (T := 33) (ks := [.i .i64, .sl .lCond, .i .i64, .b, .i .i64, .sl .int, .b, .i .i64, .i .i64, .sl .lRow, .sl .lKid, .i .i64, .i .i64, .sl .lCond, .i .i64, .b, .i .i64, .sl .int, .b, .i .i64, .i .i64, .sl .lRow, .sl .lKid, .i .i64, .b]) (by kernel_rfl) h0
  obtain ⟨c1, len1, cap1, rfl⟩ := okWide_slice Try.underlying67 (hval 1 67 v1 rfl rfl)
  have lt1 : ∀ x ∈ p1, x.block < W.heap.size := by obtain ⟨m, hm⟩ := h1; exact DataW.trod_lt m _ _ _ hm
  obtain ⟨l1, k1, e1, g1⟩ := arg_open kindsOk (T := 67) (ks := [.sl .lChange]) (by kernel_rfl) h1
  replace k0 := kinded_cons k0; obtain ⟨_, _, rfl, ⟨z0, rfl⟩, k0⟩ := k0
  replace k0 := kinded_cons k0; obtain ⟨_, _, rfl, ⟨z1, rfl⟩, k0⟩ := k0
  replace k0 := kinded_cons k0; obtain ⟨_, _, rfl, ⟨z2, rfl⟩, k0⟩ := k0
  replace k0 := kinded_cons k0; obtain ⟨_, _, rfl, ⟨z3, rfl⟩, k0⟩ := k0
  replace k0 := kinded_cons k0; obtain ⟨_, _, rfl, ⟨z4, rfl⟩, k0⟩ := k0
  replace k0 := kinded_cons k0; obtain ⟨_, _, rfl, ⟨z5, rfl⟩, k0⟩ := k0
  replace k0 := kinded_cons k0; obtain ⟨_, _, rfl, ⟨z6, rfl⟩, k0⟩ := k0
  replace k0 := kinded_cons k0; obtain ⟨_, _, rfl, ⟨z7, rfl⟩, k0⟩ := k0
  replace k0 := kinded_cons k0; obtain ⟨_, _, rfl, ⟨z8, rfl⟩, k0⟩ := k0
  replace k0 := kinded_cons k0; obtain ⟨_, _, rfl, ⟨z9, rfl⟩, k0⟩ := k0
  replace k0 := kinded_cons k0; obtain ⟨_, _, rfl, ⟨z10, rfl⟩, k0⟩ := k0
  replace k0 := kinded_cons k0; obtain ⟨_, _, rfl, ⟨z11, rfl⟩, k0⟩ := k0
  replace k0 := kinded_cons k0; obtain ⟨_, _, rfl, ⟨z12, rfl⟩, k0⟩ := k0
  replace k0 := kinded_cons k0; obtain ⟨_, _, rfl, ⟨z13, rfl⟩, k0⟩ := k0
  replace k0 := kinded_cons k0; obtain ⟨_, _, rfl, ⟨z14, rfl⟩, k0⟩ := k0
  replace k0 := kinded_cons k0; obtain ⟨_, _, rfl, ⟨z15, rfl⟩, k0⟩ := k0
  replace k0 := kinded_cons k0; obtain ⟨_, _, rfl, ⟨z16, rfl⟩, k0⟩ := k0
  replace k0 := kinded_cons k0; obtain ⟨_, _, rfl, ⟨z17, rfl⟩, k0⟩ := k0
  replace k0 := kinded_cons k0; obtain ⟨_, _, rfl, ⟨z18, rfl⟩, k0⟩ := k0
  replace k0 := kinded_cons k0; obtain ⟨_, _, rfl, ⟨z19, rfl⟩, k0⟩ := k0
  replace k0 := kinded_cons k0; obtain ⟨_, _, rfl, ⟨z20, rfl⟩, k0⟩ := k0
  replace k0 := kinded_cons k0; obtain ⟨_, _, rfl, ⟨z21, rfl⟩, k0⟩ := k0
  replace k0 := kinded_cons k0; obtain ⟨_, _, rfl, ⟨z22, rfl⟩, k0⟩ := k0
  replace k0 := kinded_cons k0; obtain ⟨_, _, rfl, ⟨z23, rfl⟩, k0⟩ := k0
  replace k0 := kinded_cons k0; obtain ⟨_, _, rfl, ⟨z24, rfl⟩, k0⟩ := k0
  replace k0 := kinded_nil k0; subst k0
  replace k1 := kinded_cons k1; obtain ⟨_, _, rfl, ⟨z25, rfl⟩, k1⟩ := k1
  replace k1 := kinded_nil k1; subst k1
  obtain ⟨n, hn⟩ := hp (TSess.mk (TView.mk (TQuery.mk z0 z1 z2 z3 z4 z5 z6 z7 z8) z9 z10) z11 (TView.mk (TQuery.mk z12 z13 z14 z15 z16 z17 z18 z19 z20) z21 z22) z23 z24) z25 g0 g1
  refine (law_true ((allOk n).h92 ((z0, z1, z2, z3, z4, z5, z6, z7, z8, z9, z10, z11, z12, z13, z14, z15, z16, z17, z18, z19, z20, z21, z22, z23, z24, ()), z25, ()) _ hn) (ag_open e0 (RL.cons e1 (.nil _ fun _ => rfl) (fun b => rfl)))).mono fun e W' ⟨he, bel⟩ => ?_
  subst he
  exact ⟨_, rfl, _, _, _, [], _, [], hW', trodAll_mk1 (shut_bool Try.underlying4 _), (trodAll_cons_mk (Below.trod laidOut (by kernel_rfl) (of_decide_eq_true (by kernel_rfl)) h0 bel lt0) (trodAll_cons_mk (Below.trod laidOut (by kernel_rfl) (of_decide_eq_true (by kernel_rfl)) h1 bel lt1) trodAll_mk0)), rfl, bel.frame _, fun h => by cases h⟩
theorem over (hp : Pure) : Rows.fnExactSessGoRow.holds Try.pinned (OpenSpec.ofChange Rows.fnExactSessGoSpec) :=
  OpenClaim.holds_of_wide 5 Try.f5 rfl rfl rfl rfl rfl rfl rfl ⟨rfl, rfl, rfl, rfl, rfl⟩ rfl rfl rfl rfl rfl (by kernel_rfl) Try.func5 (by kernel_rfl)
    (of_decide_eq_true (by kernel_rfl)) (by unfold Func.isWrapper; first | (rw [if_pos (by decide +kernel)]; kernel_rfl) | (rw [if_neg (by decide +kernel)]; exact ⟨rfl, rfl⟩))
    (fun os started H enc _ => lifted hp os started H enc)
end laws_FnExactSessGo
end Go.Pi
end
section
set_option linter.unusedVariables false
/-! What the functions compute, for all sizes of fuel that are large enough. -/
namespace Go.Pi
section
variable {α β : Type}
def Ev (f : Nat → Nat → Option α) (v : α) : Prop := ∃ M, ∀ n N, M ≤ n → M ≤ N → f n N = some v
theorem ev_some {v w : α} : Ev (fun _ _ => some v) w ↔ v = w :=
  ⟨fun ⟨M, h⟩ => Option.some.inj (h M M (Nat.le_refl _) (Nat.le_refl _)), fun h => ⟨0, fun _ _ _ _ => by rw [h]⟩⟩
theorem ev_iff {f : Nat → Nat → Option α} {v w : α} (h : Ev f v) : Ev f w ↔ v = w := by
  constructor
  · rintro ⟨M', h'⟩
    obtain ⟨M, h⟩ := h
    have a := h (max M M') (max M M') (by omega) (by omega)
    have b := h' (max M M') (max M M') (by omega) (by omega)
    rw [a] at b
    exact Option.some.inj b
  · rintro rfl; exact h
theorem ev_bind {f : Nat → Nat → Option α} {a : α} (h : Ev f a) {g : Nat → Nat → α → Option β} {v : β} : Ev (fun n N => (f n N).bind (g n N)) v ↔ Ev (fun n N => g n N a) v := by
  obtain ⟨M, h⟩ := h
  constructor
  · rintro ⟨M', h'⟩
    refine ⟨max M M', fun n N h1 h2 => ?_⟩
    have := h' n N (by omega) (by omega)
    simp only [h n N (by omega) (by omega), Option.bind_some] at this
    exact this
  · rintro ⟨M', h'⟩
    refine ⟨max M M', fun n N h1 h2 => ?_⟩
    simp only [h n N (by omega) (by omega), Option.bind_some]
    exact h' n N (by omega) (by omega)
theorem ev_none {v : α} : Ev (fun _ _ => none) v ↔ False := by
  simp only [iff_false]
  rintro ⟨M, h⟩
  cases h M M (Nat.le_refl _) (Nat.le_refl _)
theorem ev_cond {c : Bool} {f g : Nat → Nat → Option α} {v : α} : Ev (fun n N => cond c (f n N) (g n N)) v ↔ (c = true → Ev f v) ∧ (c = false → Ev g v) := by
  cases c <;> simp
theorem ev_inB {i : Int} {len : Nat} {f : Nat → Nat → Option α} {v : α} : Ev (fun n N => inB i len (f n N)) v ↔ (0 ≤ i ∧ i < (len : Int)) ∧ Ev f v := by
  unfold inB
  rw [ev_cond, ev_cond]
  by_cases h1 : 0 ≤ i <;> by_cases h2 : i < (len : Int) <;> simp [h1, h2, ev_none]
theorem ev_succ {f : Nat → Nat → Option α} {v : α} (h : Ev (fun n N => f (n + 1) N) v) : Ev f v := by
  obtain ⟨M, h⟩ := h
  refine ⟨M + 1, fun n N h1 h2 => ?_⟩
  obtain ⟨m, rfl⟩ : ∃ m, n = m + 1 := ⟨n - 1, by omega⟩
  exact h m N (by omega) (by omega)
theorem ev_diag {f : Nat → Nat → Option α} {v : α} (h : Ev f v) : Ev (fun n _ => f n n) v := by
  obtain ⟨M, h⟩ := h
  exact ⟨M, fun n N h1 h2 => h n n h1 h1⟩
theorem ev_round {f : Nat → Nat → Option α} {v : α} (h : Ev (fun n N => f n (N + 1)) v) : Ev f v := by
  obtain ⟨M, h⟩ := h
  refine ⟨M + 1, fun n N h1 h2 => ?_⟩
  obtain ⟨m, rfl⟩ : ∃ m, N = m + 1 := ⟨N - 1, by omega⟩
  exact h n m (by omega) (by omega)
theorem ev_ex {f : Nat → Option α} {v : α} (h : Ev (fun n _ => f n) v) : ∃ n, f n = some v := by
  obtain ⟨M, h⟩ := h
  exact ⟨M, h M M (Nat.le_refl _) (Nat.le_refl _)⟩
/-- a loop that counts up to an end -/
theorem ev_up {σ : Type} (L : Nat → Nat → Nat → σ → Option α) (F : Nat → σ → α) (I : Nat → σ → Prop) (len : Nat)
    (h : ∀ i s, I i s → i ≤ len → (∀ s', I (i + 1) s' → i < len → Ev (fun n N => L n N (i + 1) s') (F (i + 1) s')) → Ev (fun n N => L n (N + 1) i s) (F i s)) :
    ∀ s, I 0 s → Ev (fun n _ => L n n 0 s) (F 0 s) := by
  have key : ∀ d i s, d + i = len → I i s → Ev (fun n N => L n N i s) (F i s) := by
    intro d
    induction d with
    | zero => exact fun i s hd hI => ev_round (h i s hI (by omega) fun s' _ hl => absurd hl (by omega))
    | succ d ih => exact fun i s hd hI => ev_round (h i s hI (by omega) fun s' hI' _ => ih (i + 1) s' (by omega) hI')
  exact fun s hI => ev_diag (f := fun n N => L n N 0 s) (key len 0 s (by omega) hI)
/-- a loop of which only the number moves -/
theorem ev_up1 (L : Nat → Nat → Nat → Option α) (F : Nat → α) (len : Nat)
    (h : ∀ i, i ≤ len → (i < len → Ev (fun n N => L n N (i + 1)) (F (i + 1))) → Ev (fun n N => L n (N + 1) i) (F i)) :
    Ev (fun n _ => L n n 0) (F 0) :=
  ev_up (σ := Unit) (fun n N i _ => L n N i) (fun i _ => F i) (fun _ _ => True) len (fun i s _ hi k => h i hi fun hl => k () trivial hl) () trivial
end
/-- the most that a list holds -/
abbrev topN : Nat := 9223372036854775807
theorem W_id {n : Int} (h : -9223372036854775808 ≤ n) (h' : n < 9223372036854775808) : W n = n := by
  show IntKind.i64.wrap n = n
  rw [IntKind.wrap_i64]; omega
theorem W_up {i : Nat} {len : Nat} (h : i < len) (hl : len ≤ topN) : W ((i : Int) + 1) = ((i + 1 : Nat) : Int) := by
  rw [W_id (by omega) (by simp only [topN] at hl; omega)]; omega
theorem drop_step {α : Type} (d : α) {a : List α} {i : Nat} (h : i < a.length) : a.drop i = a.getD i d :: a.drop (i + 1) := by
  rw [List.drop_eq_getElem_cons h, List.getD_eq_getElem?_getD, List.getElem?_eq_getElem h]; rfl
theorem drop_end {α : Type} {a : List α} {i : Nat} (h : a.length ≤ i) : a.drop i = [] := List.drop_eq_nil_of_le h
theorem getD_mem {α : Type} (d : α) {a : List α} {i : Nat} (h : i < a.length) : a.getD i d ∈ a := by
  rw [List.getD_eq_getElem?_getD, List.getElem?_eq_getElem h]; exact List.getElem_mem h
end Go.Pi
end
section
set_option linter.unusedVariables false
/-! Lists that are measured, copied, compared, marked and looked at again: each loop once. -/
namespace Go.Pi
abbrev cap : Nat := 1048576
def sumL {α : Type} (f : α → Nat) : List α → Nat
  | [] => 0
  | x :: xs => f x + sumL f xs
def sizeL {α : Type} (f : α → Nat) (l : List α) : Nat := l.length + sumL f l
def lenL {α : Type} (P : α → Prop) (l : List α) : Prop := l.length ≤ topN ∧ ∀ x ∈ l, P x
def szI (_ : Int) : Nat := 0
def lenI (_ : Int) : Prop := True
theorem sumL_drop {α : Type} (f : α → Nat) (d : α) {a : List α} {i : Nat} (h : i < a.length) : sumL f (a.drop i) = f (a.getD i d) + sumL f (a.drop (i + 1)) := by
  rw [drop_step d h]; rfl
theorem sumL_set {α : Type} (f : α → Nat) (x : α) : ∀ (a : List α) (i : Nat), sumL f ((a.set i x).drop (i + 1)) = sumL f (a.drop (i + 1))
  | [], _ => rfl
  | _ :: _, 0 => rfl
  | _ :: a, i + 1 => by simpa using sumL_set f x a i
theorem sumL_le {α : Type} (f : α → Nat) {a : List α} {x : α} (h : x ∈ a) : f x ≤ sumL f a := by
  induction a with
  | nil => cases h
  | cons y a ih =>
    simp only [sumL]
    rcases List.mem_cons.1 h with rfl | h
    · omega
    · have := ih h; omega
theorem sizeL_le {α : Type} (f : α → Nat) {a : List α} {x : α} (h : x ∈ a) : 1 + f x ≤ sizeL f a := by
  unfold sizeL
  have := sumL_le f h
  have := List.length_pos_of_mem h
  omega
theorem sizeL_len {α : Type} (f : α → Nat) (a : List α) : a.length ≤ sizeL f a := by unfold sizeL; omega
theorem sumL_zero {α : Type} (f : α → Nat) (h : ∀ x, f x = 0) : ∀ a : List α, sumL f a = 0
  | [] => rfl
  | x :: a => by simp only [sumL, h, sumL_zero f h a]
theorem take_set {α : Type} (d : α) {a s : List α} {i : Nat} (h : i < a.length) (hs : s.length = a.length) (ht : s.take i = a.take i) : (s.set i (a.getD i d)).take (i + 1) = a.take (i + 1) := by
  rw [List.take_add_one, List.take_add_one, List.take_set_of_le (Nat.le_refl i), ht, List.getElem?_set_self (by omega), List.getD_eq_getElem?_getD, List.getElem?_eq_getElem h]
  rfl
theorem getD_put {α : Type} (d : α) {a : List α} {i : Nat} (h : i < a.length) (x : α) : (a.set i x).getD i d = x := by
  rw [List.getD_eq_getElem?_getD, List.getElem?_set_self h]; rfl
/-- what is left of a size -/
def subS (l : Int) (s : Nat) : Int := if (s : Int) ≤ l then l - s else -1
theorem subS_zero {l : Int} (h : 0 ≤ l) : subS l 0 = l := by unfold subS; rw [if_pos (by omega)]; omega
theorem subS_add {l : Int} {s t : Nat} (h0 : 0 ≤ l) : (subS l s < 0 → subS l (s + t) = -1) ∧ (¬ subS l s < 0 → (0 ≤ subS l s ∧ subS l s ≤ l) ∧ subS (subS l s) t = subS l (s + t)) := by
  unfold subS
  constructor <;> intro h
  · split at h
    · omega
    · rw [if_neg (by omega)]
  · split at h
    · rename_i h1
      rw [if_pos h1]
      refine ⟨by omega, ?_⟩
      by_cases h2 : (t : Int) ≤ l - s
      · rw [if_pos h2, if_pos (by omega)]; omega
      · rw [if_neg h2, if_neg (by omega)]
    · omega
theorem subS_ok {l : Int} {s : Nat} (h : ¬ subS l s < 0) : (s : Int) ≤ l := by
  unfold subS at h; split at h <;> omega
section
variable {α β : Type}
/-- a size behind another -/
theorem ev_sz {f : Nat → Nat → Option Int} {g : Nat → Nat → Int → Option Int} {l : Int} {s t : Nat} (h0 : 0 ≤ l) (h1 : l ≤ 1048576) (h : Ev f (subS l s)) (k : ∀ r, 0 ≤ r → r ≤ 1048576 → Ev (fun n N => g n N r) (subS r t)) :
    Ev (fun n N => (f n N).bind fun x => cond (decide (x < 0)) (some (-1)) (g n N x)) (subS l (s + t)) := by
  rw [ev_bind h, ev_cond]
  obtain ⟨a, b⟩ := subS_add (l := l) (s := s) (t := t) h0
  refine ⟨fun h => ?_, fun h => ?_⟩
  · rw [a (of_decide_eq_true h)]; exact ev_some.2 rfl
  · obtain ⟨⟨b1, b2⟩, b3⟩ := b (of_decide_eq_false h)
    rw [← b3]
    exact k _ b1 (by omega)
theorem ev_szE {l : Int} (h : 0 ≤ l) : Ev (fun _ _ => some l) (subS l 0) := by rw [subS_zero h]; exact ev_some.2 rfl
/-- the length comes off first -/
theorem ev_szL {l : Int} {m t : Nat} (h0 : 0 ≤ l) (h1 : l ≤ 1048576) (hm : m ≤ topN) {g : Nat → Nat → Int → Option Int} (k : ∀ r, 0 ≤ r → r ≤ 1048576 → Ev (fun n N => g n N r) (subS r t)) :
    Ev (fun n N => cond (decide (W (l - (m : Int)) < 0)) (some (-1)) (g n N (W (l - (m : Int))))) (subS l (m + t)) := by
  simp only [topN] at hm
  rw [W_id (by omega) (by omega)]
  have e : l - (m : Int) < 0 ∨ l - m = subS l m := by unfold subS; split <;> omega
  rw [ev_cond]
  refine ⟨fun h => ?_, fun h => ?_⟩
  · have h := of_decide_eq_true h
    rw [(subS_add h0).1 (by unfold subS; rw [if_neg (by omega)]; omega)]
    exact ev_some.2 rfl
  · have h := of_decide_eq_false h
    have e := e.resolve_left h
    have := (subS_add (l := l) (s := m) (t := t) h0).2 (by rw [← e]; exact h)
    rw [← this.2, ← e]
    exact k _ (by omega) (by omega)
theorem ev_szI {l : Int} {m : Nat} (h0 : 0 ≤ l) (h1 : l ≤ 1048576) (hm : m ≤ topN) :
    Ev (fun _ _ => cond (decide (W (l - (m : Int)) < 0)) (some (-1)) (some (W (l - (m : Int))))) (subS l m) :=
  ev_szL (t := 0) (g := fun _ _ x => some x) h0 h1 hm fun r a b => ev_szE a
theorem sz_list (d : α) (f : α → Nat) (L : Nat → Nat → Int → Nat → Option Int) (a : List α)
    (h1 : ∀ i l, i < a.length → 0 ≤ l → l ≤ 1048576 → ∀ t, (∀ r, 0 ≤ r → r ≤ 1048576 → Ev (fun n N => L n N r (i + 1)) (subS r t)) → Ev (fun n N => L n (N + 1) l i) (subS l (f (a.getD i d) + t)))
    (h2 : ∀ l, Ev (fun n N => L n (N + 1) l a.length) l) (l : Int) (hl : 0 ≤ l) (hl' : l ≤ 1048576) : Ev (fun n _ => L n n l 0) (subS l (sumL f a)) := by
  have key : ∀ j i, j + i = a.length → ∀ l, 0 ≤ l → l ≤ 1048576 → Ev (fun n N => L n N l i) (subS l (sumL f (a.drop i))) := by
    intro j
    induction j with
    | zero =>
      intro i hi l h0 _
      rw [drop_end (by omega)]
      refine ev_round ?_
      have : i = a.length := by omega
      subst this
      rw [show sumL f [] = 0 from rfl, subS_zero h0]
      exact h2 l
    | succ j ih =>
      intro i hi l h0 h1'
      rw [sumL_drop f d (by omega)]
      exact ev_round (h1 i l (by omega) h0 h1' _ fun r a b => ih (i + 1) (by omega) r a b)
  have := key a.length 0 (by omega) l hl hl'
  rw [List.drop_zero] at this
  exact ev_diag (f := fun n N => L n N l 0) this
theorem ev_copy (d : α) (a : List α) (L : Nat → Nat → Nat → List α → Option (List α))
    (h1 : ∀ i s, i < a.length → s.length = a.length → Ev (fun n N => L n N (i + 1) (s.set i (a.getD i d))) a → Ev (fun n N => L n (N + 1) i s) a)
    (h2 : Ev (fun n N => L n (N + 1) a.length a) a) (s : List α) (hs : s.length = a.length) : Ev (fun n _ => L n n 0 s) a := by
  refine ev_up L (fun _ _ => a) (fun i s => s.length = a.length ∧ s.take i = a.take i) a.length (fun i s hI hi k => ?_) s ⟨hs, by simp⟩
  by_cases h : i < a.length
  · exact h1 i s h hI.1 (k _ ⟨by simp [hI.1], take_set d h hI.1 hI.2⟩ h)
  · have e : i = a.length := by omega
    subst e
    have : s = a := by
      have := hI.2
      rwa [List.take_of_length_le (by omega), List.take_of_length_le (Nat.le_refl _)] at this
    subst this
    exact h2
theorem mark_list (d : α) (f : α → Nat) (LM : Nat → Nat → Int → Nat → List α → Option (Int × List α)) (LH : Nat → Nat → List α → Int → Nat → Option Int)
    (hm : ∀ i (a : List α) (k : Int), i < a.length → a.length ≤ topN → 0 ≤ k → k + 32 * (1 + f (a.getD i d) : Nat) ≤ topN →
      ∃ k' x', k ≤ k' ∧ k' ≤ k + 32 * (1 + f (a.getD i d) : Nat) ∧ (∀ F, Ev (fun n N => LM n N k' (i + 1) (a.set i x')) F → Ev (fun n N => LM n (N + 1) k i a) F) ∧
        ∀ (b : List α) F, i < b.length → b.length ≤ topN → b.getD i d = x' → Ev (fun n N => LH n N b k' (i + 1)) F → Ev (fun n N => LH n (N + 1) b k i) F)
    (em : ∀ (a : List α) k, Ev (fun n N => LM n (N + 1) k a.length a) (k, a)) (eh : ∀ (a : List α) k, Ev (fun n N => LH n (N + 1) a k a.length) k)
    (a : List α) (k : Int) (ha : a.length ≤ topN) (hk : 0 ≤ k) (hb : k + 32 * (sizeL f a : Nat) ≤ topN) :
    ∃ k' a', k ≤ k' ∧ k' ≤ k + 32 * (sizeL f a : Nat) ∧ a'.length = a.length ∧ Ev (fun n _ => LM n n k 0 a) (k', a') ∧ Ev (fun n _ => LH n n a' k 0) k' := by
  have key : ∀ j i (a : List α) (k : Int), j + i = a.length → a.length ≤ topN → 0 ≤ k → k + 32 * ((j + sumL f (a.drop i) : Nat) : Int) ≤ topN →
      ∃ k' a', k ≤ k' ∧ k' ≤ k + 32 * ((j + sumL f (a.drop i) : Nat) : Int) ∧ a'.length = a.length ∧ a'.take i = a.take i ∧ Ev (fun n N => LM n N k i a) (k', a') ∧ Ev (fun n N => LH n N a' k i) k' := by
    intro j
    induction j with
    | zero =>
      intro i a k hi _ hk _
      have : i = a.length := by omega
      subst this
      exact ⟨k, a, by omega, by omega, rfl, rfl, ev_round (em a k), ev_round (eh a k)⟩
    | succ j ih =>
      intro i a k hi ha hk hb
      rw [sumL_drop f d (by omega)] at hb ⊢
      obtain ⟨k1, x', p1, p2, p3, p4⟩ := hm i a k (by omega) ha hk (by omega)
      obtain ⟨k2, a', q1, q2, q3, q4, q5, q6⟩ := ih (i + 1) (a.set i x') k1 (by rw [List.length_set]; omega) (by rw [List.length_set]; exact ha) (by omega) (by rw [sumL_set]; omega)
      rw [sumL_set] at q2
      rw [List.length_set] at q3
      have hlt : i < a'.length := by omega
      have hx : a'.getD i d = x' := by
        have e := congrArg (fun l => l[i]?) q4
        simp only [List.getElem?_take, if_pos (Nat.lt_succ_self i), List.getElem?_set_self (show i < a.length by omega)] at e
        rw [List.getD_eq_getElem?_getD, e]; rfl
      refine ⟨k2, a', by omega, by omega, q3, ?_, ev_round (p3 _ q5), ev_round (p4 a' k2 hlt (by omega) hx q6)⟩
      have e := congrArg (List.take i) q4
      simp only [List.take_take, Nat.min_eq_left (Nat.le_succ i), List.take_set_of_le (Nat.le_refl i)] at e
      exact e
  obtain ⟨k', a', h1, h2, h3, _, h5, h6⟩ := key a.length 0 a k (by omega) ha hk (by rw [List.drop_zero]; unfold sizeL at hb; omega)
  refine ⟨k', a', h1, by rw [List.drop_zero] at h2; unfold sizeL; omega, h3, ev_diag (f := fun n N => LM n N k 0 a) h5, ev_diag (f := fun n N => LH n N a' k 0) h6⟩
/-- the same of a list at which nobody looks again -/
theorem mark_list1 (d : α) (f : α → Nat) (LM : Nat → Nat → Int → Nat → List α → Option (Int × List α))
    (hm : ∀ i (a : List α) (k : Int), i < a.length → a.length ≤ topN → 0 ≤ k → k + 32 * (1 + f (a.getD i d) : Nat) ≤ topN →
      ∃ k' x', k ≤ k' ∧ k' ≤ k + 32 * (1 + f (a.getD i d) : Nat) ∧ (∀ F, Ev (fun n N => LM n N k' (i + 1) (a.set i x')) F → Ev (fun n N => LM n (N + 1) k i a) F))
    (em : ∀ (a : List α) k, Ev (fun n N => LM n (N + 1) k a.length a) (k, a))
    (a : List α) (k : Int) (ha : a.length ≤ topN) (hk : 0 ≤ k) (hb : k + 32 * (sizeL f a : Nat) ≤ topN) :
    ∃ k' a', k ≤ k' ∧ k' ≤ k + 32 * (sizeL f a : Nat) ∧ a'.length = a.length ∧ Ev (fun n _ => LM n n k 0 a) (k', a') ∧ True := by
  have key : ∀ j i (a : List α) (k : Int), j + i = a.length → a.length ≤ topN → 0 ≤ k → k + 32 * ((j + sumL f (a.drop i) : Nat) : Int) ≤ topN →
      ∃ k' a', k ≤ k' ∧ k' ≤ k + 32 * ((j + sumL f (a.drop i) : Nat) : Int) ∧ a'.length = a.length ∧ Ev (fun n N => LM n N k i a) (k', a') := by
    intro j
    induction j with
    | zero =>
      intro i a k hi _ hk _
      have : i = a.length := by omega
      subst this
      exact ⟨k, a, by omega, by omega, rfl, ev_round (em a k)⟩
    | succ j ih =>
      intro i a k hi ha hk hb
      rw [sumL_drop f d (by omega)] at hb ⊢
      obtain ⟨k1, x', p1, p2, p3⟩ := hm i a k (by omega) ha hk (by omega)
      obtain ⟨k2, a', q1, q2, q3, q5⟩ := ih (i + 1) (a.set i x') k1 (by rw [List.length_set]; omega) (by rw [List.length_set]; exact ha) (by omega) (by rw [sumL_set]; omega)
      rw [sumL_set] at q2
      rw [List.length_set] at q3
      exact ⟨k2, a', by omega, by omega, q3, ev_round (p3 _ q5)⟩
  obtain ⟨k', a', h1, h2, h3, h5⟩ := key a.length 0 a k (by omega) ha hk (by rw [List.drop_zero]; unfold sizeL at hb; omega)
  exact ⟨k', a', h1, by rw [List.drop_zero] at h2; unfold sizeL; omega, h3, ev_diag (f := fun n N => LM n N k 0 a) h5, trivial⟩
end
theorem W_next {k : Int} (h : 0 ≤ k) (h' : k + 1 ≤ topN) : W (k + 1) = k + 1 := W_id (by omega) (by simp only [topN] at h'; omega)
end Go.Pi
end
section
set_option linter.unusedVariables false
namespace Go.Pi
def lenQ (c : Nat) (q : TQuery) : Prop := q.where_.length ≤ c ∧ q.show_.length ≤ c
def lenR (c : Nat) (r : List TRow) : Prop := r.length ≤ c ∧ ∀ x ∈ r, x.cells.length ≤ c
def lenV (c : Nat) (v : TView) : Prop := lenQ c v.q ∧ lenR c v.rows ∧ v.kids.length ≤ c
def lenS (c : Nat) (s : TSess) : Prop := lenV c s.view ∧ lenV c s.last
end Go.Pi
end
section
set_option linter.unusedVariables false
set_option maxRecDepth 100000
namespace Go.Pi
abbrev laws_szRowS.K7 : Type := Int → Option Int
theorem laws_szRowS.turn7 {n N : Nat} {k : Int → Option Int} {x0 x1 x2} : laws_szRowS.loop7 n k (N + 1) x0 x1 x2 = laws_szRowS.step7 n k (laws_szRowS.loop7 n k N) x0 x1 x2 := rfl
abbrev laws_szChangeS.K7 : Type := Int → Option Int
theorem laws_szChangeS.turn7 {n N : Nat} {k : Int → Option Int} {x0 x1 x2} : laws_szChangeS.loop7 n k (N + 1) x0 x1 x2 = laws_szChangeS.step7 n k (laws_szChangeS.loop7 n k N) x0 x1 x2 := rfl
abbrev laws_toCondS.K4 : Type := (List TCond) → Option (List TCond)
theorem laws_toCondS.turn4 {n N : Nat} {k : (List TCond) → Option (List TCond)} {x0 x1 x2} : laws_toCondS.loop4 n k (N + 1) x0 x1 x2 = laws_toCondS.step4 n k (laws_toCondS.loop4 n k N) x0 x1 x2 := rfl
abbrev laws_toIntS.K4 : Type := (List Int) → Option (List Int)
theorem laws_toIntS.turn4 {n N : Nat} {k : (List Int) → Option (List Int)} {x0 x1 x2} : laws_toIntS.loop4 n k (N + 1) x0 x1 x2 = laws_toIntS.step4 n k (laws_toIntS.loop4 n k N) x0 x1 x2 := rfl
abbrev laws_toRowS.K4 : Type := (List TRow) → Option (List TRow)
theorem laws_toRowS.turn4 {n N : Nat} {k : (List TRow) → Option (List TRow)} {x0 x1 x2} : laws_toRowS.loop4 n k (N + 1) x0 x1 x2 = laws_toRowS.step4 n k (laws_toRowS.loop4 n k N) x0 x1 x2 := rfl
abbrev laws_toKidS.K4 : Type := (List TKid) → Option (List TKid)
theorem laws_toKidS.turn4 {n N : Nat} {k : (List TKid) → Option (List TKid)} {x0 x1 x2} : laws_toKidS.loop4 n k (N + 1) x0 x1 x2 = laws_toKidS.step4 n k (laws_toKidS.loop4 n k N) x0 x1 x2 := rfl
abbrev laws_toChangeS.K4 : Type := (List TChange) → Option (List TChange)
theorem laws_toChangeS.turn4 {n N : Nat} {k : (List TChange) → Option (List TChange)} {x0 x1 x2} : laws_toChangeS.loop4 n k (N + 1) x0 x1 x2 = laws_toChangeS.step4 n k (laws_toChangeS.loop4 n k N) x0 x1 x2 := rfl
abbrev spec_l6Rows.K4 : Type := (List TRow) → Option (List TRow)
theorem spec_l6Rows.turn4 {n N : Nat} {k : (List TRow) → Option (List TRow)} {x0 x1 x2} : spec_l6Rows.loop4 n k (N + 1) x0 x1 x2 = spec_l6Rows.step4 n k (spec_l6Rows.loop4 n k N) x0 x1 x2 := rfl
abbrev spec_RowAt.K3 : Type := Option Int
theorem spec_RowAt.turn3 {n N : Nat} {k : Option Int} {x0 x1 x2} : spec_RowAt.loop3 n k (N + 1) x0 x1 x2 = spec_RowAt.step3 n k (spec_RowAt.loop3 n k N) x0 x1 x2 := rfl
abbrev spec_RowDrop.K5 : Type := (List TRow) → Option (List TRow)
theorem spec_RowDrop.turn5 {n N : Nat} {k : (List TRow) → Option (List TRow)} {x0 x1 x2 x3} : spec_RowDrop.loop5 n k (N + 1) x0 x1 x2 x3 = spec_RowDrop.step5 n k (spec_RowDrop.loop5 n k N) x0 x1 x2 x3 := rfl
abbrev spec_Matches.K3 : Type := Option Bool
theorem spec_Matches.turn3 {n N : Nat} {k : Option Bool} {x0 x1 x2 x3 x4 x5 x6 x7 x8 x9 x10 x11} : spec_Matches.loop3 n k (N + 1) x0 x1 x2 x3 x4 x5 x6 x7 x8 x9 x10 x11 = spec_Matches.step3 n k (spec_Matches.loop3 n k N) x0 x1 x2 x3 x4 x5 x6 x7 x8 x9 x10 x11 := rfl
abbrev spec_l11Put.K5 : Type := Bool → Int → (List Int) → (List TRow) → Option (List TRow)
theorem spec_l11Put.turn5 {n N : Nat} {k : Bool → Int → (List Int) → (List TRow) → Option (List TRow)} {x0 x1 x2 x3 x4 x5 x6 x7 x8 x9 x10 x11 x12 x13 x14} : spec_l11Put.loop5 n k (N + 1) x0 x1 x2 x3 x4 x5 x6 x7 x8 x9 x10 x11 x12 x13 x14 = spec_l11Put.step5 n k (spec_l11Put.loop5 n k N) x0 x1 x2 x3 x4 x5 x6 x7 x8 x9 x10 x11 x12 x13 x14 := rfl
abbrev spec_KidPut.K5 : Type := Int → Int → Bool → (List TKid) → Option (List TKid)
theorem spec_KidPut.turn5 {n N : Nat} {k : Int → Int → Bool → (List TKid) → Option (List TKid)} {x0 x1 x2 x3 x4 x5} : spec_KidPut.loop5 n k (N + 1) x0 x1 x2 x3 x4 x5 = spec_KidPut.step5 n k (spec_KidPut.loop5 n k N) x0 x1 x2 x3 x4 x5 := rfl
abbrev spec_ViewChanges.K4 : Type := Int → Int → Bool → Int → Bool → Int → Int → Int → Int → Bool → Int → Bool → Int → Int → (List TCond) → (List Int) → (List TRow) → (List TKid) → Option TView
theorem spec_ViewChanges.turn4 {n N : Nat} {k : Int → Int → Bool → Int → Bool → Int → Int → Int → Int → Bool → Int → Bool → Int → Int → (List TCond) → (List Int) → (List TRow) → (List TKid) → Option TView} {x0 x1 x2 x3 x4 x5 x6 x7 x8 x9 x10 x11 x12 x13 x14 x15 x16 x17 x18 x19} : spec_ViewChanges.loop4 n k (N + 1) x0 x1 x2 x3 x4 x5 x6 x7 x8 x9 x10 x11 x12 x13 x14 x15 x16 x17 x18 x19 = spec_ViewChanges.step4 n k (spec_ViewChanges.loop4 n k N) x0 x1 x2 x3 x4 x5 x6 x7 x8 x9 x10 x11 x12 x13 x14 x15 x16 x17 x18 x19 := rfl
abbrev impl_copyRows.K4 : Type := (List TRow) → Option (List TRow)
theorem impl_copyRows.turn4 {n N : Nat} {k : (List TRow) → Option (List TRow)} {x0 x1 x2 x3} : impl_copyRows.loop4 n k (N + 1) x0 x1 x2 x3 = impl_copyRows.step4 n k (impl_copyRows.loop4 n k N) x0 x1 x2 x3 := rfl
abbrev slices_IndexFunc_Row_impl_RowAt_f1.K3 : Type := Option Int
theorem slices_IndexFunc_Row_impl_RowAt_f1.turn3 {n N : Nat} {k : Option Int} {x0 x1 x2 x3} : slices_IndexFunc_Row_impl_RowAt_f1.loop3 n k (N + 1) x0 x1 x2 x3 = slices_IndexFunc_Row_impl_RowAt_f1.step3 n k (slices_IndexFunc_Row_impl_RowAt_f1.loop3 n k N) x0 x1 x2 x3 := rfl
abbrev impl_Matches.K3 : Type := Option Bool
theorem impl_Matches.turn3 {n N : Nat} {k : Option Bool} {x0 x1 x2 x3 x4} : impl_Matches.loop3 n k (N + 1) x0 x1 x2 x3 x4 = impl_Matches.step3 n k (impl_Matches.loop3 n k N) x0 x1 x2 x3 x4 := rfl
abbrev slices_IndexFunc_Row_impl_rowPut_f1.K3 : Type := Option Int
theorem slices_IndexFunc_Row_impl_rowPut_f1.turn3 {n N : Nat} {k : Option Int} {x0 x1 x2 x3 x4 x5 x6 x7 x8 x9 x10 x11 x12 x13} : slices_IndexFunc_Row_impl_rowPut_f1.loop3 n k (N + 1) x0 x1 x2 x3 x4 x5 x6 x7 x8 x9 x10 x11 x12 x13 = slices_IndexFunc_Row_impl_rowPut_f1.step3 n k (slices_IndexFunc_Row_impl_rowPut_f1.loop3 n k N) x0 x1 x2 x3 x4 x5 x6 x7 x8 x9 x10 x11 x12 x13 := rfl
abbrev impl_KidPut.K4 : Type := Int → Int → Int → (List TKid) → Option (List TKid)
theorem impl_KidPut.turn4 {n N : Nat} {k : Int → Int → Int → (List TKid) → Option (List TKid)} {x0 x1 x2 x3} : impl_KidPut.loop4 n k (N + 1) x0 x1 x2 x3 = impl_KidPut.step4 n k (impl_KidPut.loop4 n k N) x0 x1 x2 x3 := rfl
abbrev impl_ViewChanges.K4 : Type := Int → Int → Bool → Int → Bool → Int → Int → Int → Int → Bool → Int → Bool → Int → Int → (List TCond) → (List Int) → (List TRow) → (List TKid) → Option TView
theorem impl_ViewChanges.turn4 {n N : Nat} {k : Int → Int → Bool → Int → Bool → Int → Int → Int → Int → Bool → Int → Bool → Int → Int → (List TCond) → (List Int) → (List TRow) → (List TKid) → Option TView} {x0 x1 x2 x3 x4 x5 x6 x7 x8 x9 x10 x11 x12 x13 x14 x15 x16 x17 x18 x19 x20} : impl_ViewChanges.loop4 n k (N + 1) x0 x1 x2 x3 x4 x5 x6 x7 x8 x9 x10 x11 x12 x13 x14 x15 x16 x17 x18 x19 x20 = impl_ViewChanges.step4 n k (impl_ViewChanges.loop4 n k N) x0 x1 x2 x3 x4 x5 x6 x7 x8 x9 x10 x11 x12 x13 x14 x15 x16 x17 x18 x19 x20 := rfl
abbrev laws_eqCondS.K6 : Type := Option Bool
theorem laws_eqCondS.turn6 {n N : Nat} {k : Option Bool} {x0 x1 x2} : laws_eqCondS.loop6 n k (N + 1) x0 x1 x2 = laws_eqCondS.step6 n k (laws_eqCondS.loop6 n k N) x0 x1 x2 := rfl
abbrev laws_eqIntS.K6 : Type := Option Bool
theorem laws_eqIntS.turn6 {n N : Nat} {k : Option Bool} {x0 x1 x2} : laws_eqIntS.loop6 n k (N + 1) x0 x1 x2 = laws_eqIntS.step6 n k (laws_eqIntS.loop6 n k N) x0 x1 x2 := rfl
abbrev laws_eqRowS.K6 : Type := Option Bool
theorem laws_eqRowS.turn6 {n N : Nat} {k : Option Bool} {x0 x1 x2} : laws_eqRowS.loop6 n k (N + 1) x0 x1 x2 = laws_eqRowS.step6 n k (laws_eqRowS.loop6 n k N) x0 x1 x2 := rfl
abbrev laws_eqKidS.K6 : Type := Option Bool
theorem laws_eqKidS.turn6 {n N : Nat} {k : Option Bool} {x0 x1 x2} : laws_eqKidS.loop6 n k (N + 1) x0 x1 x2 = laws_eqKidS.step6 n k (laws_eqKidS.loop6 n k N) x0 x1 x2 := rfl
abbrev laws_eqChangeS.K6 : Type := Option Bool
theorem laws_eqChangeS.turn6 {n N : Nat} {k : Option Bool} {x0 x1 x2} : laws_eqChangeS.loop6 n k (N + 1) x0 x1 x2 = laws_eqChangeS.step6 n k (laws_eqChangeS.loop6 n k N) x0 x1 x2 := rfl
abbrev laws_markCondS.K3 : Type := Int → (List TCond) → Option (Int × (List TCond))
theorem laws_markCondS.turn3 {n N : Nat} {k : Int → (List TCond) → Option (Int × (List TCond))} {x0 x1 x2} : laws_markCondS.loop3 n k (N + 1) x0 x1 x2 = laws_markCondS.step3 n k (laws_markCondS.loop3 n k N) x0 x1 x2 := rfl
abbrev laws_markIntS.K3 : Type := Int → (List Int) → Option (Int × (List Int))
theorem laws_markIntS.turn3 {n N : Nat} {k : Int → (List Int) → Option (Int × (List Int))} {x0 x1 x2} : laws_markIntS.loop3 n k (N + 1) x0 x1 x2 = laws_markIntS.step3 n k (laws_markIntS.loop3 n k N) x0 x1 x2 := rfl
abbrev laws_markRowS.K3 : Type := Int → (List TRow) → Option (Int × (List TRow))
theorem laws_markRowS.turn3 {n N : Nat} {k : Int → (List TRow) → Option (Int × (List TRow))} {x0 x1 x2} : laws_markRowS.loop3 n k (N + 1) x0 x1 x2 = laws_markRowS.step3 n k (laws_markRowS.loop3 n k N) x0 x1 x2 := rfl
abbrev laws_markKidS.K3 : Type := Int → (List TKid) → Option (Int × (List TKid))
theorem laws_markKidS.turn3 {n N : Nat} {k : Int → (List TKid) → Option (Int × (List TKid))} {x0 x1 x2} : laws_markKidS.loop3 n k (N + 1) x0 x1 x2 = laws_markKidS.step3 n k (laws_markKidS.loop3 n k N) x0 x1 x2 := rfl
abbrev laws_markChangeS.K3 : Type := Int → (List TChange) → Option (Int × (List TChange))
theorem laws_markChangeS.turn3 {n N : Nat} {k : Int → (List TChange) → Option (Int × (List TChange))} {x0 x1 x2} : laws_markChangeS.loop3 n k (N + 1) x0 x1 x2 = laws_markChangeS.step3 n k (laws_markChangeS.loop3 n k N) x0 x1 x2 := rfl
abbrev laws_heldCondS.K3 : Type := Int → Option Int
theorem laws_heldCondS.turn3 {n N : Nat} {k : Int → Option Int} {x0 x1 x2} : laws_heldCondS.loop3 n k (N + 1) x0 x1 x2 = laws_heldCondS.step3 n k (laws_heldCondS.loop3 n k N) x0 x1 x2 := rfl
abbrev laws_heldIntS.K3 : Type := Int → Option Int
theorem laws_heldIntS.turn3 {n N : Nat} {k : Int → Option Int} {x0 x1 x2} : laws_heldIntS.loop3 n k (N + 1) x0 x1 x2 = laws_heldIntS.step3 n k (laws_heldIntS.loop3 n k N) x0 x1 x2 := rfl
abbrev laws_heldRowS.K3 : Type := Int → Option Int
theorem laws_heldRowS.turn3 {n N : Nat} {k : Int → Option Int} {x0 x1 x2} : laws_heldRowS.loop3 n k (N + 1) x0 x1 x2 = laws_heldRowS.step3 n k (laws_heldRowS.loop3 n k N) x0 x1 x2 := rfl
abbrev laws_heldKidS.K3 : Type := Int → Option Int
theorem laws_heldKidS.turn3 {n N : Nat} {k : Int → Option Int} {x0 x1 x2} : laws_heldKidS.loop3 n k (N + 1) x0 x1 x2 = laws_heldKidS.step3 n k (laws_heldKidS.loop3 n k N) x0 x1 x2 := rfl
end Go.Pi
end
section
set_option linter.unusedVariables false
set_option maxRecDepth 100000
set_option linter.unusedSimpArgs false
namespace Go.Pi
def allFrom (p : Nat → Bool) : Nat → Nat → Bool
  | 0, _ => true
  | d + 1, i => p i && allFrom p d (i + 1)
def allN (p : Nat → Bool) (len : Nat) : Bool := allFrom p len 0
theorem ev_all (L : Nat → Nat → Nat → Option Bool) (p : Nat → Bool) {len : Nat} {v : Bool}
    (h : ∀ i w, i < len → Ev (fun n N => L n N (i + 1)) w → Ev (fun n N => L n (N + 1) i) (p i && w)) (h2 : Ev (fun n N => L n (N + 1) len) v) :
    Ev (fun n _ => L n n 0) (allN p len && v) := by
  have key : ∀ d i, d + i = len → Ev (fun n N => L n N i) (allFrom p d i && v) := by
    intro d
    induction d with
    | zero => intro i hd; obtain rfl : i = len := by omega
              simpa [allFrom] using ev_round (f := fun n N => L n N i) h2
    | succ d ih => intro i hd
                   have := h i _ (by omega) (ih (i + 1) (by omega))
                   rw [← Bool.and_assoc] at this
                   exact ev_round (f := fun n N => L n N i) this
  exact ev_diag (f := fun n N => L n N 0) (key len 0 (by omega))
theorem ev_congr {α : Type} {f : Nat → Nat → Option α} {v w : α} (h : Ev f v) (e : v = w) : Ev f w := e ▸ h
def inn (x lo hi : Int) : Bool := decide (lo ≤ x) && decide (x ≤ hi)
theorem inn_iff {x lo hi : Int} : inn x lo hi = true ↔ lo ≤ x ∧ x ≤ hi := by simp [inn]
theorem l1In_ev {x lo hi : Int} : Ev (fun n _ => spec_l1In n x lo hi) (inn x lo hi) := by
  refine ev_succ ?_
  simp only [spec_l1In, ev_cond, ev_some, inn]
  grind
theorem within_ev {x lo hi : Int} : Ev (fun n _ => impl_within n x lo hi) (inn x lo hi) := by
  refine ev_succ ?_
  simp only [impl_within, ev_cond, ev_some, inn]
  grind
section
variable {β : Type} {x lo hi : Int} {g : Nat → Nat → Bool → Option β} {v : β}
theorem l1In_b : Ev (fun n N => (spec_l1In n x lo hi).bind (g n N)) v ↔ Ev (fun n N => g n N (inn x lo hi)) v := ev_bind l1In_ev
theorem within_b : Ev (fun n N => (impl_within n x lo hi).bind (g n N)) v ↔ Ev (fun n N => g n N (inn x lo hi)) v := ev_bind within_ev
end
theorem lt_up {i len : Nat} (h : i < len) : decide ((i : Int) < (len : Int)) = true := by simp; omega
theorem lt_end {len : Nat} : decide ((len : Int) < (len : Int)) = false := by simp
theorem in_up {i len : Nat} (h : i < len) : ((0 : Int) ≤ (i : Int) ∧ (i : Int) < (len : Int)) ↔ True := by simp; omega
end Go.Pi
end
section
set_option linter.unusedVariables false
set_option maxRecDepth 100000
set_option linter.unusedSimpArgs false
namespace Go.Pi
theorem W_dn {i : Nat} (h : i ≤ topN) : W ((i : Int) - 1) = (i : Int) - 1 := by
  rw [W_id (by omega) (by simp only [topN] at h; omega)]
theorem inn_true {x lo hi : Int} (h : inn x lo hi = true) : lo ≤ x ∧ x ≤ hi := inn_iff.1 h
section
variable {w : Int} {cols sh : List Int} {wh : List TCond} {t o f kt kc : Int} {d ks v : Bool}
end
end Go.Pi
end
section
set_option linter.unusedVariables false
set_option maxRecDepth 100000
set_option linter.unusedSimpArgs false
namespace Go.Pi
def foldFrom {α : Type} (s : Nat → α → α) (v : α) : Nat → Nat → α
  | 0, _ => v
  | d + 1, i => s i (foldFrom s v d (i + 1))
theorem ev_fold {α : Type} (L : Nat → Nat → Nat → Option α) (s : Nat → α → α) {len : Nat} {v : α}
    (h : ∀ i w, i < len → Ev (fun n N => L n N (i + 1)) w → Ev (fun n N => L n (N + 1) i) (s i w)) (h2 : Ev (fun n N => L n (N + 1) len) v) :
    Ev (fun n _ => L n n 0) (foldFrom s v len 0) := by
  have key : ∀ d i, d + i = len → Ev (fun n N => L n N i) (foldFrom s v d i) := by
    intro d
    induction d with
    | zero => intro i hd; obtain rfl : i = len := by omega
              exact ev_round (f := fun n N => L n N i) h2
    | succ d ih => intro i hd
                   exact ev_round (f := fun n N => L n N i) (h i _ (by omega) (ih (i + 1) (by omega)))
  exact ev_diag (f := fun n N => L n N 0) (key len 0 (by omega))
def FHolds (c : TCond) (r : TRow) : Bool := inn c.col 0 (W ((r.cells.length : Int) - 1)) && (cond (c.op == 1) (r.cells.getD c.col.toNat 0 == c.v) (cond (c.op == 2) (decide (r.cells.getD c.col.toNat 0 < c.v)) (cond (c.op == 3) (decide (r.cells.getD c.col.toNat 0 > c.v)) (cond (c.op == 4) (r.cells.getD c.col.toNat 0 != c.v) false))))
theorem spec_l9Holds_ev {c : TCond} {r : TRow} (hr : r.cells.length ≤ topN) : Ev (fun n _ => spec_l9Holds n c r) (FHolds c r) := by
  refine ev_succ ?_
  have e := @W_dn r.cells.length hr
  simp only [spec_l9Holds, l1In_b, ev_cond, ev_inB, ev_some, FHolds]
  repeat' (first | apply And.intro | intro _)
  all_goals (try simp only [inn, Bool.not_eq_true', Bool.not_eq_false', decide_eq_true_eq, decide_eq_false_iff_not, Bool.and_eq_true, Bool.and_eq_false_iff] at *)
  all_goals simp_all
  all_goals omega
theorem holds_ev {c : TCond} {r : TRow} (hr : r.cells.length ≤ topN) : Ev (fun n _ => impl_holds n c r) (FHolds c r) := by
  refine ev_succ ?_
  have e := @W_dn r.cells.length hr
  simp only [impl_holds, within_b, ev_cond, ev_inB, ev_some, FHolds]
  repeat' (first | apply And.intro | intro _)
  all_goals (try simp only [inn, Bool.not_eq_true', Bool.not_eq_false', decide_eq_true_eq, decide_eq_false_iff_not, Bool.and_eq_true, Bool.and_eq_false_iff] at *)
  all_goals simp_all
  all_goals omega
def FMatches (q : TQuery) (r : TRow) : Bool := allN (fun i => FHolds (q.where_.getD i TCond.dflt) r) q.where_.length
theorem spec_Matches_ev {q : TQuery} {r : TRow} (hq : q.where_.length ≤ topN) (hr : r.cells.length ≤ topN) : Ev (fun n _ => spec_Matches n q r) (FMatches q r) := by
  refine ev_succ ?_
  simp only [spec_Matches]
  have hH : ∀ (c : TCond) (g : Nat → Nat → Bool → Option Bool) (v : Bool), Ev (fun n N => (spec_l9Holds n c (TRow.mk r.id_ r.cells)).bind (g n N)) v ↔ Ev (fun n N => g n N (FHolds c r)) v := fun c g v => ev_bind (spec_l9Holds_ev hr)
  refine ev_congr (ev_all (fun n N i => spec_Matches.loop3 n (some true) N (i : Int) q.table q.where_ q.order q.down q.first q.show_ q.kids q.kidTable q.kidCol r.id_ r.cells) (fun i => FHolds (q.where_.getD i TCond.dflt) r) (len := q.where_.length) (v := true) (fun i u hi ih => ?_) ?_) (by rw [Bool.and_true]; rfl)
  · simp only [spec_Matches.turn3, spec_Matches.step3, Int.toNat_natCast, W_up hi hq, ev_cond, ev_inB, hH, ev_some, ev_iff ih, lt_up hi, in_up hi]
    clear ih hH
    grind
  · simp only [spec_Matches.turn3, spec_Matches.step3, lt_end, cond_false, ev_some]
theorem impl_Matches_ev {q : TQuery} {r : TRow} (hq : q.where_.length ≤ topN) (hr : r.cells.length ≤ topN) : Ev (fun n _ => impl_Matches n q r) (FMatches q r) := by
  refine ev_succ ?_
  simp only [impl_Matches]
  have hH : ∀ (c : TCond) (g : Nat → Nat → Bool → Option Bool) (v : Bool), Ev (fun n N => (impl_holds n c (TRow.mk r.id_ r.cells)).bind (g n N)) v ↔ Ev (fun n N => g n N (FHolds c r)) v := fun c g v => ev_bind (holds_ev hr)
  refine ev_congr (ev_all (fun n N i => impl_Matches.loop3 n (some true) N q.where_ (q.where_.length : Int) (i : Int) r.id_ r.cells) (fun i => FHolds (q.where_.getD i TCond.dflt) r) (len := q.where_.length) (v := true) (fun i u hi ih => ?_) ?_) (by rw [Bool.and_true]; rfl)
  · simp only [impl_Matches.turn3, impl_Matches.step3, Int.toNat_natCast, W_up hi hq, ev_cond, ev_inB, hH, ev_some, ev_iff ih, lt_up hi, in_up hi]
    clear ih hH
    grind
  · simp only [impl_Matches.turn3, impl_Matches.step3, lt_end, cond_false, ev_some]
def FRowAt (rows : List TRow) (id : Int) : Int := foldFrom (fun i x => cond ((rows.getD i TRow.dflt).id_ == id) (i : Int) x) (-1) rows.length 0
theorem spec_RowAt_ev {rows : List TRow} {id : Int} (hr : rows.length ≤ topN) : Ev (fun n _ => spec_RowAt n rows id) (FRowAt rows id) := by
  refine ev_succ ?_
  simp only [spec_RowAt]
  refine ev_fold (fun n N i => spec_RowAt.loop3 n (some (-1)) N rows id (i : Int)) _ (fun i u hi ih => ?_) ?_
  · simp only [spec_RowAt.turn3, spec_RowAt.step3, Int.toNat_natCast, W_up hi hr, ev_cond, ev_inB, ev_some, ev_iff ih, lt_up hi, in_up hi]
    clear ih
    grind
  · simp only [spec_RowAt.turn3, spec_RowAt.step3, lt_end, cond_false, ev_some]
theorem impl_RowAt_ev {rows : List TRow} {id : Int} (hr : rows.length ≤ topN) : Ev (fun n _ => impl_RowAt n rows id) (FRowAt rows id) := by
  have hf : ∀ r, Ev (fun n _ => impl_RowAt_f1 n r id) (r.id_ == id) := fun r => ev_succ (by simp only [impl_RowAt_f1, ev_some])
  have h : Ev (fun n _ => slices_IndexFunc_Row_impl_RowAt_f1 n rows id) (FRowAt rows id) := by
    refine ev_succ ?_
    simp only [slices_IndexFunc_Row_impl_RowAt_f1]
    refine ev_fold (fun n N i => slices_IndexFunc_Row_impl_RowAt_f1.loop3 n (some (-1)) N rows id (rows.length : Int) (i : Int)) _ (fun i u hi ih => ?_) ?_
    · simp only [slices_IndexFunc_Row_impl_RowAt_f1.turn3, slices_IndexFunc_Row_impl_RowAt_f1.step3, Int.toNat_natCast, W_up hi hr, ev_cond, ev_inB, ev_bind (hf _), ev_some, ev_iff ih, lt_up hi, in_up hi]
      clear ih
      grind
    · simp only [slices_IndexFunc_Row_impl_RowAt_f1.turn3, slices_IndexFunc_Row_impl_RowAt_f1.step3, lt_end, cond_false, ev_some]
  exact ev_succ (by simp only [impl_RowAt, ev_bind h, ev_some])
def FCell (r : TRow) (col : Int) : Int := cond (inn col 0 (W ((r.cells.length : Int) - 1))) (r.cells.getD col.toNat 0) 0
theorem spec_l9Cell_ev {r : TRow} {col : Int} (hr : r.cells.length ≤ topN) : Ev (fun n _ => spec_l9Cell n r col) (FCell r col) := by
  refine ev_succ ?_
  have e := @W_dn r.cells.length hr
  simp only [spec_l9Cell, l1In_b, ev_cond, ev_inB, ev_some, FCell]
  cases hi : inn col 0 (W ((r.cells.length : Int) - 1)) with
  | false => simp
  | true => have := inn_true hi; exact ⟨fun h => (by cases h), fun _ => ⟨by omega, rfl⟩⟩
theorem cellOf_ev {r : TRow} {col : Int} (hr : r.cells.length ≤ topN) : Ev (fun n _ => impl_cellOf n r col) (FCell r col) := by
  refine ev_succ ?_
  have e := @W_dn r.cells.length hr
  simp only [impl_cellOf, within_b, ev_cond, ev_inB, ev_some, FCell]
  cases hi : inn col 0 (W ((r.cells.length : Int) - 1)) with
  | false => simp
  | true => have := inn_true hi; exact ⟨fun h => (by cases h), fun _ => ⟨by omega, rfl⟩⟩
def FAhead (q : TQuery) (a b : TRow) : Bool := cond (q.order == 0) (decide (a.id_ < b.id_)) (cond (FCell a (W (q.order - 1)) == FCell b (W (q.order - 1))) (decide (a.id_ < b.id_)) (cond q.down (decide (FCell a (W (q.order - 1)) > FCell b (W (q.order - 1)))) (decide (FCell a (W (q.order - 1)) < FCell b (W (q.order - 1))))))
theorem spec_Ahead_ev {q : TQuery} {a b : TRow} (ha : a.cells.length ≤ topN) (hb : b.cells.length ≤ topN) : Ev (fun n _ => spec_Ahead n q a b) (FAhead q a b) := by
  refine ev_succ ?_
  simp only [spec_Ahead, ev_bind (spec_l9Cell_ev ha), ev_bind (spec_l9Cell_ev hb), ev_cond, ev_some, FAhead]
  generalize FCell a (W (q.order - 1)) = x
  generalize FCell b (W (q.order - 1)) = y
  cases hd : q.down <;> grind
theorem impl_Ahead_ev {q : TQuery} {a b : TRow} (ha : a.cells.length ≤ topN) (hb : b.cells.length ≤ topN) : Ev (fun n _ => impl_Ahead n q a b) (FAhead q a b) := by
  refine ev_succ ?_
  simp only [impl_Ahead, ev_bind (cellOf_ev ha), ev_bind (cellOf_ev hb), ev_cond, ev_some, FAhead]
  generalize FCell a (W (q.order - 1)) = x
  generalize FCell b (W (q.order - 1)) = y
  cases hd : q.down <;> grind
section
variable {cols sh : List Int} {wh : List TCond} {t o f kt kc : Int} {d ks v : Bool} {rows : List TRow} {kids : List TKid}
theorem getD_cells (hr : lenR topN rows) (i : Nat) : (rows.getD i TRow.dflt).cells.length ≤ topN := by
  by_cases h : i < rows.length
  · exact hr.2 _ (getD_mem _ h)
  · rw [List.getD_eq_getElem?_getD, List.getElem?_eq_none (by omega)]; exact Nat.zero_le _
end
end Go.Pi
end
section
set_option linter.unusedVariables false
set_option maxRecDepth 100000
set_option linter.unusedSimpArgs false
namespace Go.Pi
/-! copies -/
theorem ev_roomB {α : Type} {n b : Nat} {f : Nat → Nat → Option α} {v : α} : Ev (fun m N => roomB n b (f m N)) v ↔ n * b ≤ 140737488355328 ∧ Ev f v := by
  unfold roomB
  rw [ev_cond]
  by_cases h : n * b ≤ 140737488355328 <;> simp [h, ev_none]
theorem ev_map {α β γ : Type} (d : α) (a : List α) (f : α → β) (L : Nat → Nat → Nat → List β → Option γ) (v : γ)
    (h1 : ∀ i s, i < a.length → s.length = i → ∀ F, Ev (fun n N => L n N (i + 1) (s ++ [f (a.getD i d)])) F → Ev (fun n N => L n (N + 1) i s) F)
    (h2 : Ev (fun n N => L n (N + 1) a.length (a.map f)) v) : Ev (fun n _ => L n n 0 []) v := by
  have key : ∀ j i, j + i = a.length → Ev (fun n N => L n N i ((a.take i).map f)) v := by
    intro j
    induction j with
    | zero =>
      intro i hi
      have : i = a.length := by omega
      subst this
      rw [List.take_of_length_le (Nat.le_refl _)]
      exact ev_round h2
    | succ j ih =>
      intro i hi
      refine ev_round (h1 i _ (by omega) (by simp; omega) _ ?_)
      have := ih (i + 1) (by omega)
      rw [List.take_add_one, List.map_append] at this
      have e : a[i]?.toList = [a.getD i d] := by
        rw [List.getD_eq_getElem?_getD, List.getElem?_eq_getElem (by omega)]; rfl
      rw [e] at this
      exact this
  have := key a.length 0 (by omega)
  exact ev_diag (f := fun n N => L n N 0 []) this
abbrev capR : Nat := 1073741824
section
variable {β : Type} {g : Nat → Nat → List Int → Option β} {gr : Nat → Nat → TRow → Option β} {v : β}
theorem copyInts_b {l : List Int} (h : l.length ≤ capR) : Ev (fun n N => (impl_copyInts n l).bind (g n N)) v ↔ Ev (fun n N => g n N l) v :=
  ev_bind (ev_succ (by simp only [impl_copyInts, ev_roomB, ev_some, List.nil_append, and_true]; simp only [capR] at h; simp; omega))
theorem copyRow_b {r : TRow} (h : r.cells.length ≤ capR) : Ev (fun n N => (impl_copyRow n r).bind (gr n N)) v ↔ Ev (fun n N => gr n N r) v :=
  ev_bind (ev_succ (by simp only [impl_copyRow, copyInts_b h, ev_some]))
theorem l6Copy_b {r : TRow} (h : r.cells.length ≤ capR) : Ev (fun n N => (spec_l6Copy n r).bind (gr n N)) v ↔ Ev (fun n N => gr n N r) v :=
  ev_bind (ev_succ (by simp only [spec_l6Copy, ev_roomB, ev_some, List.nil_append, and_true]; simp only [capR] at h; simp; omega))
end
theorem getD_cellsC {c : Nat} {rows : List TRow} (hr : lenR c rows) (i : Nat) : (rows.getD i TRow.dflt).cells.length ≤ c := by
  by_cases hi : i < rows.length
  · exact hr.2 _ (getD_mem TRow.dflt hi)
  · rw [List.getD_eq_getElem?_getD, List.getElem?_eq_none (by omega)]
    exact Nat.zero_le _
theorem copyRows_ev {rows : List TRow} (h : lenR capR rows) : Ev (fun n _ => impl_copyRows n rows) rows := by
  refine ev_succ ?_
  have hl := h.1
  simp only [capR] at hl
  simp only [impl_copyRows]
  refine ev_map TRow.dflt rows id (fun n N i s => impl_copyRows.loop4 n _ N rows (rows.length : Int) (i : Int) s) rows (fun i s hi hs F hF => ?_) ?_
  · simp only [impl_copyRows.turn4, impl_copyRows.step4, Int.toNat_natCast, W_up hi (show rows.length ≤ topN by simp only [topN]; omega), ev_cond, ev_inB, copyRow_b (getD_cellsC h i), ev_roomB, lt_up hi, in_up hi]
    exact ⟨fun _ => ⟨trivial, by simp; omega, hF⟩, fun h => by cases h⟩
  · simp only [impl_copyRows.turn4, impl_copyRows.step4, lt_end, cond_false, ev_some, List.map_id]
theorem l6Rows_ev {rows : List TRow} (h : lenR capR rows) : Ev (fun n _ => spec_l6Rows n rows) rows := by
  refine ev_succ ?_
  have hl := h.1
  simp only [capR] at hl
  simp only [spec_l6Rows]
  refine ev_map TRow.dflt rows id (fun n N i s => spec_l6Rows.loop4 n _ N rows (i : Int) s) rows (fun i s hi hs F hF => ?_) ?_
  · simp only [spec_l6Rows.turn4, spec_l6Rows.step4, Int.toNat_natCast, W_up hi (show rows.length ≤ topN by simp only [topN]; omega), ev_cond, ev_inB, l6Copy_b (getD_cellsC h i), ev_roomB, lt_up hi, in_up hi]
    exact ⟨fun _ => ⟨trivial, by simp; omega, hF⟩, fun h => by cases h⟩
  · simp only [spec_l6Rows.turn4, spec_l6Rows.step4, lt_end, cond_false, ev_some, List.map_id]
end Go.Pi
end
section
set_option linter.unusedVariables false
set_option maxRecDepth 100000
set_option linter.unusedSimpArgs false
namespace Go.Pi
/-! rows that come and go -/
theorem ev_seq {α γ : Type} (S : Nat → α) (len : Nat) (L : Nat → Nat → Nat → α → Option γ) (v : γ)
    (h1 : ∀ i, i < len → ∀ F, Ev (fun n N => L n N (i + 1) (S (i + 1))) F → Ev (fun n N => L n (N + 1) i (S i)) F)
    (h2 : Ev (fun n N => L n (N + 1) len (S len)) v) : Ev (fun n _ => L n n 0 (S 0)) v := by
  have key : ∀ j i, j + i = len → Ev (fun n N => L n N i (S i)) v := by
    intro j
    induction j with
    | zero =>
      intro i hi
      have : i = len := by omega
      subst this
      exact ev_round h2
    | succ j ih => exact fun i hi => ev_round (h1 i (by omega) _ (ih (i + 1) (by omega)))
  exact ev_diag (f := fun n N => L n N 0 (S 0)) (key len 0 (by omega))
theorem take_next {α : Type} (d : α) {a : List α} {i : Nat} (h : i < a.length) : a.take (i + 1) = a.take i ++ [a.getD i d] := by
  rw [List.take_add_one, List.getD_eq_getElem?_getD, List.getElem?_eq_getElem h]; rfl
theorem foldFrom_idx {α : Type} (d : α) (P : α → Bool) : ∀ (rows : List α), foldFrom (fun i (x : Int) => cond (P (rows.getD i d)) (i : Int) x) (-1) rows.length 0 = if rows.findIdx P < rows.length then (rows.findIdx P : Int) else -1 := by
  intro rows
  have key : ∀ j i, j + i = rows.length → (∀ k, k < i → P (rows.getD k d) = false) → foldFrom (fun i (x : Int) => cond (P (rows.getD i d)) (i : Int) x) (-1) j i = if rows.findIdx P < rows.length then (rows.findIdx P : Int) else -1 := by
    intro j
    induction j with
    | zero =>
      intro i hi hk
      have : ¬ rows.findIdx P < rows.length := by
        intro h
        have h1 := List.findIdx_getElem (w := h)
        have h2 := hk _ (show rows.findIdx P < i by omega)
        rw [List.getD_eq_getElem?_getD, List.getElem?_eq_getElem h] at h2
        simp only [Option.getD_some] at h2
        rw [h1] at h2; cases h2
      rw [if_neg this]; rfl
    | succ j ih =>
      intro i hi hk
      simp only [foldFrom]
      cases hp : P (rows.getD i d) with
      | true =>
        have hlt : i < rows.length := by omega
        rw [List.getD_eq_getElem?_getD, List.getElem?_eq_getElem hlt] at hp
        have e : rows.findIdx P = i := by
          apply Nat.le_antisymm
          · exact Nat.le_of_not_lt fun h => by have := List.not_of_lt_findIdx h; rw [Option.getD_some] at hp; rw [hp] at this; cases this
          · exact Nat.le_of_not_lt fun h => by
              have h2 := hk _ h
              have hl : rows.findIdx P < rows.length := by omega
              rw [List.getD_eq_getElem?_getD, List.getElem?_eq_getElem hl] at h2
              rw [Option.getD_some, List.findIdx_getElem (w := hl)] at h2; cases h2
        rw [e, if_pos hlt]; rfl
      | false =>
        rw [cond_false]
        exact ih (i + 1) (by omega) fun k hk' => by
          by_cases e : k = i
          · subst e; exact hp
          · exact hk k (by omega)
  exact key rows.length 0 (by omega) fun k hk => by omega
theorem FRowAt_idx (rows : List TRow) (id : Int) : FRowAt rows id = if rows.findIdx (fun r => r.id_ == id) < rows.length then (rows.findIdx (fun r => r.id_ == id) : Int) else -1 := foldFrom_idx TRow.dflt (fun r => r.id_ == id) rows
def FDrop (rows : List TRow) (id : Int) : List TRow := rows.eraseIdx (rows.findIdx (fun r => r.id_ == id))
def dropTo (rows : List TRow) (at_ i : Nat) : List TRow := (rows.take i).eraseIdx at_
theorem dropTo_self {rows : List TRow} {i : Nat} (h : i < rows.length) : dropTo rows i (i + 1) = dropTo rows i i := by
  unfold dropTo
  rw [take_next TRow.dflt h]
  have e : (rows.take i).length = i := by rw [List.length_take]; omega
  rw [List.eraseIdx_of_length_le (l := rows.take i) (by omega), List.eraseIdx_append_of_length_le (by omega), e, Nat.sub_self]
  simp
theorem dropTo_other {rows : List TRow} {at_ i : Nat} (h : i < rows.length) (hne : i ≠ at_) : dropTo rows at_ (i + 1) = dropTo rows at_ i ++ [rows.getD i TRow.dflt] := by
  unfold dropTo
  rw [take_next TRow.dflt h]
  have e : (rows.take i).length = i := by rw [List.length_take]; omega
  by_cases hlt : at_ < i
  · rw [List.eraseIdx_append_of_lt_length (by omega)]
  · rw [List.eraseIdx_of_length_le (l := rows.take i) (by omega), List.eraseIdx_of_length_le (by simp; omega)]
theorem dropTo_len {rows : List TRow} {at_ i : Nat} : (dropTo rows at_ i).length ≤ rows.length := by
  unfold dropTo
  have := List.length_eraseIdx_le (rows.take i) at_
  rw [List.length_take] at this
  omega
theorem spec_RowDrop_ev {rows : List TRow} {id : Int} (h : lenR capR rows) : Ev (fun n _ => spec_RowDrop n rows id) (FDrop rows id) := by
  refine ev_succ ?_
  have hl := h.1
  simp only [capR] at hl
  have ht : rows.length ≤ topN := by simp only [topN]; omega
  simp only [spec_RowDrop, ev_bind (spec_RowAt_ev (rows := rows) (id := id) ht)]
  obtain ⟨p, hp⟩ : ∃ p, p = rows.findIdx (fun r => r.id_ == id) := ⟨_, rfl⟩
  have hat : ∀ i : Nat, i < rows.length → (((i : Int) != FRowAt rows id) = true ↔ i ≠ p) := fun i hi => by
    rw [FRowAt_idx, ← hp, bne_iff_ne]
    split <;> omega
  have hF : FDrop rows id = dropTo rows p rows.length := by unfold FDrop dropTo; rw [List.take_length, hp]
  rw [hF]
  refine ev_seq (fun i => dropTo rows p i) rows.length (fun n N i s => spec_RowDrop.loop5 n (fun xy3 => some xy3) N rows (FRowAt rows id) (i : Int) s) _ (fun i hi F hF => ?_) ?_
  · have hlen := dropTo_len (rows := rows) (at_ := p) (i := i)
    simp only [spec_RowDrop.turn5, spec_RowDrop.step5, Int.toNat_natCast, W_up hi ht, ev_cond, ev_inB, l6Copy_b (getD_cellsC h i), ev_roomB, lt_up hi, in_up hi]
    refine ⟨fun _ => ⟨fun hne => ⟨trivial, by simp; omega, ?_⟩, fun heq => ?_⟩, fun h => by cases h⟩
    · rw [← dropTo_other hi ((hat i hi).1 hne)]; exact hF
    · have : i = p := Classical.byContradiction fun hn => by rw [(hat i hi).2 hn] at heq; cases heq
      subst this
      rw [← dropTo_self hi]; exact hF
  · simp only [spec_RowDrop.turn5, spec_RowDrop.step5, lt_end, cond_false, ev_some]
theorem impl_RowDrop_ev {rows : List TRow} {id : Int} (h : lenR capR rows) : Ev (fun n _ => impl_RowDrop n rows id) (FDrop rows id) := by
  refine ev_succ ?_
  have hl := h.1
  simp only [capR] at hl
  have ht : rows.length ≤ topN := by simp only [topN]; omega
  simp only [impl_RowDrop, ev_bind (copyRows_ev h), ev_bind (impl_RowAt_ev (rows := rows) (id := id) ht), ev_cond, ev_some]
  rw [FRowAt_idx]
  by_cases hp : rows.findIdx (fun r => r.id_ == id) < rows.length
  · rw [if_pos hp]
    refine ⟨fun _ => ?_, fun h => by simp at h⟩
    have : Ev (fun n _ => slices_Delete_Row n rows ((rows.findIdx (fun r => r.id_ == id) : Nat) : Int) (W (((rows.findIdx (fun r => r.id_ == id) : Nat) : Int) + 1))) (FDrop rows id) := by
      refine ev_succ ?_
      rw [W_up hp ht]
      simp only [slices_Delete_Row, nDelete, ev_cond, ev_some, ev_none, FDrop, List.eraseIdx_eq_take_drop_succ, Int.toNat_natCast]
      simp; omega
    simp only [ev_bind this, ev_some]
  · rw [if_neg hp]
    refine ⟨fun h => by simp at h, fun _ => ?_⟩
    unfold FDrop
    rw [List.eraseIdx_of_length_le (by omega)]
def FPut (q : TQuery) (rows : List TRow) (r : TRow) : List TRow := rows.take (rows.findIdx (fun x => FAhead q r x)) ++ [r] ++ rows.drop (rows.findIdx (fun x => FAhead q r x))
theorem take_mid {α : Type} (d : α) {a m : List α} {i p : Nat} (hi : i < a.length) (h : p ≤ i) : a.take p ++ m ++ (a.take (i + 1)).drop p = a.take p ++ m ++ (a.take i).drop p ++ [a.getD i d] := by
  rw [take_next d hi, List.drop_append_of_le_length (by simp; omega)]
  simp
theorem ahead_idx {q : TQuery} {r : TRow} {rows : List TRow} {i : Nat} (hi : i < rows.length) (hle : i ≤ rows.findIdx (fun x => FAhead q r x)) : FAhead q r (rows.getD i TRow.dflt) = decide (i = rows.findIdx (fun x => FAhead q r x)) := by
  rw [List.getD_eq_getElem?_getD, List.getElem?_eq_getElem hi, Option.getD_some]
  by_cases h : i = rows.findIdx (fun x => FAhead q r x)
  · rw [decide_eq_true h]
    have := List.findIdx_getElem (xs := rows) (p := fun x => FAhead q r x) (w := by omega)
    simp only [← h] at this
    exact this
  · rw [decide_eq_false h]
    have := List.not_of_lt_findIdx (xs := rows) (p := fun x => FAhead q r x) (i := i) (by omega)
    simpa using this
theorem spec_l11Put_ev {q : TQuery} {rows : List TRow} {r : TRow} (h : lenR capR rows) (hr : r.cells.length ≤ capR) : Ev (fun n _ => spec_l11Put n q rows r) (FPut q rows r) := by
  refine ev_succ ?_
  have hl := h.1
  simp only [capR] at hl
  have ht : rows.length ≤ topN := by simp only [topN]; omega
  have hrt : r.cells.length ≤ topN := by simp only [topN]; simp only [capR] at hr; omega
  simp only [spec_l11Put]
  have e0 : ∀ r : TRow, TRow.mk r.id_ r.cells = r := fun _ => rfl
  have hA : ∀ (x : TRow) (g : Nat → Nat → Bool → Option (List TRow)) (v : List TRow), x.cells.length ≤ topN → (Ev (fun n N => (spec_Ahead n (TQuery.mk q.table q.where_ q.order q.down q.first q.show_ q.kids q.kidTable q.kidCol) r x).bind (g n N)) v ↔ Ev (fun n N => g n N (FAhead q r x)) v) := fun x g v hx => ev_bind (spec_Ahead_ev hrt hx)
  obtain ⟨p, hp⟩ : ∃ p, p = rows.findIdx (fun x => FAhead q r x) := ⟨_, rfl⟩
  have hpl : p ≤ rows.length := by rw [hp]; exact List.findIdx_le_length
  let S : Nat → Bool × List TRow := fun i => if i ≤ p then (false, rows.take i) else (true, rows.take p ++ [r] ++ (rows.take i).drop p)
  have hS0 : S 0 = (false, []) := by simp [S]
  have := ev_seq S rows.length (fun n N i (s : Bool × List TRow) => spec_l11Put.loop5 n (fun xy3 xy4 xy5 xy6 => (cond (!xy3) ((spec_l6Copy n (TRow.mk xy4 xy5)).bind fun xr7 => (roomB (xy6.length + ([xr7] : List TRow).length) 32 (some (xy6 ++ ([xr7] : List TRow))))) (some xy6))) N rows s.1 (i : Int) q.table q.where_ q.order q.down q.first q.show_ q.kids q.kidTable q.kidCol r.id_ r.cells s.2) (FPut q rows r) (fun i hi F hF => ?_) ?_
  · rw [hS0] at this; exact this
  · simp only [spec_l11Put.turn5, spec_l11Put.step5, Int.toNat_natCast, W_up hi ht, e0]
    have hx := ahead_idx (q := q) (r := r) hi
    rw [← hp] at hx
    have hlt : (S i).2.length ≤ rows.length + 1 := by simp only [S]; split <;> simp <;> omega
    simp only [ev_cond, ev_inB, hA _ _ _ (getD_cells (rows := rows) ⟨ht, fun x hx => by have := h.2 x hx; simp only [capR] at this; simp only [topN]; omega⟩ i), l6Copy_b hr, ev_roomB, lt_up hi, in_up hi]
    refine ⟨fun _ => ⟨fun hn => ⟨trivial, fun ha => ⟨by simp; omega, trivial, by simp; omega, ?_⟩, fun ha => ⟨trivial, by simp; omega, ?_⟩⟩, fun hn => ⟨trivial, by simp; omega, ?_⟩⟩, fun h => by cases h⟩
    all_goals (by_cases hle : i ≤ p)
    · have e : i = p := by rw [hx hle] at ha; exact of_decide_eq_true ha
      subst e
      simp only [S, if_neg (show ¬ i + 1 ≤ i by omega), if_pos (Nat.le_refl i), take_next TRow.dflt hi, List.drop_append_of_le_length (show i ≤ (rows.take i).length by simp; omega), List.drop_eq_nil_of_le (show (rows.take i).length ≤ i by simp; omega), List.nil_append] at hF ⊢
      exact hF
    · simp only [S, if_neg hle] at hn; cases hn
    · have e : i ≠ p := by rw [hx hle] at ha; exact of_decide_eq_false ha
      simp only [S, if_pos hle, if_pos (show i + 1 ≤ p by omega), take_next TRow.dflt hi] at hF ⊢
      exact hF
    · simp only [S, if_neg hle] at hn; cases hn
    · simp only [S, if_pos hle] at hn; cases hn
    · simp only [S, if_neg hle, if_neg (show ¬ i + 1 ≤ p by omega), take_mid TRow.dflt hi (show p ≤ i by omega)] at hF ⊢
      exact hF
  · simp only [spec_l11Put.turn5, spec_l11Put.step5, lt_end, cond_false, e0, ev_cond, l6Copy_b hr, ev_roomB, ev_some]
    unfold FPut
    rw [← hp]
    by_cases hle : rows.length ≤ p
    · have e : rows.length = p := by omega
      simp only [S, if_pos hle, ← e]
      simp; omega
    · simp only [S, if_neg hle]
      simp
theorem idx_getD (q : TQuery) (r : TRow) (rows : List TRow) : (if rows.findIdx (fun x => FAhead q r x) < rows.length then ((rows.findIdx (fun x => FAhead q r x) : Nat) : Int) else -1) < 0 ↔ rows.findIdx (fun x => FAhead q r x) = rows.length := by
  have := List.findIdx_le_length (xs := rows) (p := fun x => FAhead q r x)
  split <;> omega
theorem impl_rowPut_ev {q : TQuery} {rows : List TRow} {r : TRow} (h : lenR capR rows) (hr : r.cells.length ≤ capR) : Ev (fun n _ => impl_rowPut n q rows r) (FPut q rows r) := by
  refine ev_succ ?_
  have hl := h.1
  simp only [capR] at hl
  have ht : rows.length ≤ topN := by simp only [topN]; omega
  have hrt : r.cells.length ≤ topN := by simp only [topN]; simp only [capR] at hr; omega
  have e0 : ∀ r : TRow, TRow.mk r.id_ r.cells = r := fun _ => rfl
  have hA : ∀ (x : TRow), x.cells.length ≤ topN → Ev (fun n _ => impl_rowPut_f1 n x q.table q.where_ q.order q.down q.first q.show_ q.kids q.kidTable q.kidCol r.id_ r.cells) (FAhead q r x) := fun x hx =>
    ev_succ (by simp only [impl_rowPut_f1, e0, ev_bind (impl_Ahead_ev (q := q) hrt hx), ev_some])
  have hI : Ev (fun n _ => slices_IndexFunc_Row_impl_rowPut_f1 n rows q.table q.where_ q.order q.down q.first q.show_ q.kids q.kidTable q.kidCol r.id_ r.cells) (if rows.findIdx (fun x => FAhead q r x) < rows.length then ((rows.findIdx (fun x => FAhead q r x) : Nat) : Int) else -1) := by
    refine ev_succ ?_
    rw [← foldFrom_idx TRow.dflt]
    simp only [slices_IndexFunc_Row_impl_rowPut_f1]
    refine ev_fold (fun n N i => slices_IndexFunc_Row_impl_rowPut_f1.loop3 n (some (-1)) N rows q.table q.where_ q.order q.down q.first q.show_ q.kids q.kidTable q.kidCol r.id_ r.cells (rows.length : Int) (i : Int)) _ (fun i u hi ih => ?_) ?_
    · simp only [slices_IndexFunc_Row_impl_rowPut_f1.turn3, slices_IndexFunc_Row_impl_rowPut_f1.step3, Int.toNat_natCast, W_up hi ht, ev_cond, ev_inB, ev_bind (hA _ (getD_cells (rows := rows) ⟨ht, fun x hx => by have := h.2 x hx; simp only [capR] at this; simp only [topN]; omega⟩ i)), ev_some, ev_iff ih, lt_up hi, in_up hi]
      clear ih
      grind
    · simp only [slices_IndexFunc_Row_impl_rowPut_f1.turn3, slices_IndexFunc_Row_impl_rowPut_f1.step3, lt_end, cond_false, ev_some]
  have hp := List.findIdx_le_length (xs := rows) (p := fun x => FAhead q r x)
  have hN : ∀ i : Nat, i ≤ rows.length → Ev (fun n _ => slices_Insert_Row n rows (i : Int) [r]) (rows.take i ++ [r] ++ rows.drop i) := fun i hi => by
    refine ev_succ ?_
    simp only [slices_Insert_Row, nInsert, ev_cond, ev_some, ev_none, Int.toNat_natCast]
    simp; omega
  simp only [impl_rowPut, ev_bind hI, ev_cond, ev_some, ev_bind (copyRows_ev h), copyRow_b hr, ev_bind (hN rows.length (Nat.le_refl _)), decide_eq_true_eq, decide_eq_false_iff_not, idx_getD]
  refine ⟨fun e => ?_, fun e => ?_⟩
  · unfold FPut; rw [e]
  · rw [if_pos (by omega)]
    simp only [ev_bind (hN _ hp), ev_some]
    rfl
end Go.Pi
end
section
set_option linter.unusedVariables false
set_option maxRecDepth 100000
set_option linter.unusedSimpArgs false
namespace Go.Pi
/-! how many kids each has -/
def kidPos (kids : List TKid) (id : Int) : Nat := kids.findIdx (fun k => decide (k.id_ ≥ id))
def kidMid (k : TKid) (id by_ : Int) : List TKid :=
  cond (k.id_ == id) (cond (decide (W (k.n_ + by_) > 0)) [TKid.mk id (W (k.n_ + by_))] []) (cond (decide (by_ > 0)) [TKid.mk id by_, k] [k])
def FKid (kids : List TKid) (id by_ : Int) : List TKid :=
  cond (decide (kidPos kids id < kids.length)) (kids.take (kidPos kids id) ++ kidMid (kids.getD (kidPos kids id) TKid.dflt) id by_ ++ kids.drop (kidPos kids id + 1)) (cond (decide (by_ > 0)) (kids ++ [TKid.mk id by_]) kids)
theorem kid_idx {kids : List TKid} {id : Int} {i : Nat} (hi : i < kids.length) (hle : i ≤ kidPos kids id) : ((kids.getD i TKid.dflt).id_ ≥ id ↔ i = kidPos kids id) ∧ ((kids.getD i TKid.dflt).id_ < id ↔ i ≠ kidPos kids id) := by
  have key : (kids.getD i TKid.dflt).id_ ≥ id ↔ i = kidPos kids id := by
    rw [List.getD_eq_getElem?_getD, List.getElem?_eq_getElem hi, Option.getD_some]
    unfold kidPos at hle ⊢
    constructor
    · intro h
      refine Classical.byContradiction fun hne => ?_
      have := List.not_of_lt_findIdx (xs := kids) (p := fun k => decide (k.id_ ≥ id)) (i := i) (by omega)
      rw [decide_eq_true h] at this; cases this
    · intro h
      have := List.findIdx_getElem (xs := kids) (p := fun k => decide (k.id_ ≥ id)) (w := by omega)
      simp only [← h] at this
      exact of_decide_eq_true this
  exact ⟨key, fun h e => by have := key.2 e; omega, fun h => by have := fun g => h (key.1 g); omega⟩
theorem kidMid_len (k : TKid) (id by_ : Int) : (kidMid k id by_).length ≤ 2 := by
  unfold kidMid
  cases (k.id_ == id) <;> simp only [cond_true, cond_false]
  · cases decide (by_ > 0) <;> simp
  · cases decide (W (k.n_ + by_) > 0) <;> simp
theorem take_midK {a m : List TKid} {i p : Nat} (hi : i < a.length) (h : p + 1 ≤ i) : a.take p ++ m ++ (a.take (i + 1)).drop (p + 1) = a.take p ++ m ++ (a.take i).drop (p + 1) ++ [a.getD i TKid.dflt] := by
  rw [take_next TKid.dflt hi, List.drop_append_of_le_length (by simp; omega)]
  simp
theorem spec_KidPut_ev {kids : List TKid} {id by_ : Int} (h : kids.length ≤ capR) : Ev (fun n _ => spec_KidPut n kids id by_) (FKid kids id by_) := by
  refine ev_succ ?_
  have hl := h
  simp only [capR] at hl
  have ht : kids.length ≤ topN := by simp only [topN]; omega
  simp only [spec_KidPut]
  obtain ⟨p, hp⟩ : ∃ p, p = kidPos kids id := ⟨_, rfl⟩
  have hpl : p ≤ kids.length := by rw [hp]; exact List.findIdx_le_length
  obtain ⟨m, hm⟩ : ∃ m, m = kidMid (kids.getD p TKid.dflt) id by_ := ⟨_, rfl⟩
  have hml : m.length ≤ 2 := by rw [hm]; exact kidMid_len _ _ _
  let S : Nat → Bool × List TKid := fun i => if i ≤ p then (false, kids.take i) else (true, kids.take p ++ m ++ (kids.take i).drop (p + 1))
  have hS0 : S 0 = (false, []) := by simp [S]
  have := ev_seq S kids.length (fun n N i (s : Bool × List TKid) => spec_KidPut.loop5 n (fun xy1 xy2 xy3 xy4 => (cond (!xy3) (cond (decide (xy2 > 0)) (roomB (xy4.length + ([(TKid.mk xy1 xy2)] : List TKid).length) 16 (some (xy4 ++ ([(TKid.mk xy1 xy2)] : List TKid)))) (some xy4)) (some xy4))) N kids id by_ s.1 (i : Int) s.2) (FKid kids id by_) (fun i hi F hF => ?_) ?_
  · rw [hS0] at this; exact this
  · have hx := kid_idx (kids := kids) (id := id) hi
    rw [← hp] at hx
    have hlt : (S i).2.length ≤ kids.length + 2 := by simp only [S]; split <;> simp <;> omega
    obtain ⟨k, hk⟩ : ∃ k, k = kids.getD i TKid.dflt := ⟨_, rfl⟩
    simp only [spec_KidPut.turn5, spec_KidPut.step5, Int.toNat_natCast, W_up hi ht, ev_cond, ev_inB, ev_roomB, lt_up hi, in_up hi, ← hk]
    refine ⟨fun _ => ⟨trivial, ?_⟩, fun h => by cases h⟩
    by_cases hle : i ≤ p
    · have s1 : S i = (false, kids.take i) := by simp only [S, if_pos hle]
      rw [s1] at hlt ⊢
      by_cases e : i = p
      · have hge : k.id_ ≥ id := by rw [hk]; exact (hx hle).1.2 e
        subst e
        have s2 : S (i + 1) = (true, kids.take i ++ m) := by
          simp only [S, if_neg (show ¬ i + 1 ≤ i by omega)]
          rw [List.drop_eq_nil_of_le (by simp; omega), List.append_nil]
        rw [s2, hm, ← hk] at hF
        unfold kidMid at hF
        simp only [hge, decide_true, Bool.not_false, cond_true] at hF ⊢
        cases h1 : (k.id_ == id) <;> cases h2 : decide (by_ > 0) <;> cases h3 : decide (W (k.n_ + by_) > 0) <;> simp only [h1, h2, h3, cond_true, cond_false] at hF ⊢
        all_goals (repeat' (first | apply And.intro | intro _))
        all_goals (first | contradiction | exact hF | (simpa using hF) | (simp; omega))
      · have hlt2 : ¬ k.id_ ≥ id := by rw [hk]; exact fun h => e ((hx hle).1.1 h)
        have s2 : S (i + 1) = (false, kids.take i ++ [k]) := by
          simp only [S, if_pos (show i + 1 ≤ p by omega), hk, take_next TKid.dflt hi]
        rw [s2] at hF
        simp only [hlt2, decide_false]
        repeat' (first | apply And.intro | intro _)
        all_goals (first | contradiction | exact hF | (simpa using hF) | (simp; omega))
    · have s1 : S i = (true, kids.take p ++ m ++ (kids.take i).drop (p + 1)) := by simp only [S, if_neg hle]
      have s2 : S (i + 1) = (true, kids.take p ++ m ++ (kids.take i).drop (p + 1) ++ [k]) := by
        simp only [S, if_neg (show ¬ i + 1 ≤ p by omega), hk]
        rw [take_midK hi (by omega)]
      rw [s1] at hlt ⊢
      rw [s2] at hF
      repeat' (first | apply And.intro | intro _)
      all_goals (first | contradiction | exact hF | (simp at hlt ⊢; omega))
  · simp only [spec_KidPut.turn5, spec_KidPut.step5, lt_end, cond_false, ev_cond, ev_roomB, ev_some]
    unfold FKid
    rw [← hp, ← hm]
    by_cases hle : kids.length ≤ p
    · have e : p = kids.length := by omega
      have s1 : S kids.length = (false, kids) := by simp only [S, if_pos hle, List.take_length]
      rw [s1, decide_eq_false (show ¬ p < kids.length by omega)]
      simp only [cond_false]
      refine ⟨fun _ => ⟨fun h => ⟨by simp; omega, by rw [h]; rfl⟩, fun h => by rw [h]; rfl⟩, fun h => by cases h⟩
    · have s1 : S kids.length = (true, kids.take p ++ m ++ kids.drop (p + 1)) := by simp only [S, if_neg hle, List.take_length]
      rw [s1, decide_eq_true (show p < kids.length by omega)]
      exact ⟨fun h => (by cases h), fun _ => rfl⟩
theorem impl_KidPut_ev {kids : List TKid} {id by_ : Int} (h : kids.length ≤ capR) : Ev (fun n _ => impl_KidPut n kids id by_) (FKid kids id by_) := by
  refine ev_succ ?_
  have hl := h
  simp only [capR] at hl
  have ht : kids.length ≤ topN := by simp only [topN]; omega
  simp only [impl_KidPut, ev_roomB, List.nil_append, List.length_nil, Nat.zero_add]
  refine ⟨by omega, ?_⟩
  obtain ⟨p, hp⟩ : ∃ p, p = kidPos kids id := ⟨_, rfl⟩
  have hpl : p ≤ kids.length := by rw [hp]; exact List.findIdx_le_length
  have hN : ∀ i : Nat, i ≤ kids.length → ∀ k, Ev (fun n _ => slices_Insert_Kid n kids (i : Int) [k]) (kids.take i ++ [k] ++ kids.drop i) := fun i hi k => by
    refine ev_succ ?_
    simp only [slices_Insert_Kid, nInsert, ev_cond, ev_some, ev_none, Int.toNat_natCast]
    simp; omega
  have hD : ∀ (l : List TKid) (i : Nat), i < l.length → l.length ≤ topN → Ev (fun n _ => slices_Delete_Kid n l (i : Int) (W ((i : Int) + 1))) (l.take i ++ l.drop (i + 1)) := fun l i hi hl => by
    refine ev_succ ?_
    rw [W_up hi hl]
    simp only [slices_Delete_Kid, nDelete, ev_cond, ev_some, ev_none, Int.toNat_natCast]
    simp; omega
  refine ev_seq (fun _ => ()) p (fun n N i (_ : Unit) => impl_KidPut.loop4 n _ N id by_ (i : Int) kids) _ (fun i hi F hF => ?_) ?_
  · have hx := kid_idx (kids := kids) (id := id) (i := i) (by omega) (by omega)
    rw [← hp] at hx
    have hlt := hx.2.2 (by omega)
    simp only [impl_KidPut.turn4, impl_KidPut.step4, Int.toNat_natCast, W_up (show i < kids.length by omega) ht, ev_cond, ev_inB, lt_up (show i < kids.length by omega), in_up (show i < kids.length by omega), hlt, decide_true]
    exact ⟨fun _ => ⟨trivial, fun _ => hF, fun h => by cases h⟩, fun h => by cases h⟩
  · unfold FKid
    rw [← hp]
    have hstep : ∀ (n N : Nat), impl_KidPut.loop4 n = impl_KidPut.loop4 n := fun _ _ => rfl
    by_cases hlt : p < kids.length
    · have hx := (kid_idx (kids := kids) (id := id) (i := p) hlt (by omega)).2
      rw [← hp] at hx
      have hge : ¬ (kids.getD p TKid.dflt).id_ < id := fun h => absurd rfl (hx.1 h)
      obtain ⟨k, hk⟩ : ∃ k, k = kids.getD p TKid.dflt := ⟨_, rfl⟩
      have hset : ∀ x : TKid, (kids.set p x).getD p TKid.dflt = x := fun x => getD_put TKid.dflt hlt x
      have hst : ∀ x : TKid, (kids.set p x).take p = kids.take p := fun x => List.take_set_of_le (Nat.le_refl p)
      have hsd : ∀ x : TKid, (kids.set p x).drop (p + 1) = kids.drop (p + 1) := fun x => List.drop_set_of_lt (by omega)
      have hsl : ∀ x : TKid, (kids.set p x).length = kids.length := fun x => List.length_set
      have hs2 : ∀ x : TKid, kids.set p x = kids.take p ++ [x] ++ kids.drop (p + 1) := fun x => by rw [List.set_eq_take_append_cons_drop, if_pos hlt]; simp
      have hd : kids.drop p = k :: kids.drop (p + 1) := by rw [hk]; exact drop_step TKid.dflt hlt
      have hDx : ∀ x, Ev (fun n _ => slices_Delete_Kid n (kids.set p x) (p : Int) (W ((p : Int) + 1))) (kids.take p ++ kids.drop (p + 1)) := fun x => by
        have := hD (kids.set p x) p (by rw [hsl]; exact hlt) (by rw [hsl]; exact ht)
        rwa [hst, hsd] at this
      have hne : ((p : Int) == (kids.length : Int)) = false := by simp; omega
      simp only [impl_KidPut.turn4, impl_KidPut.step4, Int.toNat_natCast, ev_cond, ev_inB, lt_up hlt, in_up hlt, hge, decide_false, hne, ev_some, ← hk, hset, hsl, ev_bind (hN p hpl _), ev_bind (hDx _), decide_eq_true (show p < kids.length from hlt), cond_true, hd]
      unfold kidMid
      cases h1 : (k.id_ == id) <;> cases h2 : decide (by_ > 0) <;> cases h3 : decide (W (k.n_ + by_) > 0) <;> simp only [cond_true, cond_false]
      all_goals (repeat' (first | apply And.intro | intro _))
      all_goals (try contradiction)
      all_goals (simp_all <;> omega)
    · have e : p = kids.length := by omega
      subst e
      simp only [impl_KidPut.turn4, impl_KidPut.step4, lt_end, cond_false, ev_cond, ev_some, ev_bind (hN kids.length (Nat.le_refl _) _), beq_self_eq_true, decide_eq_false hlt, List.take_length, List.drop_length, List.append_nil]
      cases h2 : decide (by_ > 0) <;> simp only [cond_true, cond_false]
      all_goals (repeat' (first | apply And.intro | intro _))
      all_goals (try contradiction)
      all_goals (simp_all <;> omega)
end Go.Pi
end
section
set_option linter.unusedVariables false
set_option maxRecDepth 100000
set_option linter.unusedSimpArgs false
namespace Go.Pi
def lenC (c : Nat) (x : TChange) : Prop := x.old.cells.length ≤ c ∧ x.new.cells.length ≤ c
theorem up_topN {c n : Nat} (h : n ≤ c) (hc : c ≤ capR) : n ≤ topN := by simp only [capR] at hc; simp only [topN]; omega
theorem lenR.upto {c d : Nat} {r : List TRow} (h : lenR c r) (hc : c ≤ d) : lenR d r := ⟨Nat.le_trans h.1 hc, fun x hx => Nat.le_trans (h.2 x hx) hc⟩
theorem lenV.upto {c d : Nat} {v : TView} (h : lenV c v) (hc : c ≤ d) : lenV d v := ⟨⟨Nat.le_trans h.1.1 hc, Nat.le_trans h.1.2 hc⟩, h.2.1.upto hc, Nat.le_trans h.2.2 hc⟩
section
variable {β : Type}
theorem l9Copy_b {q : TQuery} (h : lenQ capR q) {g : Nat → Nat → TQuery → Option β} {v : β} : Ev (fun n N => (spec_l9Copy n q).bind (g n N)) v ↔ Ev (fun n N => g n N q) v :=
  ev_bind (ev_succ (by have h1 := h.1; have h2 := h.2; simp only [capR] at h1 h2; simp only [spec_l9Copy, ev_roomB, ev_some, List.nil_append, and_true, List.length_nil]; omega))
theorem copyQuery_b {q : TQuery} (h : lenQ capR q) {g : Nat → Nat → TQuery → Option β} {v : β} : Ev (fun n N => (impl_copyQuery n q).bind (g n N)) v ↔ Ev (fun n N => g n N q) v :=
  ev_bind (ev_succ (by have h1 := h.1; have h2 := h.2; simp only [capR] at h1 h2; simp only [impl_copyQuery, copyInts_b h.2, ev_roomB, ev_some, List.nil_append, and_true, List.length_nil]; omega))
theorem l13Copy_b {x : TView} (h : lenV capR x) {g : Nat → Nat → TView → Option β} {v : β} : Ev (fun n N => (spec_l13Copy n x).bind (g n N)) v ↔ Ev (fun n N => g n N x) v :=
  ev_bind (ev_succ (by have h1 := h.2.2; simp only [capR] at h1; simp only [spec_l13Copy, l9Copy_b h.1, ev_bind (l6Rows_ev h.2.1), ev_roomB, ev_some, List.nil_append, and_true, List.length_nil]; omega))
theorem copyView_b {x : TView} (h : lenV capR x) {g : Nat → Nat → TView → Option β} {v : β} : Ev (fun n N => (impl_copyView n x).bind (g n N)) v ↔ Ev (fun n N => g n N x) v :=
  ev_bind (ev_succ (by have h1 := h.2.2; simp only [capR] at h1; simp only [impl_copyView, copyQuery_b h.1, ev_bind (copyRows_ev h.2.1), ev_roomB, ev_some, List.nil_append, and_true, List.length_nil]; omega))
theorem l16Copy_b {x : TSess} (h : lenS capR x) {g : Nat → Nat → TSess → Option β} {v : β} : Ev (fun n N => (spec_l16Copy n x).bind (g n N)) v ↔ Ev (fun n N => g n N x) v :=
  ev_bind (ev_succ (by simp only [spec_l16Copy, l13Copy_b h.1, l13Copy_b h.2, ev_some]))
theorem copySess_b {x : TSess} (h : lenS capR x) {g : Nat → Nat → TSess → Option β} {v : β} : Ev (fun n N => (impl_copySess n x).bind (g n N)) v ↔ Ev (fun n N => g n N x) v :=
  ev_bind (ev_succ (by simp only [impl_copySess, copyView_b h.1, copyView_b h.2, ev_some]))
end
def FVRows (v : TView) (c : TChange) : List TRow :=
  cond (c.table == v.q.table) (cond (c.has && FMatches v.q c.new) (FPut v.q (cond c.had (FDrop v.rows c.old.id_) v.rows) c.new) (cond c.had (FDrop v.rows c.old.id_) v.rows)) v.rows
def FVKids (v : TView) (c : TChange) : List TKid :=
  cond (v.q.kids && (c.table == v.q.kidTable)) (cond c.has (FKid (cond c.had (FKid v.kids (FCell c.old v.q.kidCol) (-1)) v.kids) (FCell c.new v.q.kidCol) 1) (cond c.had (FKid v.kids (FCell c.old v.q.kidCol) (-1)) v.kids)) v.kids
def FChange (v : TView) (c : TChange) : TView := ⟨v.q, FVRows v c, FVKids v c⟩
theorem FDrop_len {c : Nat} {rows : List TRow} {id : Int} (h : lenR c rows) : lenR c (FDrop rows id) := by
  unfold FDrop
  exact ⟨Nat.le_trans (List.length_eraseIdx_le _ _) h.1, fun x hx => h.2 x (List.mem_of_mem_eraseIdx hx)⟩
theorem FPut_len {c : Nat} {q : TQuery} {rows : List TRow} {r : TRow} (h : lenR c rows) (hr : r.cells.length ≤ c) : lenR (c + 1) (FPut q rows r) := by
  unfold FPut
  refine ⟨by have := h.1; simp; omega, fun x hx => ?_⟩
  rcases List.mem_append.1 hx with hx | hx
  · rcases List.mem_append.1 hx with hx | hx
    · exact Nat.le_succ_of_le (h.2 x (List.mem_of_mem_take hx))
    · rw [List.mem_singleton.1 hx]; omega
  · exact Nat.le_succ_of_le (h.2 x (List.mem_of_mem_drop hx))
theorem FKid_len {kids : List TKid} {id by_ : Int} : (FKid kids id by_).length ≤ kids.length + 1 := by
  unfold FKid
  have := kidMid_len (kids.getD (kidPos kids id) TKid.dflt) id by_
  by_cases h : kidPos kids id < kids.length
  · rw [decide_eq_true h, cond_true]; simp only [List.length_append, List.length_take, List.length_drop]; omega
  · rw [decide_eq_false h]; cases decide (by_ > 0) <;> simp
theorem spec_ViewChange_ev {c : Nat} {v : TView} {x : TChange} (h : lenV c v) (hx : lenC c x) (hc : c + 1 ≤ capR) : Ev (fun n _ => spec_ViewChange n v x) (FChange v x) := by
  refine ev_succ ?_
  have hv := h.upto (show c ≤ capR by omega)
  have hd := FDrop_len (id := x.old.id_) hv.2.1
  have hr : x.new.cells.length ≤ capR := by have := hx.2; omega
  have hk := hv.2.2
  have hk2 : ∀ id b, (FKid v.kids id b).length ≤ capR := fun id b => by have := FKid_len (kids := v.kids) (id := id) (by_ := b); have := h.2.2; omega
  simp only [spec_ViewChange, l13Copy_b hv, ev_cond, ev_bind (spec_RowDrop_ev (id := x.old.id_) hv.2.1), ev_bind (spec_Matches_ev (q := v.q) (r := x.new) (up_topN hv.1.1 (Nat.le_refl _)) (up_topN hr (Nat.le_refl _))), ev_bind (spec_l11Put_ev (q := v.q) (r := x.new) hd hr), ev_bind (spec_l11Put_ev (q := v.q) (r := x.new) hv.2.1 hr),
    ev_bind (spec_l9Cell_ev (r := x.old) (col := v.q.kidCol) (up_topN hx.1 (by omega))), ev_bind (spec_l9Cell_ev (r := x.new) (col := v.q.kidCol) (up_topN hx.2 (by omega))),
    ev_bind (spec_KidPut_ev (kids := v.kids) (id := FCell x.old v.q.kidCol) (by_ := -1) hk), ev_bind (spec_KidPut_ev (kids := v.kids) (id := FCell x.new v.q.kidCol) (by_ := 1) hk), ev_bind (spec_KidPut_ev (id := FCell x.new v.q.kidCol) (by_ := 1) (hk2 (FCell x.old v.q.kidCol) (-1))), ev_some]
  unfold FChange FVRows FVKids
  cases h1 : (x.table == v.q.table) <;> cases h2 : x.had <;> cases h3 : x.has <;> cases h4 : FMatches v.q x.new <;> cases h5 : v.q.kids <;> cases h6 : (x.table == v.q.kidTable) <;> simp
theorem impl_ViewChange_ev {c : Nat} {v : TView} {x : TChange} (h : lenV c v) (hx : lenC c x) (hc : c + 1 ≤ capR) : Ev (fun n _ => impl_ViewChange n v x) (FChange v x) := by
  refine ev_succ ?_
  have hv := h.upto (show c ≤ capR by omega)
  have hd := FDrop_len (id := x.old.id_) hv.2.1
  have hr : x.new.cells.length ≤ capR := by have := hx.2; omega
  have hk := hv.2.2
  have hk2 : ∀ id b, (FKid v.kids id b).length ≤ capR := fun id b => by have := FKid_len (kids := v.kids) (id := id) (by_ := b); have := h.2.2; omega
  simp only [impl_ViewChange, copyView_b hv, ev_cond, ev_bind (impl_RowDrop_ev (id := x.old.id_) hv.2.1), ev_bind (impl_Matches_ev (q := v.q) (r := x.new) (up_topN hv.1.1 (Nat.le_refl _)) (up_topN hr (Nat.le_refl _))), ev_bind (impl_rowPut_ev (q := v.q) (r := x.new) hd hr), ev_bind (impl_rowPut_ev (q := v.q) (r := x.new) hv.2.1 hr),
    ev_bind (cellOf_ev (r := x.old) (col := v.q.kidCol) (up_topN hx.1 (by omega))), ev_bind (cellOf_ev (r := x.new) (col := v.q.kidCol) (up_topN hx.2 (by omega))),
    ev_bind (impl_KidPut_ev (kids := v.kids) (id := FCell x.old v.q.kidCol) (by_ := -1) hk), ev_bind (impl_KidPut_ev (kids := v.kids) (id := FCell x.new v.q.kidCol) (by_ := 1) hk), ev_bind (impl_KidPut_ev (id := FCell x.new v.q.kidCol) (by_ := 1) (hk2 (FCell x.old v.q.kidCol) (-1))), ev_some]
  unfold FChange FVRows FVKids
  cases h1 : (x.table == v.q.table) <;> cases h2 : x.had <;> cases h3 : x.has <;> cases h4 : FMatches v.q x.new <;> cases h5 : v.q.kids <;> cases h6 : (x.table == v.q.kidTable) <;> simp
end Go.Pi
end
