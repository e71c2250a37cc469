/-
  DERIVED. GIVEN WITH THE SEED: THE CARDS: each row of YtinngjbiigjkoaaGreatDoorRows.lean that lists a variable, with what it lists TIED to the program's text (the seventh form; the later family's looks); each row that meets fmt, with fmt's text TOLD by the authors' own Lean function (tested against real Go, not proved from fmt's source: count such statements apart). THE CARD IS WHAT COUNTS. Prove the row's statement (the work); the ties are given (YtinngjbiigjkoaaGreatDoorTie.lean); close each card by the builder's one call (the guide's Derived/Test/ToyasCard.lean, 'card_holds'). Laid BY PROGRAM, IN A SANDBOX (cutbox-door.mjs). By AI agents, Wed Nov 11 2026. No macro, syntax, notation, axiom, sorry.
-/
import Derived.Test.YtinngjbiigjkoaaGreatDoorRows
import GoSem.ClaimSeven
namespace Go.Proofs.YtinngjbiigjkoaaGreatDoor
namespace Rows

/-- THE TIED CARD OF 'laws.FnExactSessTake'. -/
def fnExactSessTakeCard : Claim7 := { stood := { row := fnExactSessTakeRow, standIns := [], harness := (true, "5aaf69b654c27643c63c551931c080c097ace5a41145a6d7a5a8d6db4f23e185"), looks := false }, kinds := [], alts := [], laidByText := true, laidKinds := [.data, .data, .data, .data, .pinned], laidTests := true, laidLooks := .later }
def FnExactSessTakeCardSaid : Prop := Claim7.holds Tryz.pinned (.plain (OpenSpec.ofChange fnExactSessTakeSpec)) fnExactSessTakeCard

/-- THE SECOND FORM's CARD OF 'laws.FnExactSessTake'. -/
def fnExactSessTakeUptoCard : Claim7 := { stood := { row := fnExactSessTakeUptoRow, standIns := [], harness := (true, "5aaf69b654c27643c63c551931c080c097ace5a41145a6d7a5a8d6db4f23e185"), looks := false }, kinds := [], alts := [], laidByText := true, laidKinds := [.data, .data, .data, .data, .pinned], laidTests := true, laidLooks := .later }
def FnExactSessTakeUptoCardSaid : Prop := Claim7.holds Tryz.pinned (.plain (OpenSpec.upto fnExactSessTakeSpec)) fnExactSessTakeUptoCard
end Rows
end Go.Proofs.YtinngjbiigjkoaaGreatDoor
