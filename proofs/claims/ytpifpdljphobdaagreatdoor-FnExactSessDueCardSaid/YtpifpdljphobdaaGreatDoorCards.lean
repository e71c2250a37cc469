/-
  DERIVED. GIVEN WITH THE SEED: THE CARDS: each row of YtpifpdljphobdaaGreatDoorRows.lean that lists a variable, with what it lists TIED to the program's text (the seventh form; the later family's looks); each row that meets fmt, with fmt's text TOLD by the authors' own Lean function (tested against real Go, not proved from fmt's source: count such statements apart). THE CARD IS WHAT COUNTS. Prove the row's statement (the work); the ties are given (YtpifpdljphobdaaGreatDoorTie.lean); close each card by the builder's one call (the guide's Derived/Test/ToyasCard.lean, 'card_holds'). Laid BY PROGRAM, IN A SANDBOX (cutbox-door.mjs). By AI agents, Wed Nov 11 2026. No macro, syntax, notation, axiom, sorry.
-/
import Derived.Test.YtpifpdljphobdaaGreatDoorRows
import GoSem.ClaimSeven
namespace Go.Proofs.YtpifpdljphobdaaGreatDoor
namespace Rows

/-- THE TIED CARD OF 'laws.FnExactSessDue'. -/
def fnExactSessDueCard : Claim7 := { stood := { row := fnExactSessDueRow, standIns := [], harness := (true, "5da5858d9d3550809fab09fd394e6e6d9c33cb7b9a01076c03ea35228c0866a1"), looks := false }, kinds := [], alts := [], laidByText := true, laidKinds := [.data, .data, .data], laidTests := true, laidLooks := .later }
def FnExactSessDueCardSaid : Prop := Claim7.holds Tryz.pinned (.plain (OpenSpec.ofChange fnExactSessDueSpec)) fnExactSessDueCard

/-- THE SECOND FORM's CARD OF 'laws.FnExactSessDue'. -/
def fnExactSessDueUptoCard : Claim7 := { stood := { row := fnExactSessDueUptoRow, standIns := [], harness := (true, "5da5858d9d3550809fab09fd394e6e6d9c33cb7b9a01076c03ea35228c0866a1"), looks := false }, kinds := [], alts := [], laidByText := true, laidKinds := [.data, .data, .data], laidTests := true, laidLooks := .later }
def FnExactSessDueUptoCardSaid : Prop := Claim7.holds Tryz.pinned (.plain (OpenSpec.upto fnExactSessDueSpec)) fnExactSessDueUptoCard
end Rows
end Go.Proofs.YtpifpdljphobdaaGreatDoor
