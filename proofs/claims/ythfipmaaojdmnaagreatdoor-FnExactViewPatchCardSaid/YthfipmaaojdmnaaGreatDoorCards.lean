/-
  DERIVED. GIVEN WITH THE SEED: THE CARDS: each row of YthfipmaaojdmnaaGreatDoorRows.lean that lists a variable, with what it lists TIED to the program's text (the seventh form; the later family's looks); each row that meets fmt, with fmt's text TOLD by the authors' own Lean function (tested against real Go, not proved from fmt's source: count such statements apart). THE CARD IS WHAT COUNTS. Prove the row's statement (the work); the ties are given (YthfipmaaojdmnaaGreatDoorTie.lean); close each card by the builder's one call (the guide's Derived/Test/ToyasCard.lean, 'card_holds'). Laid BY PROGRAM, IN A SANDBOX (cutbox-door.mjs). By AI agents, Wed Nov 11 2026. No macro, syntax, notation, axiom, sorry.
-/
import Derived.Test.YthfipmaaojdmnaaGreatDoorRows
import GoSem.ClaimSeven
namespace Go.Proofs.YthfipmaaojdmnaaGreatDoor
namespace Rows

/-- THE TIED CARD OF 'laws.FnKidsIn'. -/
def fnKidsInCard : Claim7 := { stood := { row := fnKidsInRow, standIns := [], harness := (true, "304d6da51f0c7175cb2df9d547ed57e6da802ed516144d25710dbb5a57e39f95"), looks := true }, kinds := [], alts := [], laidByText := true, laidKinds := [.data, .data, .data], laidTests := true, laidLooks := .later }
def FnKidsInCardSaid : Prop := Claim7.holds Tryz.pinned (.plain (OpenSpec.ofChange fnKidsInSpec)) fnKidsInCard

/-- THE TIED CARD OF 'laws.FnExactViewPatch'. -/
def fnExactViewPatchCard : Claim7 := { stood := { row := fnExactViewPatchRow, standIns := [], harness := (true, "304d6da51f0c7175cb2df9d547ed57e6da802ed516144d25710dbb5a57e39f95"), looks := true }, kinds := [], alts := [], laidByText := true, laidKinds := [.data, .data, .data], laidTests := true, laidLooks := .later }
def FnExactViewPatchCardSaid : Prop := Claim7.holds Tryz.pinned (.plain (OpenSpec.ofChange fnExactViewPatchSpec)) fnExactViewPatchCard

/-- THE TIED CARD OF 'laws.FnExactShorter'. -/
def fnExactShorterCard : Claim7 := { stood := { row := fnExactShorterRow, standIns := [], harness := (true, "304d6da51f0c7175cb2df9d547ed57e6da802ed516144d25710dbb5a57e39f95"), looks := true }, kinds := [], alts := [], laidByText := true, laidKinds := [.data, .data, .data, .data, .pinned], laidTests := true, laidLooks := .later }
def FnExactShorterCardSaid : Prop := Claim7.holds Tryz.pinned (.plain (OpenSpec.ofChange fnExactShorterSpec)) fnExactShorterCard

/-- THE TIED CARD OF 'laws.FnExactEventRead'. -/
def fnExactEventReadCard : Claim7 := { stood := { row := fnExactEventReadRow, standIns := [], harness := (true, "304d6da51f0c7175cb2df9d547ed57e6da802ed516144d25710dbb5a57e39f95"), looks := true }, kinds := [], alts := [], laidByText := true, laidKinds := [.data, .data, .data, .data, .sentinel, .sentinel, .pinned], laidTests := true, laidLooks := .later }
def FnExactEventReadCardSaid : Prop := Claim7.holds Tryz.pinned (.plain (OpenSpec.ofChange fnExactEventReadSpec)) fnExactEventReadCard

/-- THE SECOND FORM's CARD OF 'laws.FnKidsIn'. -/
def fnKidsInUptoCard : Claim7 := { stood := { row := fnKidsInUptoRow, standIns := [], harness := (true, "304d6da51f0c7175cb2df9d547ed57e6da802ed516144d25710dbb5a57e39f95"), looks := true }, kinds := [], alts := [], laidByText := true, laidKinds := [.data, .data, .data], laidTests := true, laidLooks := .later }
def FnKidsInUptoCardSaid : Prop := Claim7.holds Tryz.pinned (.plain (OpenSpec.upto fnKidsInSpec)) fnKidsInUptoCard

/-- THE SECOND FORM's CARD OF 'laws.FnExactViewPatch'. -/
def fnExactViewPatchUptoCard : Claim7 := { stood := { row := fnExactViewPatchUptoRow, standIns := [], harness := (true, "304d6da51f0c7175cb2df9d547ed57e6da802ed516144d25710dbb5a57e39f95"), looks := true }, kinds := [], alts := [], laidByText := true, laidKinds := [.data, .data, .data], laidTests := true, laidLooks := .later }
def FnExactViewPatchUptoCardSaid : Prop := Claim7.holds Tryz.pinned (.plain (OpenSpec.upto fnExactViewPatchSpec)) fnExactViewPatchUptoCard

/-- THE SECOND FORM's CARD OF 'laws.FnExactShorter'. -/
def fnExactShorterUptoCard : Claim7 := { stood := { row := fnExactShorterUptoRow, standIns := [], harness := (true, "304d6da51f0c7175cb2df9d547ed57e6da802ed516144d25710dbb5a57e39f95"), looks := true }, kinds := [], alts := [], laidByText := true, laidKinds := [.data, .data, .data, .data, .pinned], laidTests := true, laidLooks := .later }
def FnExactShorterUptoCardSaid : Prop := Claim7.holds Tryz.pinned (.plain (OpenSpec.upto fnExactShorterSpec)) fnExactShorterUptoCard

/-- THE SECOND FORM's CARD OF 'laws.FnExactEventRead'. -/
def fnExactEventReadUptoCard : Claim7 := { stood := { row := fnExactEventReadUptoRow, standIns := [], harness := (true, "304d6da51f0c7175cb2df9d547ed57e6da802ed516144d25710dbb5a57e39f95"), looks := true }, kinds := [], alts := [], laidByText := true, laidKinds := [.data, .data, .data, .data, .sentinel, .sentinel, .pinned], laidTests := true, laidLooks := .later }
def FnExactEventReadUptoCardSaid : Prop := Claim7.holds Tryz.pinned (.plain (OpenSpec.upto fnExactEventReadSpec)) fnExactEventReadUptoCard
end Rows
end Go.Proofs.YthfipmaaojdmnaaGreatDoor
