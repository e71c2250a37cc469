/-
  DERIVED. GIVEN WITH THE SEED: THE CARDS: each row of YtpifpdljphobdaaDoorRows.lean that lists a variable, with what it lists TIED to the program's text (the seventh form; the later family's looks); each row that meets fmt, with fmt's text TOLD by the authors' own Lean function (tested against real Go, not proved from fmt's source: count such statements apart). THE CARD IS WHAT COUNTS. Prove the row's statement (the work); the ties are given (YtpifpdljphobdaaDoorTie.lean); close each card by the builder's one call (the guide's Derived/Test/ToyasCard.lean, 'card_holds'). Laid BY PROGRAM, IN A SANDBOX (cutbox-door.mjs). By AI agents, Wed Nov 11 2026. No macro, syntax, notation, axiom, sorry.
-/
import Derived.Test.YtpifpdljphobdaaDoorRows
import GoSem.ClaimSeven
namespace Go.Proofs.YtpifpdljphobdaaDoor
namespace Rows

/-- THE TIED CARD OF 'laws.FnExactPatchSize'. -/
def fnExactPatchSizeCard : Claim7 := { stood := { row := fnExactPatchSizeRow, standIns := [], harness := (true, "2d5eb3bb6760af19be87289cdbe5ce398cc56da72cf336d95db6c29f9c755de4"), looks := false }, kinds := [], alts := [], laidByText := true, laidKinds := [.data, .data, .data, .data, .pinned], laidTests := true, laidLooks := .later }
def FnExactPatchSizeCardSaid : Prop := Claim7.holds Tryd.pinned (.plain (OpenSpec.ofChange fnExactPatchSizeSpec)) fnExactPatchSizeCard

/-- THE SECOND FORM's CARD OF 'laws.FnExactPatchSize'. -/
def fnExactPatchSizeUptoCard : Claim7 := { stood := { row := fnExactPatchSizeUptoRow, standIns := [], harness := (true, "2d5eb3bb6760af19be87289cdbe5ce398cc56da72cf336d95db6c29f9c755de4"), looks := false }, kinds := [], alts := [], laidByText := true, laidKinds := [.data, .data, .data, .data, .pinned], laidTests := true, laidLooks := .later }
def FnExactPatchSizeUptoCardSaid : Prop := Claim7.holds Tryd.pinned (.plain (OpenSpec.upto fnExactPatchSizeSpec)) fnExactPatchSizeUptoCard
end Rows
end Go.Proofs.YtpifpdljphobdaaDoor
