/-
  DERIVED. GIVEN WITH THE SEED: THE CARDS: each row of YtilkdgbncfebkaaGreatDoorRows.lean that lists a variable, with what it lists TIED to the program's text (the seventh form; the later family's looks); each row that meets fmt, with fmt's text TOLD by the authors' own Lean function (tested against real Go, not proved from fmt's source: count such statements apart). THE CARD IS WHAT COUNTS. Prove the row's statement (the work); the ties are given (YtilkdgbncfebkaaGreatDoorTie.lean); close each card by the builder's one call (the guide's Derived/Test/ToyasCard.lean, 'card_holds'). Laid BY PROGRAM, IN A SANDBOX (cutbox-door.mjs). By AI agents, Wed Nov 11 2026. No macro, syntax, notation, axiom, sorry.
-/
import Derived.Test.YtilkdgbncfebkaaGreatDoorRows
import GoSem.ClaimSeven
namespace Go.Proofs.YtilkdgbncfebkaaGreatDoor
namespace Rows

/-- THE TIED CARD OF 'laws.FnGoesAlong'. -/
def fnGoesAlongCard : Claim7 := { stood := { row := fnGoesAlongRow, standIns := [], harness := (true, "bd04bdfc2cc93469e477140369c4d2cec93f47ba6057a8248fa301192d42f9ca"), looks := true }, kinds := [], alts := [], laidByText := true, laidKinds := [.data, .data, .data], laidTests := true, laidLooks := .later }
def FnGoesAlongCardSaid : Prop := Claim7.holds Tryz.pinned (.plain (OpenSpec.ofChange fnGoesAlongSpec)) fnGoesAlongCard

/-- THE TIED CARD OF 'laws.FnPatched'. -/
def fnPatchedCard : Claim7 := { stood := { row := fnPatchedRow, standIns := [], harness := (true, "bd04bdfc2cc93469e477140369c4d2cec93f47ba6057a8248fa301192d42f9ca"), looks := true }, kinds := [], alts := [], laidByText := true, laidKinds := [.data, .data, .data, .sentinel, .sentinel], laidTests := true, laidLooks := .later }
def FnPatchedCardSaid : Prop := Claim7.holds Tryz.pinned (.plain (OpenSpec.ofChange fnPatchedSpec)) fnPatchedCard

/-- THE SECOND FORM's CARD OF 'laws.FnGoesAlong'. -/
def fnGoesAlongUptoCard : Claim7 := { stood := { row := fnGoesAlongUptoRow, standIns := [], harness := (true, "bd04bdfc2cc93469e477140369c4d2cec93f47ba6057a8248fa301192d42f9ca"), looks := true }, kinds := [], alts := [], laidByText := true, laidKinds := [.data, .data, .data], laidTests := true, laidLooks := .later }
def FnGoesAlongUptoCardSaid : Prop := Claim7.holds Tryz.pinned (.plain (OpenSpec.upto fnGoesAlongSpec)) fnGoesAlongUptoCard

/-- THE SECOND FORM's CARD OF 'laws.FnPatched'. -/
def fnPatchedUptoCard : Claim7 := { stood := { row := fnPatchedUptoRow, standIns := [], harness := (true, "bd04bdfc2cc93469e477140369c4d2cec93f47ba6057a8248fa301192d42f9ca"), looks := true }, kinds := [], alts := [], laidByText := true, laidKinds := [.data, .data, .data, .sentinel, .sentinel], laidTests := true, laidLooks := .later }
def FnPatchedUptoCardSaid : Prop := Claim7.holds Tryz.pinned (.plain (OpenSpec.upto fnPatchedSpec)) fnPatchedUptoCard
end Rows
end Go.Proofs.YtilkdgbncfebkaaGreatDoor
