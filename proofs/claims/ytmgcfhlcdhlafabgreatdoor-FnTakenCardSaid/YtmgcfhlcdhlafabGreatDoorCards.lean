/-
  DERIVED. GIVEN WITH THE SEED: THE CARDS: each row of YtmgcfhlcdhlafabGreatDoorRows.lean that lists a variable, with what it lists TIED to the program's text (the seventh form; the later family's looks); each row that meets fmt, with fmt's text TOLD by the authors' own Lean function (tested against real Go, not proved from fmt's source: count such statements apart). THE CARD IS WHAT COUNTS. Prove the row's statement (the work); the ties are given (YtmgcfhlcdhlafabGreatDoorTie.lean); close each card by the builder's one call (the guide's Derived/Test/ToyasCard.lean, 'card_holds'). Laid BY PROGRAM, IN A SANDBOX (cutbox-door.mjs). By AI agents, Wed Nov 11 2026. No macro, syntax, notation, axiom, sorry.
-/
import Derived.Test.YtmgcfhlcdhlafabGreatDoorRows
import GoSem.ClaimSeven
namespace Go.Proofs.YtmgcfhlcdhlafabGreatDoor
namespace Rows

/-- THE TIED CARD OF 'laws.FnShort'. -/
def fnShortCard : Claim7 := { stood := { row := fnShortRow, standIns := [], harness := (true, "dbbf22aafad005238eed28e4217895b12395ff41278b626b8aa0d8fea5ae949e"), looks := true }, kinds := [], alts := [], laidByText := true, laidKinds := [.data, .data, .data, .data, .pinned], laidTests := true, laidLooks := .later }
def FnShortCardSaid : Prop := Claim7.holds Tryz.pinned (.plain (OpenSpec.ofChange fnShortSpec)) fnShortCard

/-- THE TIED CARD OF 'laws.FnTaken'. -/
def fnTakenCard : Claim7 := { stood := { row := fnTakenRow, standIns := [], harness := (true, "dbbf22aafad005238eed28e4217895b12395ff41278b626b8aa0d8fea5ae949e"), looks := true }, kinds := [], alts := [], laidByText := true, laidKinds := [.data, .data, .data, .data, .sentinel, .sentinel, .pinned], laidTests := true, laidLooks := .later }
def FnTakenCardSaid : Prop := Claim7.holds Tryz.pinned (.plain (OpenSpec.ofChange fnTakenSpec)) fnTakenCard

/-- THE SECOND FORM's CARD OF 'laws.FnShort'. -/
def fnShortUptoCard : Claim7 := { stood := { row := fnShortUptoRow, standIns := [], harness := (true, "dbbf22aafad005238eed28e4217895b12395ff41278b626b8aa0d8fea5ae949e"), looks := true }, kinds := [], alts := [], laidByText := true, laidKinds := [.data, .data, .data, .data, .pinned], laidTests := true, laidLooks := .later }
def FnShortUptoCardSaid : Prop := Claim7.holds Tryz.pinned (.plain (OpenSpec.upto fnShortSpec)) fnShortUptoCard

/-- THE SECOND FORM's CARD OF 'laws.FnTaken'. -/
def fnTakenUptoCard : Claim7 := { stood := { row := fnTakenUptoRow, standIns := [], harness := (true, "dbbf22aafad005238eed28e4217895b12395ff41278b626b8aa0d8fea5ae949e"), looks := true }, kinds := [], alts := [], laidByText := true, laidKinds := [.data, .data, .data, .data, .sentinel, .sentinel, .pinned], laidTests := true, laidLooks := .later }
def FnTakenUptoCardSaid : Prop := Claim7.holds Tryz.pinned (.plain (OpenSpec.upto fnTakenSpec)) fnTakenUptoCard
end Rows
end Go.Proofs.YtmgcfhlcdhlafabGreatDoor
