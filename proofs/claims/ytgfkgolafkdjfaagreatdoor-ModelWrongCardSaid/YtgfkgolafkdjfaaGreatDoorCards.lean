/-
  DERIVED. GIVEN WITH THE SEED: THE CARDS: each row of YtgfkgolafkdjfaaGreatDoorRows.lean that lists a variable, with what it lists TIED to the program's text (the seventh form; the later family's looks); each row that meets fmt, with fmt's text TOLD by the authors' own Lean function (tested against real Go, not proved from fmt's source: count such statements apart). THE CARD IS WHAT COUNTS. Prove the row's statement (the work); the ties are given (YtgfkgolafkdjfaaGreatDoorTie.lean); close each card by the builder's one call (the guide's Derived/Test/ToyasCard.lean, 'card_holds'). Laid BY PROGRAM, IN A SANDBOX (cutbox-door.mjs). By AI agents, Wed Nov 11 2026. No macro, syntax, notation, axiom, sorry.
-/
import Derived.Test.YtgfkgolafkdjfaaGreatDoorRows
import GoSem.ClaimSeven
namespace Go.Proofs.YtgfkgolafkdjfaaGreatDoor
namespace Rows

/-- THE TIED CARD OF 'portcullislaw26.ModelWrong'. -/
def modelWrongCard : Claim7 := { stood := { row := modelWrongRow, standIns := [], harness := (true, "58c55e5ba4de740689e714cafb42b68a6e07d7cc74d0a0758c16022d47d74849"), looks := true }, kinds := [], alts := [], laidByText := true, laidKinds := [.data, .data, .data, .data, .data, .data, .data], laidTests := true, laidLooks := .later }
def ModelWrongCardSaid : Prop := Claim7.holds Tryz.pinned (.plain (OpenSpec.ofChange modelWrongSpec)) modelWrongCard

/-- THE SECOND FORM's CARD OF 'portcullislaw26.ModelWrong'. -/
def modelWrongUptoCard : Claim7 := { stood := { row := modelWrongUptoRow, standIns := [], harness := (true, "58c55e5ba4de740689e714cafb42b68a6e07d7cc74d0a0758c16022d47d74849"), looks := true }, kinds := [], alts := [], laidByText := true, laidKinds := [.data, .data, .data, .data, .data, .data, .data], laidTests := true, laidLooks := .later }
def ModelWrongUptoCardSaid : Prop := Claim7.holds Tryz.pinned (.plain (OpenSpec.upto modelWrongSpec)) modelWrongUptoCard
end Rows
end Go.Proofs.YtgfkgolafkdjfaaGreatDoor
