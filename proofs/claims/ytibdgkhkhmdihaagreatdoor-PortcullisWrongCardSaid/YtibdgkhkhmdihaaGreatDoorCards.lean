/-
  DERIVED. GIVEN WITH THE SEED: THE CARDS: each row of YtibdgkhkhmdihaaGreatDoorRows.lean that lists a variable, with what it lists TIED to the program's text (the seventh form; the later family's looks); each row that meets fmt, with fmt's text TOLD by the authors' own Lean function (tested against real Go, not proved from fmt's source: count such statements apart). THE CARD IS WHAT COUNTS. Prove the row's statement (the work); the ties are given (YtibdgkhkhmdihaaGreatDoorTie.lean); close each card by the builder's one call (the guide's Derived/Test/ToyasCard.lean, 'card_holds'). Laid BY PROGRAM, IN A SANDBOX (cutbox-door.mjs). By AI agents, Wed Nov 11 2026. No macro, syntax, notation, axiom, sorry.
-/
import Derived.Test.YtibdgkhkhmdihaaGreatDoorRows
import GoSem.ClaimSeven
namespace Go.Proofs.YtibdgkhkhmdihaaGreatDoor
namespace Rows

/-- THE TIED CARD OF 'portcullislaw29.PortcullisSplit'. -/
def portcullisSplitCard : Claim7 := { stood := { row := portcullisSplitRow, standIns := [], harness := (true, "816ca3e26783ddec4cf7a86124b602616b196691ab04d25600bd282edc0b341f"), looks := true }, kinds := [], alts := [], laidByText := true, laidKinds := [.data, .data, .data, .data, .sentinel, .sentinel, .pinned], laidTests := true, laidLooks := .later }
def PortcullisSplitCardSaid : Prop := Claim7.holds Tryz.pinned (.plain (OpenSpec.ofChange portcullisSplitSpec)) portcullisSplitCard

/-- THE TIED CARD OF 'portcullislaw29.PortcullisLong'. -/
def portcullisLongCard : Claim7 := { stood := { row := portcullisLongRow, standIns := [], harness := (true, "816ca3e26783ddec4cf7a86124b602616b196691ab04d25600bd282edc0b341f"), looks := true }, kinds := [], alts := [], laidByText := true, laidKinds := [.data, .data, .data, .data, .sentinel, .sentinel, .pinned], laidTests := true, laidLooks := .later }
def PortcullisLongCardSaid : Prop := Claim7.holds Tryz.pinned (.plain (OpenSpec.ofChange portcullisLongSpec)) portcullisLongCard

/-- THE TIED CARD OF 'portcullislaw29.PortcullisWrong'. -/
def portcullisWrongCard : Claim7 := { stood := { row := portcullisWrongRow, standIns := [], harness := (true, "816ca3e26783ddec4cf7a86124b602616b196691ab04d25600bd282edc0b341f"), looks := true }, kinds := [], alts := [], laidByText := true, laidKinds := [.data, .data, .data, .data, .sentinel, .sentinel, .pinned], laidTests := true, laidLooks := .later }
def PortcullisWrongCardSaid : Prop := Claim7.holds Tryz.pinned (.plain (OpenSpec.ofChange portcullisWrongSpec)) portcullisWrongCard

/-- THE SECOND FORM's CARD OF 'portcullislaw29.PortcullisSplit'. -/
def portcullisSplitUptoCard : Claim7 := { stood := { row := portcullisSplitUptoRow, standIns := [], harness := (true, "816ca3e26783ddec4cf7a86124b602616b196691ab04d25600bd282edc0b341f"), looks := true }, kinds := [], alts := [], laidByText := true, laidKinds := [.data, .data, .data, .data, .sentinel, .sentinel, .pinned], laidTests := true, laidLooks := .later }
def PortcullisSplitUptoCardSaid : Prop := Claim7.holds Tryz.pinned (.plain (OpenSpec.upto portcullisSplitSpec)) portcullisSplitUptoCard

/-- THE SECOND FORM's CARD OF 'portcullislaw29.PortcullisLong'. -/
def portcullisLongUptoCard : Claim7 := { stood := { row := portcullisLongUptoRow, standIns := [], harness := (true, "816ca3e26783ddec4cf7a86124b602616b196691ab04d25600bd282edc0b341f"), looks := true }, kinds := [], alts := [], laidByText := true, laidKinds := [.data, .data, .data, .data, .sentinel, .sentinel, .pinned], laidTests := true, laidLooks := .later }
def PortcullisLongUptoCardSaid : Prop := Claim7.holds Tryz.pinned (.plain (OpenSpec.upto portcullisLongSpec)) portcullisLongUptoCard

/-- THE SECOND FORM's CARD OF 'portcullislaw29.PortcullisWrong'. -/
def portcullisWrongUptoCard : Claim7 := { stood := { row := portcullisWrongUptoRow, standIns := [], harness := (true, "816ca3e26783ddec4cf7a86124b602616b196691ab04d25600bd282edc0b341f"), looks := true }, kinds := [], alts := [], laidByText := true, laidKinds := [.data, .data, .data, .data, .sentinel, .sentinel, .pinned], laidTests := true, laidLooks := .later }
def PortcullisWrongUptoCardSaid : Prop := Claim7.holds Tryz.pinned (.plain (OpenSpec.upto portcullisWrongSpec)) portcullisWrongUptoCard
end Rows
end Go.Proofs.YtibdgkhkhmdihaaGreatDoor
