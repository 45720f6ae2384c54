/-
  DERIVED. GIVEN WITH THE SEED: THE CARDS: each row of YtdcbpilibaigmaaDoorRows.lean that lists a variable, with what it lists TIED to the program's text (the seventh form; the later family's looks); each row that meets fmt, with fmt's text TOLD by the authors' own Lean function (tested against real Go, not proved from fmt's source: count such statements apart). THE CARD IS WHAT COUNTS. Prove the row's statement (the work); the ties are given (YtdcbpilibaigmaaDoorTie.lean); close each card by the builder's one call (the guide's Derived/Test/ToyasCard.lean, 'card_holds'). Laid BY PROGRAM, IN A SANDBOX (cutbox-door.mjs). By AI agents, Wed Nov 11 2026. No macro, syntax, notation, axiom, sorry.
-/
import Derived.Test.YtdcbpilibaigmaaDoorRows
import GoSem.ClaimSeven
namespace Go.Proofs.YtdcbpilibaigmaaDoor
namespace Rows

/-- THE TIED CARD OF 'portcullislaw4.ScalarReduces'. -/
def scalarReducesCard : Claim7 := { stood := { row := scalarReducesRow, standIns := [], harness := (true, "f4e868f8119de5da81bb34a533009a1052e400c4b5590149e1746c69504725de"), looks := false }, kinds := [], alts := [], laidByText := true, laidKinds := [.data], laidTests := true, laidLooks := .later }
def ScalarReducesCardSaid : Prop := Claim7.holds Tryd.pinned (.plain (OpenSpec.ofChange scalarReducesSpec)) scalarReducesCard

/-- THE TIED CARD OF 'portcullislaw4.ScalarSums'. -/
def scalarSumsCard : Claim7 := { stood := { row := scalarSumsRow, standIns := [], harness := (true, "f4e868f8119de5da81bb34a533009a1052e400c4b5590149e1746c69504725de"), looks := false }, kinds := [], alts := [], laidByText := true, laidKinds := [.data], laidTests := true, laidLooks := .later }
def ScalarSumsCardSaid : Prop := Claim7.holds Tryd.pinned (.plain (OpenSpec.ofChange scalarSumsSpec)) scalarSumsCard

/-- THE TIED CARD OF 'portcullislaw3.FieldRoots'. -/
def fieldRootsCard : Claim7 := { stood := { row := fieldRootsRow, standIns := [], harness := (true, "f4e868f8119de5da81bb34a533009a1052e400c4b5590149e1746c69504725de"), looks := false }, kinds := [], alts := [], laidByText := true, laidKinds := [.data], laidTests := true, laidLooks := .later }
def FieldRootsCardSaid : Prop := Claim7.holds Tryd.pinned (.plain (OpenSpec.ofChange fieldRootsSpec)) fieldRootsCard

/-- THE SECOND FORM's CARD OF 'portcullislaw4.ScalarReduces'. -/
def scalarReducesUptoCard : Claim7 := { stood := { row := scalarReducesUptoRow, standIns := [], harness := (true, "f4e868f8119de5da81bb34a533009a1052e400c4b5590149e1746c69504725de"), looks := false }, kinds := [], alts := [], laidByText := true, laidKinds := [.data], laidTests := true, laidLooks := .later }
def ScalarReducesUptoCardSaid : Prop := Claim7.holds Tryd.pinned (.plain (OpenSpec.upto scalarReducesSpec)) scalarReducesUptoCard

/-- THE SECOND FORM's CARD OF 'portcullislaw4.ScalarSums'. -/
def scalarSumsUptoCard : Claim7 := { stood := { row := scalarSumsUptoRow, standIns := [], harness := (true, "f4e868f8119de5da81bb34a533009a1052e400c4b5590149e1746c69504725de"), looks := false }, kinds := [], alts := [], laidByText := true, laidKinds := [.data], laidTests := true, laidLooks := .later }
def ScalarSumsUptoCardSaid : Prop := Claim7.holds Tryd.pinned (.plain (OpenSpec.upto scalarSumsSpec)) scalarSumsUptoCard

/-- THE SECOND FORM's CARD OF 'portcullislaw3.FieldRoots'. -/
def fieldRootsUptoCard : Claim7 := { stood := { row := fieldRootsUptoRow, standIns := [], harness := (true, "f4e868f8119de5da81bb34a533009a1052e400c4b5590149e1746c69504725de"), looks := false }, kinds := [], alts := [], laidByText := true, laidKinds := [.data], laidTests := true, laidLooks := .later }
def FieldRootsUptoCardSaid : Prop := Claim7.holds Tryd.pinned (.plain (OpenSpec.upto fieldRootsSpec)) fieldRootsUptoCard
end Rows
end Go.Proofs.YtdcbpilibaigmaaDoor
