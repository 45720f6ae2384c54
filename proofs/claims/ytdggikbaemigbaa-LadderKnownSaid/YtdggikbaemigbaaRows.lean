/-
  No cell of these rows narrows 'for every input' (looked for: loops, veiled, ifaces, maps, wideKeys, modest, calm, conditions, laid).
  DERIVED. THE GIVEN ROWS OF THIS SEAT. 23 by the template 'for every input the law returns true; each argument reads behind the call as it read before'; 0 by the template 'total and deterministic' (their statements: YtdggikbaemigbaaTotals.lean).
  GIVEN WITH THE SEED: the statements are not yours to turn. If you find one false, say at which input.
  Laid BY PROGRAM, IN A SANDBOX (cutbox-rows.mjs): the forced cells as the released guide's own fill.sh prints them over the translation 8f784b48d9856f1f… (all of the seat's roots in one cut). By AI agents, Wed Nov 11 2026. No macro, syntax, notation, axiom, sorry.
-/
import Derived.Test.YtdggikbaemigbaaChecked
import GoSem.Claim
import GoSem.ClaimJoined
import GoSem.ClaimMapViews
import Derived.JoinedTies
import Derived.KernelRfl
namespace Go.Proofs.Ytdggikbaemigbaa
/- THE CELL 'sum', in the pinned program and in every row, IS THE sha256 OF THE DUMP (.gsa) THAT YtdggikbaemigbaaProg.lean LOADS. Nothing in Lean hashes anything: it is a label: what it is worth is what the hold of that sum in a sandbox is worth. -/
noncomputable def Try.pinned : Pinned := { name := "ytdggikbaemigbaa", sum := "8f784b48d9856f1fd2e96c8d3127dd470392b15b4caf68e16dca7a9d36c791f1", checked := Try.checked }
namespace Rows
def none {H : Type} : Left H := { results := [], args := [] }

/-- 'portcullislaw4.ScalarLong': WHATEVER THE INPUT: true; the input reads as it did. -/
def scalarLongSpec : ChangeSpec := { name := "scalarLong", fn := fun _ => fun
  | [d1, d2, d3] => { results := [.lit (.bool true)], args := [d1, d2, d3] }
  | _ => none }
def scalarLongRow : OpenClaim := { program := "ytdggikbaemigbaa", sum := "8f784b48d9856f1fd2e96c8d3127dd470392b15b4caf68e16dca7a9d36c791f1", func := "portcullis/portcullislaw4.ScalarLong", spec := "scalarLong", inPlace := ["math/bits.Add64", "math/bits.Sub64"], apart := false }
def ScalarLongSaid : Prop := scalarLongRow.holds Try.pinned (OpenSpec.ofChange scalarLongSpec)

/-- ITS FALSE NEIGHBOUR: 'it returns false'. Refute it at one input. -/
def scalarLongWrong : ChangeSpec := { name := "scalarLong", fn := fun _ => fun
  | [d1, d2, d3] => { results := [.lit (.bool false)], args := [d1, d2, d3] }
  | _ => none }
def ScalarLongWrongFalsely : Prop := scalarLongRow.holds Try.pinned (OpenSpec.ofChange scalarLongWrong)

/-- 'portcullislaw3.FieldEdges': WHATEVER THE INPUT: true; the input reads as it did. -/
def fieldEdgesSpec : ChangeSpec := { name := "fieldEdges", fn := fun _ => fun
  | [d1, d2] => { results := [.lit (.bool true)], args := [d1, d2] }
  | _ => none }
def fieldEdgesRow : OpenClaim := { program := "ytdggikbaemigbaa", sum := "8f784b48d9856f1fd2e96c8d3127dd470392b15b4caf68e16dca7a9d36c791f1", func := "portcullis/portcullislaw3.FieldEdges", spec := "fieldEdges", inPlace := ["math/bits.Sub64", "math/bits.Add64"], apart := false }
def FieldEdgesSaid : Prop := fieldEdgesRow.holds Try.pinned (OpenSpec.ofChange fieldEdgesSpec)

/-- ITS FALSE NEIGHBOUR: 'it returns false'. Refute it at one input. -/
def fieldEdgesWrong : ChangeSpec := { name := "fieldEdges", fn := fun _ => fun
  | [d1, d2] => { results := [.lit (.bool false)], args := [d1, d2] }
  | _ => none }
def FieldEdgesWrongFalsely : Prop := fieldEdgesRow.holds Try.pinned (OpenSpec.ofChange fieldEdgesWrong)

/-- 'portcullislaw3.FieldPicks': WHATEVER THE INPUT: true; the input reads as it did. -/
def fieldPicksSpec : ChangeSpec := { name := "fieldPicks", fn := fun _ => fun
  | [d1, d2, d3] => { results := [.lit (.bool true)], args := [d1, d2, d3] }
  | _ => none }
def fieldPicksRow : OpenClaim := { program := "ytdggikbaemigbaa", sum := "8f784b48d9856f1fd2e96c8d3127dd470392b15b4caf68e16dca7a9d36c791f1", func := "portcullis/portcullislaw3.FieldPicks", spec := "fieldPicks", inPlace := ["math/bits.Sub64", "math/bits.Add64"], apart := false }
def FieldPicksSaid : Prop := fieldPicksRow.holds Try.pinned (OpenSpec.ofChange fieldPicksSpec)

/-- ITS FALSE NEIGHBOUR: 'it returns false'. Refute it at one input. -/
def fieldPicksWrong : ChangeSpec := { name := "fieldPicks", fn := fun _ => fun
  | [d1, d2, d3] => { results := [.lit (.bool false)], args := [d1, d2, d3] }
  | _ => none }
def FieldPicksWrongFalsely : Prop := fieldPicksRow.holds Try.pinned (OpenSpec.ofChange fieldPicksWrong)

/-- 'portcullislaw4.ScalarShifts': WHATEVER THE INPUT: true; the input reads as it did. -/
def scalarShiftsSpec : ChangeSpec := { name := "scalarShifts", fn := fun _ => fun
  | [d1, d2] => { results := [.lit (.bool true)], args := [d1, d2] }
  | _ => none }
def scalarShiftsRow : OpenClaim := { program := "ytdggikbaemigbaa", sum := "8f784b48d9856f1fd2e96c8d3127dd470392b15b4caf68e16dca7a9d36c791f1", func := "portcullis/portcullislaw4.ScalarShifts", spec := "scalarShifts", inPlace := ["math/bits.Add64", "math/bits.Sub64"], apart := false }
def ScalarShiftsSaid : Prop := scalarShiftsRow.holds Try.pinned (OpenSpec.ofChange scalarShiftsSpec)

/-- ITS FALSE NEIGHBOUR: 'it returns false'. Refute it at one input. -/
def scalarShiftsWrong : ChangeSpec := { name := "scalarShifts", fn := fun _ => fun
  | [d1, d2] => { results := [.lit (.bool false)], args := [d1, d2] }
  | _ => none }
def ScalarShiftsWrongFalsely : Prop := scalarShiftsRow.holds Try.pinned (OpenSpec.ofChange scalarShiftsWrong)

/-- 'portcullislaw4.ScalarRules': WHATEVER THE INPUT: true; the input reads as it did. -/
def scalarRulesSpec : ChangeSpec := { name := "scalarRules", fn := fun _ => fun
  | [d1, d2, d3] => { results := [.lit (.bool true)], args := [d1, d2, d3] }
  | _ => none }
def scalarRulesRow : OpenClaim := { program := "ytdggikbaemigbaa", sum := "8f784b48d9856f1fd2e96c8d3127dd470392b15b4caf68e16dca7a9d36c791f1", func := "portcullis/portcullislaw4.ScalarRules", spec := "scalarRules", inPlace := ["math/bits.Add64", "math/bits.Sub64"], apart := false }
def ScalarRulesSaid : Prop := scalarRulesRow.holds Try.pinned (OpenSpec.ofChange scalarRulesSpec)

/-- ITS FALSE NEIGHBOUR: 'it returns false'. Refute it at one input. -/
def scalarRulesWrong : ChangeSpec := { name := "scalarRules", fn := fun _ => fun
  | [d1, d2, d3] => { results := [.lit (.bool false)], args := [d1, d2, d3] }
  | _ => none }
def ScalarRulesWrongFalsely : Prop := scalarRulesRow.holds Try.pinned (OpenSpec.ofChange scalarRulesWrong)

/-- 'portcullislaw3.FieldAdds': WHATEVER THE INPUT: true; the input reads as it did. -/
def fieldAddsSpec : ChangeSpec := { name := "fieldAdds", fn := fun _ => fun
  | [d1, d2] => { results := [.lit (.bool true)], args := [d1, d2] }
  | _ => none }
def fieldAddsRow : OpenClaim := { program := "ytdggikbaemigbaa", sum := "8f784b48d9856f1fd2e96c8d3127dd470392b15b4caf68e16dca7a9d36c791f1", func := "portcullis/portcullislaw3.FieldAdds", spec := "fieldAdds", inPlace := ["math/bits.Sub64", "math/bits.Add64"], apart := false }
def FieldAddsSaid : Prop := fieldAddsRow.holds Try.pinned (OpenSpec.ofChange fieldAddsSpec)

/-- ITS FALSE NEIGHBOUR: 'it returns false'. Refute it at one input. -/
def fieldAddsWrong : ChangeSpec := { name := "fieldAdds", fn := fun _ => fun
  | [d1, d2] => { results := [.lit (.bool false)], args := [d1, d2] }
  | _ => none }
def FieldAddsWrongFalsely : Prop := fieldAddsRow.holds Try.pinned (OpenSpec.ofChange fieldAddsWrong)

/-- 'portcullislaw3.FieldSums': WHATEVER THE INPUT: true; the input reads as it did. -/
def fieldSumsSpec : ChangeSpec := { name := "fieldSums", fn := fun _ => fun
  | [d1, d2] => { results := [.lit (.bool true)], args := [d1, d2] }
  | _ => none }
def fieldSumsRow : OpenClaim := { program := "ytdggikbaemigbaa", sum := "8f784b48d9856f1fd2e96c8d3127dd470392b15b4caf68e16dca7a9d36c791f1", func := "portcullis/portcullislaw3.FieldSums", spec := "fieldSums", inPlace := ["math/bits.Sub64", "math/bits.Add64"], apart := false }
def FieldSumsSaid : Prop := fieldSumsRow.holds Try.pinned (OpenSpec.ofChange fieldSumsSpec)

/-- ITS FALSE NEIGHBOUR: 'it returns false'. Refute it at one input. -/
def fieldSumsWrong : ChangeSpec := { name := "fieldSums", fn := fun _ => fun
  | [d1, d2] => { results := [.lit (.bool false)], args := [d1, d2] }
  | _ => none }
def FieldSumsWrongFalsely : Prop := fieldSumsRow.holds Try.pinned (OpenSpec.ofChange fieldSumsWrong)

/-- 'portcullislaw10.PolySums': WHATEVER THE INPUT: true; the input reads as it did. -/
def polySumsSpec : ChangeSpec := { name := "polySums", fn := fun _ => fun
  | [d1, d2] => { results := [.lit (.bool true)], args := [d1, d2] }
  | _ => none }
def polySumsRow : OpenClaim := { program := "ytdggikbaemigbaa", sum := "8f784b48d9856f1fd2e96c8d3127dd470392b15b4caf68e16dca7a9d36c791f1", func := "portcullis/portcullislaw10.PolySums", spec := "polySums", inPlace := ["math/bits.Add64", "math/bits.Sub64"], apart := false }
def PolySumsSaid : Prop := polySumsRow.holds Try.pinned (OpenSpec.ofChange polySumsSpec)

/-- ITS FALSE NEIGHBOUR: 'it returns false'. Refute it at one input. -/
def polySumsWrong : ChangeSpec := { name := "polySums", fn := fun _ => fun
  | [d1, d2] => { results := [.lit (.bool false)], args := [d1, d2] }
  | _ => none }
def PolySumsWrongFalsely : Prop := polySumsRow.holds Try.pinned (OpenSpec.ofChange polySumsWrong)

/-- 'portcullislaw10.PolyEdges': WHATEVER THE INPUT: true; the input reads as it did. -/
def polyEdgesSpec : ChangeSpec := { name := "polyEdges", fn := fun _ => fun
  | [d1, d2, d3] => { results := [.lit (.bool true)], args := [d1, d2, d3] }
  | _ => none }
def polyEdgesRow : OpenClaim := { program := "ytdggikbaemigbaa", sum := "8f784b48d9856f1fd2e96c8d3127dd470392b15b4caf68e16dca7a9d36c791f1", func := "portcullis/portcullislaw10.PolyEdges", spec := "polyEdges", inPlace := ["math/bits.Add64", "math/bits.Sub64"], apart := false }
def PolyEdgesSaid : Prop := polyEdgesRow.holds Try.pinned (OpenSpec.ofChange polyEdgesSpec)

/-- ITS FALSE NEIGHBOUR: 'it returns false'. Refute it at one input. -/
def polyEdgesWrong : ChangeSpec := { name := "polyEdges", fn := fun _ => fun
  | [d1, d2, d3] => { results := [.lit (.bool false)], args := [d1, d2, d3] }
  | _ => none }
def PolyEdgesWrongFalsely : Prop := polyEdgesRow.holds Try.pinned (OpenSpec.ofChange polyEdgesWrong)

/-- 'portcullislaw10.PolyPads': WHATEVER THE INPUT: true; the input reads as it did. -/
def polyPadsSpec : ChangeSpec := { name := "polyPads", fn := fun _ => fun
  | [d1, d2, d3] => { results := [.lit (.bool true)], args := [d1, d2, d3] }
  | _ => none }
def polyPadsRow : OpenClaim := { program := "ytdggikbaemigbaa", sum := "8f784b48d9856f1fd2e96c8d3127dd470392b15b4caf68e16dca7a9d36c791f1", func := "portcullis/portcullislaw10.PolyPads", spec := "polyPads", inPlace := ["math/bits.Add64", "math/bits.Sub64"], apart := false }
def PolyPadsSaid : Prop := polyPadsRow.holds Try.pinned (OpenSpec.ofChange polyPadsSpec)

/-- ITS FALSE NEIGHBOUR: 'it returns false'. Refute it at one input. -/
def polyPadsWrong : ChangeSpec := { name := "polyPads", fn := fun _ => fun
  | [d1, d2, d3] => { results := [.lit (.bool false)], args := [d1, d2, d3] }
  | _ => none }
def PolyPadsWrongFalsely : Prop := polyPadsRow.holds Try.pinned (OpenSpec.ofChange polyPadsWrong)

/-- 'portcullislaw10.PolyCuts': WHATEVER THE INPUT: true; the input reads as it did. -/
def polyCutsSpec : ChangeSpec := { name := "polyCuts", fn := fun _ => fun
  | [d1, d2, d3, d4] => { results := [.lit (.bool true)], args := [d1, d2, d3, d4] }
  | _ => none }
def polyCutsRow : OpenClaim := { program := "ytdggikbaemigbaa", sum := "8f784b48d9856f1fd2e96c8d3127dd470392b15b4caf68e16dca7a9d36c791f1", func := "portcullis/portcullislaw10.PolyCuts", spec := "polyCuts", inPlace := ["math/bits.Add64", "math/bits.Sub64"], apart := false }
def PolyCutsSaid : Prop := polyCutsRow.holds Try.pinned (OpenSpec.ofChange polyCutsSpec)

/-- ITS FALSE NEIGHBOUR: 'it returns false'. Refute it at one input. -/
def polyCutsWrong : ChangeSpec := { name := "polyCuts", fn := fun _ => fun
  | [d1, d2, d3, d4] => { results := [.lit (.bool false)], args := [d1, d2, d3, d4] }
  | _ => none }
def PolyCutsWrongFalsely : Prop := polyCutsRow.holds Try.pinned (OpenSpec.ofChange polyCutsWrong)

/-- 'portcullislaw10.PolyNought': WHATEVER THE INPUT: true; the input reads as it did. -/
def polyNoughtSpec : ChangeSpec := { name := "polyNought", fn := fun _ => fun
  | [d1, d2] => { results := [.lit (.bool true)], args := [d1, d2] }
  | _ => none }
def polyNoughtRow : OpenClaim := { program := "ytdggikbaemigbaa", sum := "8f784b48d9856f1fd2e96c8d3127dd470392b15b4caf68e16dca7a9d36c791f1", func := "portcullis/portcullislaw10.PolyNought", spec := "polyNought", inPlace := ["math/bits.Add64", "math/bits.Sub64"], apart := false }
def PolyNoughtSaid : Prop := polyNoughtRow.holds Try.pinned (OpenSpec.ofChange polyNoughtSpec)

/-- ITS FALSE NEIGHBOUR: 'it returns false'. Refute it at one input. -/
def polyNoughtWrong : ChangeSpec := { name := "polyNought", fn := fun _ => fun
  | [d1, d2] => { results := [.lit (.bool false)], args := [d1, d2] }
  | _ => none }
def PolyNoughtWrongFalsely : Prop := polyNoughtRow.holds Try.pinned (OpenSpec.ofChange polyNoughtWrong)

/-- 'portcullislaw3.FieldSteps': WHATEVER THE INPUT: true; the input reads as it did. -/
def fieldStepsSpec : ChangeSpec := { name := "fieldSteps", fn := fun _ => fun
  | [d1, d2, d3] => { results := [.lit (.bool true)], args := [d1, d2, d3] }
  | _ => none }
def fieldStepsRow : OpenClaim := { program := "ytdggikbaemigbaa", sum := "8f784b48d9856f1fd2e96c8d3127dd470392b15b4caf68e16dca7a9d36c791f1", func := "portcullis/portcullislaw3.FieldSteps", spec := "fieldSteps", inPlace := ["math/bits.Sub64", "math/bits.Add64"], apart := false }
def FieldStepsSaid : Prop := fieldStepsRow.holds Try.pinned (OpenSpec.ofChange fieldStepsSpec)

/-- ITS FALSE NEIGHBOUR: 'it returns false'. Refute it at one input. -/
def fieldStepsWrong : ChangeSpec := { name := "fieldSteps", fn := fun _ => fun
  | [d1, d2, d3] => { results := [.lit (.bool false)], args := [d1, d2, d3] }
  | _ => none }
def FieldStepsWrongFalsely : Prop := fieldStepsRow.holds Try.pinned (OpenSpec.ofChange fieldStepsWrong)

/-- 'portcullislaw3.FieldPowers': WHATEVER THE INPUT: true; the input reads as it did. -/
def fieldPowersSpec : ChangeSpec := { name := "fieldPowers", fn := fun _ => fun
  | [d1, d2] => { results := [.lit (.bool true)], args := [d1, d2] }
  | _ => none }
def fieldPowersRow : OpenClaim := { program := "ytdggikbaemigbaa", sum := "8f784b48d9856f1fd2e96c8d3127dd470392b15b4caf68e16dca7a9d36c791f1", func := "portcullis/portcullislaw3.FieldPowers", spec := "fieldPowers", inPlace := ["math/bits.Sub64", "math/bits.Add64"], apart := false }
def FieldPowersSaid : Prop := fieldPowersRow.holds Try.pinned (OpenSpec.ofChange fieldPowersSpec)

/-- ITS FALSE NEIGHBOUR: 'it returns false'. Refute it at one input. -/
def fieldPowersWrong : ChangeSpec := { name := "fieldPowers", fn := fun _ => fun
  | [d1, d2] => { results := [.lit (.bool false)], args := [d1, d2] }
  | _ => none }
def FieldPowersWrongFalsely : Prop := fieldPowersRow.holds Try.pinned (OpenSpec.ofChange fieldPowersWrong)

/-- 'portcullislaw3.FieldRules': WHATEVER THE INPUT: true; the input reads as it did. -/
def fieldRulesSpec : ChangeSpec := { name := "fieldRules", fn := fun _ => fun
  | [d1, d2, d3] => { results := [.lit (.bool true)], args := [d1, d2, d3] }
  | _ => none }
def fieldRulesRow : OpenClaim := { program := "ytdggikbaemigbaa", sum := "8f784b48d9856f1fd2e96c8d3127dd470392b15b4caf68e16dca7a9d36c791f1", func := "portcullis/portcullislaw3.FieldRules", spec := "fieldRules", inPlace := ["math/bits.Sub64", "math/bits.Add64"], apart := false }
def FieldRulesSaid : Prop := fieldRulesRow.holds Try.pinned (OpenSpec.ofChange fieldRulesSpec)

/-- ITS FALSE NEIGHBOUR: 'it returns false'. Refute it at one input. -/
def fieldRulesWrong : ChangeSpec := { name := "fieldRules", fn := fun _ => fun
  | [d1, d2, d3] => { results := [.lit (.bool false)], args := [d1, d2, d3] }
  | _ => none }
def FieldRulesWrongFalsely : Prop := fieldRulesRow.holds Try.pinned (OpenSpec.ofChange fieldRulesWrong)

/-- 'portcullislaw3.FieldSquares': WHATEVER THE INPUT: true; the input reads as it did. -/
def fieldSquaresSpec : ChangeSpec := { name := "fieldSquares", fn := fun _ => fun
  | [d1, d2] => { results := [.lit (.bool true)], args := [d1, d2] }
  | _ => none }
def fieldSquaresRow : OpenClaim := { program := "ytdggikbaemigbaa", sum := "8f784b48d9856f1fd2e96c8d3127dd470392b15b4caf68e16dca7a9d36c791f1", func := "portcullis/portcullislaw3.FieldSquares", spec := "fieldSquares", inPlace := ["math/bits.Sub64", "math/bits.Add64"], apart := false }
def FieldSquaresSaid : Prop := fieldSquaresRow.holds Try.pinned (OpenSpec.ofChange fieldSquaresSpec)

/-- ITS FALSE NEIGHBOUR: 'it returns false'. Refute it at one input. -/
def fieldSquaresWrong : ChangeSpec := { name := "fieldSquares", fn := fun _ => fun
  | [d1, d2] => { results := [.lit (.bool false)], args := [d1, d2] }
  | _ => none }
def FieldSquaresWrongFalsely : Prop := fieldSquaresRow.holds Try.pinned (OpenSpec.ofChange fieldSquaresWrong)

/-- 'portcullislaw12.LadderMuls': WHATEVER THE INPUT: true; the input reads as it did. -/
def ladderMulsSpec : ChangeSpec := { name := "ladderMuls", fn := fun _ => fun
  | [d1, d2] => { results := [.lit (.bool true)], args := [d1, d2] }
  | _ => none }
def ladderMulsRow : OpenClaim := { program := "ytdggikbaemigbaa", sum := "8f784b48d9856f1fd2e96c8d3127dd470392b15b4caf68e16dca7a9d36c791f1", func := "portcullis/portcullislaw12.LadderMuls", spec := "ladderMuls", inPlace := ["math/bits.Sub64", "math/bits.Add64"], apart := false }
def LadderMulsSaid : Prop := ladderMulsRow.holds Try.pinned (OpenSpec.ofChange ladderMulsSpec)

/-- ITS FALSE NEIGHBOUR: 'it returns false'. Refute it at one input. -/
def ladderMulsWrong : ChangeSpec := { name := "ladderMuls", fn := fun _ => fun
  | [d1, d2] => { results := [.lit (.bool false)], args := [d1, d2] }
  | _ => none }
def LadderMulsWrongFalsely : Prop := ladderMulsRow.holds Try.pinned (OpenSpec.ofChange ladderMulsWrong)

/-- 'portcullislaw12.LadderShares': WHATEVER THE INPUT: true; the input reads as it did. -/
def ladderSharesSpec : ChangeSpec := { name := "ladderShares", fn := fun _ => fun
  | [d1, d2] => { results := [.lit (.bool true)], args := [d1, d2] }
  | _ => none }
def ladderSharesRow : OpenClaim := { program := "ytdggikbaemigbaa", sum := "8f784b48d9856f1fd2e96c8d3127dd470392b15b4caf68e16dca7a9d36c791f1", func := "portcullis/portcullislaw12.LadderShares", spec := "ladderShares", inPlace := ["math/bits.Sub64", "math/bits.Add64"], apart := false }
def LadderSharesSaid : Prop := ladderSharesRow.holds Try.pinned (OpenSpec.ofChange ladderSharesSpec)

/-- ITS FALSE NEIGHBOUR: 'it returns false'. Refute it at one input. -/
def ladderSharesWrong : ChangeSpec := { name := "ladderShares", fn := fun _ => fun
  | [d1, d2] => { results := [.lit (.bool false)], args := [d1, d2] }
  | _ => none }
def LadderSharesWrongFalsely : Prop := ladderSharesRow.holds Try.pinned (OpenSpec.ofChange ladderSharesWrong)

/-- 'portcullislaw12.LadderBits': WHATEVER THE INPUT: true; the input reads as it did. -/
def ladderBitsSpec : ChangeSpec := { name := "ladderBits", fn := fun _ => fun
  | [d1, d2, d3, d4, d5] => { results := [.lit (.bool true)], args := [d1, d2, d3, d4, d5] }
  | _ => none }
def ladderBitsRow : OpenClaim := { program := "ytdggikbaemigbaa", sum := "8f784b48d9856f1fd2e96c8d3127dd470392b15b4caf68e16dca7a9d36c791f1", func := "portcullis/portcullislaw12.LadderBits", spec := "ladderBits", inPlace := ["math/bits.Sub64", "math/bits.Add64"], apart := false }
def LadderBitsSaid : Prop := ladderBitsRow.holds Try.pinned (OpenSpec.ofChange ladderBitsSpec)

/-- ITS FALSE NEIGHBOUR: 'it returns false'. Refute it at one input. -/
def ladderBitsWrong : ChangeSpec := { name := "ladderBits", fn := fun _ => fun
  | [d1, d2, d3, d4, d5] => { results := [.lit (.bool false)], args := [d1, d2, d3, d4, d5] }
  | _ => none }
def LadderBitsWrongFalsely : Prop := ladderBitsRow.holds Try.pinned (OpenSpec.ofChange ladderBitsWrong)

/-- 'portcullislaw12.LadderKnown': WHATEVER THE INPUT: true; the input reads as it did. -/
def ladderKnownSpec : ChangeSpec := { name := "ladderKnown", fn := fun _ => fun
  | [d] => { results := [.lit (.bool true)], args := [d] }
  | _ => none }
def ladderKnownRow : OpenClaim := { program := "ytdggikbaemigbaa", sum := "8f784b48d9856f1fd2e96c8d3127dd470392b15b4caf68e16dca7a9d36c791f1", func := "portcullis/portcullislaw12.LadderKnown", spec := "ladderKnown", inPlace := ["math/bits.Sub64", "math/bits.Add64"], apart := false }
def LadderKnownSaid : Prop := ladderKnownRow.holds Try.pinned (OpenSpec.ofChange ladderKnownSpec)

/-- ITS FALSE NEIGHBOUR: 'it returns false'. Refute it at one input. -/
def ladderKnownWrong : ChangeSpec := { name := "ladderKnown", fn := fun _ => fun
  | [d] => { results := [.lit (.bool false)], args := [d] }
  | _ => none }
def LadderKnownWrongFalsely : Prop := ladderKnownRow.holds Try.pinned (OpenSpec.ofChange ladderKnownWrong)

/-- 'portcullislaw12.LadderThree': WHATEVER THE INPUT: true; the input reads as it did. -/
def ladderThreeSpec : ChangeSpec := { name := "ladderThree", fn := fun _ => fun
  | [d1, d2, d3] => { results := [.lit (.bool true)], args := [d1, d2, d3] }
  | _ => none }
def ladderThreeRow : OpenClaim := { program := "ytdggikbaemigbaa", sum := "8f784b48d9856f1fd2e96c8d3127dd470392b15b4caf68e16dca7a9d36c791f1", func := "portcullis/portcullislaw12.LadderThree", spec := "ladderThree", inPlace := ["math/bits.Sub64", "math/bits.Add64"], apart := false }
def LadderThreeSaid : Prop := ladderThreeRow.holds Try.pinned (OpenSpec.ofChange ladderThreeSpec)

/-- ITS FALSE NEIGHBOUR: 'it returns false'. Refute it at one input. -/
def ladderThreeWrong : ChangeSpec := { name := "ladderThree", fn := fun _ => fun
  | [d1, d2, d3] => { results := [.lit (.bool false)], args := [d1, d2, d3] }
  | _ => none }
def LadderThreeWrongFalsely : Prop := ladderThreeRow.holds Try.pinned (OpenSpec.ofChange ladderThreeWrong)

/-- 'portcullislaw12.LadderLow': WHATEVER THE INPUT: true; the input reads as it did. -/
def ladderLowSpec : ChangeSpec := { name := "ladderLow", fn := fun _ => fun
  | [d1, d2, d3] => { results := [.lit (.bool true)], args := [d1, d2, d3] }
  | _ => none }
def ladderLowRow : OpenClaim := { program := "ytdggikbaemigbaa", sum := "8f784b48d9856f1fd2e96c8d3127dd470392b15b4caf68e16dca7a9d36c791f1", func := "portcullis/portcullislaw12.LadderLow", spec := "ladderLow", inPlace := ["math/bits.Sub64", "math/bits.Add64"], apart := false }
def LadderLowSaid : Prop := ladderLowRow.holds Try.pinned (OpenSpec.ofChange ladderLowSpec)

/-- ITS FALSE NEIGHBOUR: 'it returns false'. Refute it at one input. -/
def ladderLowWrong : ChangeSpec := { name := "ladderLow", fn := fun _ => fun
  | [d1, d2, d3] => { results := [.lit (.bool false)], args := [d1, d2, d3] }
  | _ => none }
def LadderLowWrongFalsely : Prop := ladderLowRow.holds Try.pinned (OpenSpec.ofChange ladderLowWrong)

/-- 'portcullislaw12.LadderCanon': WHATEVER THE INPUT: true; the input reads as it did. -/
def ladderCanonSpec : ChangeSpec := { name := "ladderCanon", fn := fun _ => fun
  | [d1, d2] => { results := [.lit (.bool true)], args := [d1, d2] }
  | _ => none }
def ladderCanonRow : OpenClaim := { program := "ytdggikbaemigbaa", sum := "8f784b48d9856f1fd2e96c8d3127dd470392b15b4caf68e16dca7a9d36c791f1", func := "portcullis/portcullislaw12.LadderCanon", spec := "ladderCanon", inPlace := ["math/bits.Sub64", "math/bits.Add64"], apart := false }
def LadderCanonSaid : Prop := ladderCanonRow.holds Try.pinned (OpenSpec.ofChange ladderCanonSpec)

/-- ITS FALSE NEIGHBOUR: 'it returns false'. Refute it at one input. -/
def ladderCanonWrong : ChangeSpec := { name := "ladderCanon", fn := fun _ => fun
  | [d1, d2] => { results := [.lit (.bool false)], args := [d1, d2] }
  | _ => none }
def LadderCanonWrongFalsely : Prop := ladderCanonRow.holds Try.pinned (OpenSpec.ofChange ladderCanonWrong)

/- THE SECOND FORM. 'bulk': how many values and letters a reading holds, each counted each time it is reached (what is shared counts as often as it is met; a slice's spare places count too). A statement '..UptoSaid' is the law's where the arguments, and the package variables that the reading takes, are together of bulk at most 1048576: NARROWER than '..Said'. Prove '..Said' where nothing that the law and all that it calls make is longer than what came in: it says more and counts as full. Else prove '..UptoSaid'. A law counts once. -/
mutual
def uptoBulk {H : Type} : DataW H → Nat
  | .lit (.string bytes) => bytes.length + 1
  | .lit _ => 1
  | .nil => 1
  | .ptr d => uptoBulk d + 1
  | .slice elems spare => uptoBulkAll elems + uptoBulkAll spare + 1
  | .agg parts => uptoBulkAll parts + 1
  | .iface _ d => uptoBulk d + 1
  | .map entries => uptoBulkEntries entries + 1
  | .held _ => 1
def uptoBulkAll {H : Type} : List (DataW H) → Nat
  | [] => 0
  | d :: r => uptoBulk d + uptoBulkAll r
def uptoBulkEntries {H : Type} : List (Lit × DataW H) → Nat
  | [] => 0
  | x :: r => uptoBulkEntry x + uptoBulkEntries r
def uptoBulkEntry {H : Type} : Lit × DataW H → Nat
  | (.string bytes, d) => bytes.length + uptoBulk d + 1
  | (_, d) => uptoBulk d + 1
 end
def uptoSmall : (H : Type) → List (DataW H) → Bool := fun _ ds => decide (uptoBulkAll ds ≤ 1048576)
def OpenSpec.upto (s : _root_.Go.ChangeSpec) : _root_.Go.OpenSpec := { _root_.Go.OpenSpec.ofChange s with cond := some uptoSmall }

/-- 'portcullislaw4.ScalarLong', WHERE WHAT IT READS IS OF BULK AT MOST 1048576: true; the input reads as it did. -/
def scalarLongUptoRow : OpenClaim := { program := "ytdggikbaemigbaa", sum := "8f784b48d9856f1fd2e96c8d3127dd470392b15b4caf68e16dca7a9d36c791f1", func := "portcullis/portcullislaw4.ScalarLong", spec := "scalarLong", inPlace := ["math/bits.Add64", "math/bits.Sub64"], apart := false, narrowed := true }
def ScalarLongUptoSaid : Prop := scalarLongUptoRow.holds Try.pinned (OpenSpec.upto scalarLongSpec)

/-- 'portcullislaw3.FieldEdges', WHERE WHAT IT READS IS OF BULK AT MOST 1048576: true; the input reads as it did. -/
def fieldEdgesUptoRow : OpenClaim := { program := "ytdggikbaemigbaa", sum := "8f784b48d9856f1fd2e96c8d3127dd470392b15b4caf68e16dca7a9d36c791f1", func := "portcullis/portcullislaw3.FieldEdges", spec := "fieldEdges", inPlace := ["math/bits.Sub64", "math/bits.Add64"], apart := false, narrowed := true }
def FieldEdgesUptoSaid : Prop := fieldEdgesUptoRow.holds Try.pinned (OpenSpec.upto fieldEdgesSpec)

/-- 'portcullislaw3.FieldPicks', WHERE WHAT IT READS IS OF BULK AT MOST 1048576: true; the input reads as it did. -/
def fieldPicksUptoRow : OpenClaim := { program := "ytdggikbaemigbaa", sum := "8f784b48d9856f1fd2e96c8d3127dd470392b15b4caf68e16dca7a9d36c791f1", func := "portcullis/portcullislaw3.FieldPicks", spec := "fieldPicks", inPlace := ["math/bits.Sub64", "math/bits.Add64"], apart := false, narrowed := true }
def FieldPicksUptoSaid : Prop := fieldPicksUptoRow.holds Try.pinned (OpenSpec.upto fieldPicksSpec)

/-- 'portcullislaw4.ScalarShifts', WHERE WHAT IT READS IS OF BULK AT MOST 1048576: true; the input reads as it did. -/
def scalarShiftsUptoRow : OpenClaim := { program := "ytdggikbaemigbaa", sum := "8f784b48d9856f1fd2e96c8d3127dd470392b15b4caf68e16dca7a9d36c791f1", func := "portcullis/portcullislaw4.ScalarShifts", spec := "scalarShifts", inPlace := ["math/bits.Add64", "math/bits.Sub64"], apart := false, narrowed := true }
def ScalarShiftsUptoSaid : Prop := scalarShiftsUptoRow.holds Try.pinned (OpenSpec.upto scalarShiftsSpec)

/-- 'portcullislaw4.ScalarRules', WHERE WHAT IT READS IS OF BULK AT MOST 1048576: true; the input reads as it did. -/
def scalarRulesUptoRow : OpenClaim := { program := "ytdggikbaemigbaa", sum := "8f784b48d9856f1fd2e96c8d3127dd470392b15b4caf68e16dca7a9d36c791f1", func := "portcullis/portcullislaw4.ScalarRules", spec := "scalarRules", inPlace := ["math/bits.Add64", "math/bits.Sub64"], apart := false, narrowed := true }
def ScalarRulesUptoSaid : Prop := scalarRulesUptoRow.holds Try.pinned (OpenSpec.upto scalarRulesSpec)

/-- 'portcullislaw3.FieldAdds', WHERE WHAT IT READS IS OF BULK AT MOST 1048576: true; the input reads as it did. -/
def fieldAddsUptoRow : OpenClaim := { program := "ytdggikbaemigbaa", sum := "8f784b48d9856f1fd2e96c8d3127dd470392b15b4caf68e16dca7a9d36c791f1", func := "portcullis/portcullislaw3.FieldAdds", spec := "fieldAdds", inPlace := ["math/bits.Sub64", "math/bits.Add64"], apart := false, narrowed := true }
def FieldAddsUptoSaid : Prop := fieldAddsUptoRow.holds Try.pinned (OpenSpec.upto fieldAddsSpec)

/-- 'portcullislaw3.FieldSums', WHERE WHAT IT READS IS OF BULK AT MOST 1048576: true; the input reads as it did. -/
def fieldSumsUptoRow : OpenClaim := { program := "ytdggikbaemigbaa", sum := "8f784b48d9856f1fd2e96c8d3127dd470392b15b4caf68e16dca7a9d36c791f1", func := "portcullis/portcullislaw3.FieldSums", spec := "fieldSums", inPlace := ["math/bits.Sub64", "math/bits.Add64"], apart := false, narrowed := true }
def FieldSumsUptoSaid : Prop := fieldSumsUptoRow.holds Try.pinned (OpenSpec.upto fieldSumsSpec)

/-- 'portcullislaw10.PolySums', WHERE WHAT IT READS IS OF BULK AT MOST 1048576: true; the input reads as it did. -/
def polySumsUptoRow : OpenClaim := { program := "ytdggikbaemigbaa", sum := "8f784b48d9856f1fd2e96c8d3127dd470392b15b4caf68e16dca7a9d36c791f1", func := "portcullis/portcullislaw10.PolySums", spec := "polySums", inPlace := ["math/bits.Add64", "math/bits.Sub64"], apart := false, narrowed := true }
def PolySumsUptoSaid : Prop := polySumsUptoRow.holds Try.pinned (OpenSpec.upto polySumsSpec)

/-- 'portcullislaw10.PolyEdges', WHERE WHAT IT READS IS OF BULK AT MOST 1048576: true; the input reads as it did. -/
def polyEdgesUptoRow : OpenClaim := { program := "ytdggikbaemigbaa", sum := "8f784b48d9856f1fd2e96c8d3127dd470392b15b4caf68e16dca7a9d36c791f1", func := "portcullis/portcullislaw10.PolyEdges", spec := "polyEdges", inPlace := ["math/bits.Add64", "math/bits.Sub64"], apart := false, narrowed := true }
def PolyEdgesUptoSaid : Prop := polyEdgesUptoRow.holds Try.pinned (OpenSpec.upto polyEdgesSpec)

/-- 'portcullislaw10.PolyPads', WHERE WHAT IT READS IS OF BULK AT MOST 1048576: true; the input reads as it did. -/
def polyPadsUptoRow : OpenClaim := { program := "ytdggikbaemigbaa", sum := "8f784b48d9856f1fd2e96c8d3127dd470392b15b4caf68e16dca7a9d36c791f1", func := "portcullis/portcullislaw10.PolyPads", spec := "polyPads", inPlace := ["math/bits.Add64", "math/bits.Sub64"], apart := false, narrowed := true }
def PolyPadsUptoSaid : Prop := polyPadsUptoRow.holds Try.pinned (OpenSpec.upto polyPadsSpec)

/-- 'portcullislaw10.PolyCuts', WHERE WHAT IT READS IS OF BULK AT MOST 1048576: true; the input reads as it did. -/
def polyCutsUptoRow : OpenClaim := { program := "ytdggikbaemigbaa", sum := "8f784b48d9856f1fd2e96c8d3127dd470392b15b4caf68e16dca7a9d36c791f1", func := "portcullis/portcullislaw10.PolyCuts", spec := "polyCuts", inPlace := ["math/bits.Add64", "math/bits.Sub64"], apart := false, narrowed := true }
def PolyCutsUptoSaid : Prop := polyCutsUptoRow.holds Try.pinned (OpenSpec.upto polyCutsSpec)

/-- 'portcullislaw10.PolyNought', WHERE WHAT IT READS IS OF BULK AT MOST 1048576: true; the input reads as it did. -/
def polyNoughtUptoRow : OpenClaim := { program := "ytdggikbaemigbaa", sum := "8f784b48d9856f1fd2e96c8d3127dd470392b15b4caf68e16dca7a9d36c791f1", func := "portcullis/portcullislaw10.PolyNought", spec := "polyNought", inPlace := ["math/bits.Add64", "math/bits.Sub64"], apart := false, narrowed := true }
def PolyNoughtUptoSaid : Prop := polyNoughtUptoRow.holds Try.pinned (OpenSpec.upto polyNoughtSpec)

/-- 'portcullislaw3.FieldSteps', WHERE WHAT IT READS IS OF BULK AT MOST 1048576: true; the input reads as it did. -/
def fieldStepsUptoRow : OpenClaim := { program := "ytdggikbaemigbaa", sum := "8f784b48d9856f1fd2e96c8d3127dd470392b15b4caf68e16dca7a9d36c791f1", func := "portcullis/portcullislaw3.FieldSteps", spec := "fieldSteps", inPlace := ["math/bits.Sub64", "math/bits.Add64"], apart := false, narrowed := true }
def FieldStepsUptoSaid : Prop := fieldStepsUptoRow.holds Try.pinned (OpenSpec.upto fieldStepsSpec)

/-- 'portcullislaw3.FieldPowers', WHERE WHAT IT READS IS OF BULK AT MOST 1048576: true; the input reads as it did. -/
def fieldPowersUptoRow : OpenClaim := { program := "ytdggikbaemigbaa", sum := "8f784b48d9856f1fd2e96c8d3127dd470392b15b4caf68e16dca7a9d36c791f1", func := "portcullis/portcullislaw3.FieldPowers", spec := "fieldPowers", inPlace := ["math/bits.Sub64", "math/bits.Add64"], apart := false, narrowed := true }
def FieldPowersUptoSaid : Prop := fieldPowersUptoRow.holds Try.pinned (OpenSpec.upto fieldPowersSpec)

/-- 'portcullislaw3.FieldRules', WHERE WHAT IT READS IS OF BULK AT MOST 1048576: true; the input reads as it did. -/
def fieldRulesUptoRow : OpenClaim := { program := "ytdggikbaemigbaa", sum := "8f784b48d9856f1fd2e96c8d3127dd470392b15b4caf68e16dca7a9d36c791f1", func := "portcullis/portcullislaw3.FieldRules", spec := "fieldRules", inPlace := ["math/bits.Sub64", "math/bits.Add64"], apart := false, narrowed := true }
def FieldRulesUptoSaid : Prop := fieldRulesUptoRow.holds Try.pinned (OpenSpec.upto fieldRulesSpec)

/-- 'portcullislaw3.FieldSquares', WHERE WHAT IT READS IS OF BULK AT MOST 1048576: true; the input reads as it did. -/
def fieldSquaresUptoRow : OpenClaim := { program := "ytdggikbaemigbaa", sum := "8f784b48d9856f1fd2e96c8d3127dd470392b15b4caf68e16dca7a9d36c791f1", func := "portcullis/portcullislaw3.FieldSquares", spec := "fieldSquares", inPlace := ["math/bits.Sub64", "math/bits.Add64"], apart := false, narrowed := true }
def FieldSquaresUptoSaid : Prop := fieldSquaresUptoRow.holds Try.pinned (OpenSpec.upto fieldSquaresSpec)

/-- 'portcullislaw12.LadderMuls', WHERE WHAT IT READS IS OF BULK AT MOST 1048576: true; the input reads as it did. -/
def ladderMulsUptoRow : OpenClaim := { program := "ytdggikbaemigbaa", sum := "8f784b48d9856f1fd2e96c8d3127dd470392b15b4caf68e16dca7a9d36c791f1", func := "portcullis/portcullislaw12.LadderMuls", spec := "ladderMuls", inPlace := ["math/bits.Sub64", "math/bits.Add64"], apart := false, narrowed := true }
def LadderMulsUptoSaid : Prop := ladderMulsUptoRow.holds Try.pinned (OpenSpec.upto ladderMulsSpec)

/-- 'portcullislaw12.LadderShares', WHERE WHAT IT READS IS OF BULK AT MOST 1048576: true; the input reads as it did. -/
def ladderSharesUptoRow : OpenClaim := { program := "ytdggikbaemigbaa", sum := "8f784b48d9856f1fd2e96c8d3127dd470392b15b4caf68e16dca7a9d36c791f1", func := "portcullis/portcullislaw12.LadderShares", spec := "ladderShares", inPlace := ["math/bits.Sub64", "math/bits.Add64"], apart := false, narrowed := true }
def LadderSharesUptoSaid : Prop := ladderSharesUptoRow.holds Try.pinned (OpenSpec.upto ladderSharesSpec)

/-- 'portcullislaw12.LadderBits', WHERE WHAT IT READS IS OF BULK AT MOST 1048576: true; the input reads as it did. -/
def ladderBitsUptoRow : OpenClaim := { program := "ytdggikbaemigbaa", sum := "8f784b48d9856f1fd2e96c8d3127dd470392b15b4caf68e16dca7a9d36c791f1", func := "portcullis/portcullislaw12.LadderBits", spec := "ladderBits", inPlace := ["math/bits.Sub64", "math/bits.Add64"], apart := false, narrowed := true }
def LadderBitsUptoSaid : Prop := ladderBitsUptoRow.holds Try.pinned (OpenSpec.upto ladderBitsSpec)

/-- 'portcullislaw12.LadderKnown', WHERE WHAT IT READS IS OF BULK AT MOST 1048576: true; the input reads as it did. -/
def ladderKnownUptoRow : OpenClaim := { program := "ytdggikbaemigbaa", sum := "8f784b48d9856f1fd2e96c8d3127dd470392b15b4caf68e16dca7a9d36c791f1", func := "portcullis/portcullislaw12.LadderKnown", spec := "ladderKnown", inPlace := ["math/bits.Sub64", "math/bits.Add64"], apart := false, narrowed := true }
def LadderKnownUptoSaid : Prop := ladderKnownUptoRow.holds Try.pinned (OpenSpec.upto ladderKnownSpec)

/-- 'portcullislaw12.LadderThree', WHERE WHAT IT READS IS OF BULK AT MOST 1048576: true; the input reads as it did. -/
def ladderThreeUptoRow : OpenClaim := { program := "ytdggikbaemigbaa", sum := "8f784b48d9856f1fd2e96c8d3127dd470392b15b4caf68e16dca7a9d36c791f1", func := "portcullis/portcullislaw12.LadderThree", spec := "ladderThree", inPlace := ["math/bits.Sub64", "math/bits.Add64"], apart := false, narrowed := true }
def LadderThreeUptoSaid : Prop := ladderThreeUptoRow.holds Try.pinned (OpenSpec.upto ladderThreeSpec)

/-- 'portcullislaw12.LadderLow', WHERE WHAT IT READS IS OF BULK AT MOST 1048576: true; the input reads as it did. -/
def ladderLowUptoRow : OpenClaim := { program := "ytdggikbaemigbaa", sum := "8f784b48d9856f1fd2e96c8d3127dd470392b15b4caf68e16dca7a9d36c791f1", func := "portcullis/portcullislaw12.LadderLow", spec := "ladderLow", inPlace := ["math/bits.Sub64", "math/bits.Add64"], apart := false, narrowed := true }
def LadderLowUptoSaid : Prop := ladderLowUptoRow.holds Try.pinned (OpenSpec.upto ladderLowSpec)

/-- 'portcullislaw12.LadderCanon', WHERE WHAT IT READS IS OF BULK AT MOST 1048576: true; the input reads as it did. -/
def ladderCanonUptoRow : OpenClaim := { program := "ytdggikbaemigbaa", sum := "8f784b48d9856f1fd2e96c8d3127dd470392b15b4caf68e16dca7a9d36c791f1", func := "portcullis/portcullislaw12.LadderCanon", spec := "ladderCanon", inPlace := ["math/bits.Sub64", "math/bits.Add64"], apart := false, narrowed := true }
def LadderCanonUptoSaid : Prop := ladderCanonUptoRow.holds Try.pinned (OpenSpec.upto ladderCanonSpec)

end Rows
end Go.Proofs.Ytdggikbaemigbaa
