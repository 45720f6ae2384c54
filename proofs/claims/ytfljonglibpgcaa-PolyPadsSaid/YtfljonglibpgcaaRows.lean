/-
  No cell of these rows narrows 'for every input' (looked for: loops, veiled, ifaces, maps, wideKeys, modest, calm, conditions, laid).
  DERIVED. THE GIVEN ROWS OF THIS SEAT. 5 by the template 'for every input the law returns true; each argument reads behind the call as it read before'; 0 by the template 'total and deterministic' (their statements: YtfljonglibpgcaaTotals.lean).
  GIVEN WITH THE SEED: the statements are not yours to turn. If you find one false, say at which input.
  Laid BY PROGRAM, IN A SANDBOX (cutbox-rows.mjs): the forced cells as the released guide's own fill.sh prints them over the translation 5c62f80290a7da47… (all of the seat's roots in one cut). By AI agents, Wed Nov 11 2026. No macro, syntax, notation, axiom, sorry.
-/
import Derived.Test.YtfljonglibpgcaaChecked
import GoSem.Claim
import GoSem.ClaimJoined
import GoSem.ClaimMapViews
import Derived.JoinedTies
import Derived.KernelRfl
namespace Go.Proofs.Ytfljonglibpgcaa
/- THE CELL 'sum', in the pinned program and in every row, IS THE sha256 OF THE DUMP (.gsa) THAT YtfljonglibpgcaaProg.lean LOADS. Nothing in Lean hashes anything: it is a label: what it is worth is what the hold of that sum in a sandbox is worth. -/
noncomputable def Try.pinned : Pinned := { name := "ytfljonglibpgcaa", sum := "5c62f80290a7da472fa20a0519ed95dd66dfd34e8d4d39a40dbd77527db65a97", checked := Try.checked }
namespace Rows
def none {H : Type} : Left H := { results := [], args := [] }

/-- 'portcullislaw10.PolySums': WHATEVER THE INPUT: true; the input reads as it did. -/
def polySumsSpec : ChangeSpec := { name := "polySums", fn := fun _ => fun
  | [d1, d2] => { results := [.lit (.bool true)], args := [d1, d2] }
  | _ => none }
def polySumsRow : OpenClaim := { program := "ytfljonglibpgcaa", sum := "5c62f80290a7da472fa20a0519ed95dd66dfd34e8d4d39a40dbd77527db65a97", func := "portcullis/portcullislaw10.PolySums", spec := "polySums", inPlace := ["math/bits.Add64", "math/bits.Sub64"], apart := false }
def PolySumsSaid : Prop := polySumsRow.holds Try.pinned (OpenSpec.ofChange polySumsSpec)

/-- ITS FALSE NEIGHBOUR: 'it returns false'. Refute it at one input. -/
def polySumsWrong : ChangeSpec := { name := "polySums", fn := fun _ => fun
  | [d1, d2] => { results := [.lit (.bool false)], args := [d1, d2] }
  | _ => none }
def PolySumsWrongFalsely : Prop := polySumsRow.holds Try.pinned (OpenSpec.ofChange polySumsWrong)

/-- 'portcullislaw10.PolyEdges': WHATEVER THE INPUT: true; the input reads as it did. -/
def polyEdgesSpec : ChangeSpec := { name := "polyEdges", fn := fun _ => fun
  | [d1, d2, d3] => { results := [.lit (.bool true)], args := [d1, d2, d3] }
  | _ => none }
def polyEdgesRow : OpenClaim := { program := "ytfljonglibpgcaa", sum := "5c62f80290a7da472fa20a0519ed95dd66dfd34e8d4d39a40dbd77527db65a97", func := "portcullis/portcullislaw10.PolyEdges", spec := "polyEdges", inPlace := ["math/bits.Add64", "math/bits.Sub64"], apart := false }
def PolyEdgesSaid : Prop := polyEdgesRow.holds Try.pinned (OpenSpec.ofChange polyEdgesSpec)

/-- ITS FALSE NEIGHBOUR: 'it returns false'. Refute it at one input. -/
def polyEdgesWrong : ChangeSpec := { name := "polyEdges", fn := fun _ => fun
  | [d1, d2, d3] => { results := [.lit (.bool false)], args := [d1, d2, d3] }
  | _ => none }
def PolyEdgesWrongFalsely : Prop := polyEdgesRow.holds Try.pinned (OpenSpec.ofChange polyEdgesWrong)

/-- 'portcullislaw10.PolyPads': WHATEVER THE INPUT: true; the input reads as it did. -/
def polyPadsSpec : ChangeSpec := { name := "polyPads", fn := fun _ => fun
  | [d1, d2, d3] => { results := [.lit (.bool true)], args := [d1, d2, d3] }
  | _ => none }
def polyPadsRow : OpenClaim := { program := "ytfljonglibpgcaa", sum := "5c62f80290a7da472fa20a0519ed95dd66dfd34e8d4d39a40dbd77527db65a97", func := "portcullis/portcullislaw10.PolyPads", spec := "polyPads", inPlace := ["math/bits.Add64", "math/bits.Sub64"], apart := false }
def PolyPadsSaid : Prop := polyPadsRow.holds Try.pinned (OpenSpec.ofChange polyPadsSpec)

/-- ITS FALSE NEIGHBOUR: 'it returns false'. Refute it at one input. -/
def polyPadsWrong : ChangeSpec := { name := "polyPads", fn := fun _ => fun
  | [d1, d2, d3] => { results := [.lit (.bool false)], args := [d1, d2, d3] }
  | _ => none }
def PolyPadsWrongFalsely : Prop := polyPadsRow.holds Try.pinned (OpenSpec.ofChange polyPadsWrong)

/-- 'portcullislaw10.PolyCuts': WHATEVER THE INPUT: true; the input reads as it did. -/
def polyCutsSpec : ChangeSpec := { name := "polyCuts", fn := fun _ => fun
  | [d1, d2, d3, d4] => { results := [.lit (.bool true)], args := [d1, d2, d3, d4] }
  | _ => none }
def polyCutsRow : OpenClaim := { program := "ytfljonglibpgcaa", sum := "5c62f80290a7da472fa20a0519ed95dd66dfd34e8d4d39a40dbd77527db65a97", func := "portcullis/portcullislaw10.PolyCuts", spec := "polyCuts", inPlace := ["math/bits.Add64", "math/bits.Sub64"], apart := false }
def PolyCutsSaid : Prop := polyCutsRow.holds Try.pinned (OpenSpec.ofChange polyCutsSpec)

/-- ITS FALSE NEIGHBOUR: 'it returns false'. Refute it at one input. -/
def polyCutsWrong : ChangeSpec := { name := "polyCuts", fn := fun _ => fun
  | [d1, d2, d3, d4] => { results := [.lit (.bool false)], args := [d1, d2, d3, d4] }
  | _ => none }
def PolyCutsWrongFalsely : Prop := polyCutsRow.holds Try.pinned (OpenSpec.ofChange polyCutsWrong)

/-- 'portcullislaw10.PolyNought': WHATEVER THE INPUT: true; the input reads as it did. -/
def polyNoughtSpec : ChangeSpec := { name := "polyNought", fn := fun _ => fun
  | [d1, d2] => { results := [.lit (.bool true)], args := [d1, d2] }
  | _ => none }
def polyNoughtRow : OpenClaim := { program := "ytfljonglibpgcaa", sum := "5c62f80290a7da472fa20a0519ed95dd66dfd34e8d4d39a40dbd77527db65a97", func := "portcullis/portcullislaw10.PolyNought", spec := "polyNought", inPlace := ["math/bits.Add64", "math/bits.Sub64"], apart := false }
def PolyNoughtSaid : Prop := polyNoughtRow.holds Try.pinned (OpenSpec.ofChange polyNoughtSpec)

/-- ITS FALSE NEIGHBOUR: 'it returns false'. Refute it at one input. -/
def polyNoughtWrong : ChangeSpec := { name := "polyNought", fn := fun _ => fun
  | [d1, d2] => { results := [.lit (.bool false)], args := [d1, d2] }
  | _ => none }
def PolyNoughtWrongFalsely : Prop := polyNoughtRow.holds Try.pinned (OpenSpec.ofChange polyNoughtWrong)

/- THE SECOND FORM. 'bulk': how many values and letters a reading holds, each counted each time it is reached (what is shared counts as often as it is met; a slice's spare places count too). A statement '..UptoSaid' is the law's where the arguments, and the package variables that the reading takes, are together of bulk at most 1048576: NARROWER than '..Said'. Prove '..Said' where nothing that the law and all that it calls make is longer than what came in: it says more and counts as full. Else prove '..UptoSaid'. A law counts once. -/
mutual
def uptoBulk {H : Type} : DataW H → Nat
  | .lit (.string bytes) => bytes.length + 1
  | .lit _ => 1
  | .nil => 1
  | .ptr d => uptoBulk d + 1
  | .slice elems spare => uptoBulkAll elems + uptoBulkAll spare + 1
  | .agg parts => uptoBulkAll parts + 1
  | .iface _ d => uptoBulk d + 1
  | .map entries => uptoBulkEntries entries + 1
  | .held _ => 1
def uptoBulkAll {H : Type} : List (DataW H) → Nat
  | [] => 0
  | d :: r => uptoBulk d + uptoBulkAll r
def uptoBulkEntries {H : Type} : List (Lit × DataW H) → Nat
  | [] => 0
  | x :: r => uptoBulkEntry x + uptoBulkEntries r
def uptoBulkEntry {H : Type} : Lit × DataW H → Nat
  | (.string bytes, d) => bytes.length + uptoBulk d + 1
  | (_, d) => uptoBulk d + 1
 end
def uptoSmall : (H : Type) → List (DataW H) → Bool := fun _ ds => decide (uptoBulkAll ds ≤ 1048576)
def OpenSpec.upto (s : _root_.Go.ChangeSpec) : _root_.Go.OpenSpec := { _root_.Go.OpenSpec.ofChange s with cond := some uptoSmall }

/-- 'portcullislaw10.PolySums', WHERE WHAT IT READS IS OF BULK AT MOST 1048576: true; the input reads as it did. -/
def polySumsUptoRow : OpenClaim := { program := "ytfljonglibpgcaa", sum := "5c62f80290a7da472fa20a0519ed95dd66dfd34e8d4d39a40dbd77527db65a97", func := "portcullis/portcullislaw10.PolySums", spec := "polySums", inPlace := ["math/bits.Add64", "math/bits.Sub64"], apart := false, narrowed := true }
def PolySumsUptoSaid : Prop := polySumsUptoRow.holds Try.pinned (OpenSpec.upto polySumsSpec)

/-- 'portcullislaw10.PolyEdges', WHERE WHAT IT READS IS OF BULK AT MOST 1048576: true; the input reads as it did. -/
def polyEdgesUptoRow : OpenClaim := { program := "ytfljonglibpgcaa", sum := "5c62f80290a7da472fa20a0519ed95dd66dfd34e8d4d39a40dbd77527db65a97", func := "portcullis/portcullislaw10.PolyEdges", spec := "polyEdges", inPlace := ["math/bits.Add64", "math/bits.Sub64"], apart := false, narrowed := true }
def PolyEdgesUptoSaid : Prop := polyEdgesUptoRow.holds Try.pinned (OpenSpec.upto polyEdgesSpec)

/-- 'portcullislaw10.PolyPads', WHERE WHAT IT READS IS OF BULK AT MOST 1048576: true; the input reads as it did. -/
def polyPadsUptoRow : OpenClaim := { program := "ytfljonglibpgcaa", sum := "5c62f80290a7da472fa20a0519ed95dd66dfd34e8d4d39a40dbd77527db65a97", func := "portcullis/portcullislaw10.PolyPads", spec := "polyPads", inPlace := ["math/bits.Add64", "math/bits.Sub64"], apart := false, narrowed := true }
def PolyPadsUptoSaid : Prop := polyPadsUptoRow.holds Try.pinned (OpenSpec.upto polyPadsSpec)

/-- 'portcullislaw10.PolyCuts', WHERE WHAT IT READS IS OF BULK AT MOST 1048576: true; the input reads as it did. -/
def polyCutsUptoRow : OpenClaim := { program := "ytfljonglibpgcaa", sum := "5c62f80290a7da472fa20a0519ed95dd66dfd34e8d4d39a40dbd77527db65a97", func := "portcullis/portcullislaw10.PolyCuts", spec := "polyCuts", inPlace := ["math/bits.Add64", "math/bits.Sub64"], apart := false, narrowed := true }
def PolyCutsUptoSaid : Prop := polyCutsUptoRow.holds Try.pinned (OpenSpec.upto polyCutsSpec)

/-- 'portcullislaw10.PolyNought', WHERE WHAT IT READS IS OF BULK AT MOST 1048576: true; the input reads as it did. -/
def polyNoughtUptoRow : OpenClaim := { program := "ytfljonglibpgcaa", sum := "5c62f80290a7da472fa20a0519ed95dd66dfd34e8d4d39a40dbd77527db65a97", func := "portcullis/portcullislaw10.PolyNought", spec := "polyNought", inPlace := ["math/bits.Add64", "math/bits.Sub64"], apart := false, narrowed := true }
def PolyNoughtUptoSaid : Prop := polyNoughtUptoRow.holds Try.pinned (OpenSpec.upto polyNoughtSpec)

end Rows
end Go.Proofs.Ytfljonglibpgcaa
