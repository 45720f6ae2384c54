/-
  No cell of these rows narrows 'for every input' (looked for: loops, veiled, ifaces, maps, wideKeys, modest, calm, conditions, laid).
  DERIVED. THE GIVEN ROWS OF THIS SEAT. 8 by the template 'for every input the law returns true; each argument reads behind the call as it read before'; 0 by the template 'total and deterministic' (their statements: YtkipejhjpfakpaaTotals.lean).
  GIVEN WITH THE SEED: the statements are not yours to turn. If you find one false, say at which input.
  Laid BY PROGRAM, IN A SANDBOX (cutbox-rows.mjs): the forced cells as the released guide's own fill.sh prints them over the translation c8de5d5d97d71fac… (all of the seat's roots in one cut). By AI agents, Wed Nov 11 2026. No macro, syntax, notation, axiom, sorry.
-/
import Derived.Test.YtkipejhjpfakpaaChecked
import GoSem.Claim
import GoSem.ClaimJoined
import GoSem.ClaimMapViews
import Derived.JoinedTies
import Derived.KernelRfl
namespace Go.Proofs.Ytkipejhjpfakpaa
/- THE CELL 'sum', in the pinned program and in every row, IS THE sha256 OF THE DUMP (.gsa) THAT YtkipejhjpfakpaaProg.lean LOADS. Nothing in Lean hashes anything: it is a label: what it is worth is what the hold of that sum in a sandbox is worth. -/
noncomputable def Try.pinned : Pinned := { name := "ytkipejhjpfakpaa", sum := "c8de5d5d97d71fac20f8a8e20c08b3d4f6df9d23ab1ef1af0dc60a55ed386e87", checked := Try.checked }
namespace Rows
def none {H : Type} : Left H := { results := [], args := [] }

/-- 'portcullislaw22.SlotsLives': WHATEVER THE INPUT: true; the input reads as it did. -/
def slotsLivesSpec : ChangeSpec := { name := "slotsLives", fn := fun _ => fun
  | [d1, d2, d3, d4] => { results := [.lit (.bool true)], args := [d1, d2, d3, d4] }
  | _ => none }
def slotsLivesRow : OpenClaim := { program := "ytkipejhjpfakpaa", sum := "c8de5d5d97d71fac20f8a8e20c08b3d4f6df9d23ab1ef1af0dc60a55ed386e87", func := "portcullis/portcullislaw22.SlotsLives", spec := "slotsLives", unfollowed := true, recurses := true, apart := false }
def SlotsLivesSaid : Prop := slotsLivesRow.holds Try.pinned (OpenSpec.ofChange slotsLivesSpec)

/-- ITS FALSE NEIGHBOUR: 'it returns false'. Refute it at one input. -/
def slotsLivesWrong : ChangeSpec := { name := "slotsLives", fn := fun _ => fun
  | [d1, d2, d3, d4] => { results := [.lit (.bool false)], args := [d1, d2, d3, d4] }
  | _ => none }
def SlotsLivesWrongFalsely : Prop := slotsLivesRow.holds Try.pinned (OpenSpec.ofChange slotsLivesWrong)

/-- 'portcullislaw22.SlotsPacks': WHATEVER THE INPUT: true; the input reads as it did. -/
def slotsPacksSpec : ChangeSpec := { name := "slotsPacks", fn := fun _ => fun
  | [d] => { results := [.lit (.bool true)], args := [d] }
  | _ => none }
def slotsPacksRow : OpenClaim := { program := "ytkipejhjpfakpaa", sum := "c8de5d5d97d71fac20f8a8e20c08b3d4f6df9d23ab1ef1af0dc60a55ed386e87", func := "portcullis/portcullislaw22.SlotsPacks", spec := "slotsPacks", unfollowed := true, recurses := true, apart := false }
def SlotsPacksSaid : Prop := slotsPacksRow.holds Try.pinned (OpenSpec.ofChange slotsPacksSpec)

/-- ITS FALSE NEIGHBOUR: 'it returns false'. Refute it at one input. -/
def slotsPacksWrong : ChangeSpec := { name := "slotsPacks", fn := fun _ => fun
  | [d] => { results := [.lit (.bool false)], args := [d] }
  | _ => none }
def SlotsPacksWrongFalsely : Prop := slotsPacksRow.holds Try.pinned (OpenSpec.ofChange slotsPacksWrong)

/-- 'portcullislaw22.SlotsReads': WHATEVER THE INPUT: true; the input reads as it did. -/
def slotsReadsSpec : ChangeSpec := { name := "slotsReads", fn := fun _ => fun
  | [d] => { results := [.lit (.bool true)], args := [d] }
  | _ => none }
def slotsReadsRow : OpenClaim := { program := "ytkipejhjpfakpaa", sum := "c8de5d5d97d71fac20f8a8e20c08b3d4f6df9d23ab1ef1af0dc60a55ed386e87", func := "portcullis/portcullislaw22.SlotsReads", spec := "slotsReads", unfollowed := true, recurses := true, apart := false }
def SlotsReadsSaid : Prop := slotsReadsRow.holds Try.pinned (OpenSpec.ofChange slotsReadsSpec)

/-- ITS FALSE NEIGHBOUR: 'it returns false'. Refute it at one input. -/
def slotsReadsWrong : ChangeSpec := { name := "slotsReads", fn := fun _ => fun
  | [d] => { results := [.lit (.bool false)], args := [d] }
  | _ => none }
def SlotsReadsWrongFalsely : Prop := slotsReadsRow.holds Try.pinned (OpenSpec.ofChange slotsReadsWrong)

/-- 'portcullislaw22.SlotsCuts': WHATEVER THE INPUT: true; the input reads as it did. -/
def slotsCutsSpec : ChangeSpec := { name := "slotsCuts", fn := fun _ => fun
  | [d1, d2, d3] => { results := [.lit (.bool true)], args := [d1, d2, d3] }
  | _ => none }
def slotsCutsRow : OpenClaim := { program := "ytkipejhjpfakpaa", sum := "c8de5d5d97d71fac20f8a8e20c08b3d4f6df9d23ab1ef1af0dc60a55ed386e87", func := "portcullis/portcullislaw22.SlotsCuts", spec := "slotsCuts", unfollowed := true, recurses := true, apart := false }
def SlotsCutsSaid : Prop := slotsCutsRow.holds Try.pinned (OpenSpec.ofChange slotsCutsSpec)

/-- ITS FALSE NEIGHBOUR: 'it returns false'. Refute it at one input. -/
def slotsCutsWrong : ChangeSpec := { name := "slotsCuts", fn := fun _ => fun
  | [d1, d2, d3] => { results := [.lit (.bool false)], args := [d1, d2, d3] }
  | _ => none }
def SlotsCutsWrongFalsely : Prop := slotsCutsRow.holds Try.pinned (OpenSpec.ofChange slotsCutsWrong)

/-- 'portcullislaw22.SlotsStops': WHATEVER THE INPUT: true; the input reads as it did. -/
def slotsStopsSpec : ChangeSpec := { name := "slotsStops", fn := fun _ => fun
  | [d] => { results := [.lit (.bool true)], args := [d] }
  | _ => none }
def slotsStopsRow : OpenClaim := { program := "ytkipejhjpfakpaa", sum := "c8de5d5d97d71fac20f8a8e20c08b3d4f6df9d23ab1ef1af0dc60a55ed386e87", func := "portcullis/portcullislaw22.SlotsStops", spec := "slotsStops", inPlace := ["slices.overlaps[int]"], unfollowed := true, recurses := true, apart := false }
def SlotsStopsSaid : Prop := slotsStopsRow.holds Try.pinned (OpenSpec.ofChange slotsStopsSpec)

/-- ITS FALSE NEIGHBOUR: 'it returns false'. Refute it at one input. -/
def slotsStopsWrong : ChangeSpec := { name := "slotsStops", fn := fun _ => fun
  | [d] => { results := [.lit (.bool false)], args := [d] }
  | _ => none }
def SlotsStopsWrongFalsely : Prop := slotsStopsRow.holds Try.pinned (OpenSpec.ofChange slotsStopsWrong)

/-- 'portcullislaw22.SlotsFloors': WHATEVER THE INPUT: true; the input reads as it did. -/
def slotsFloorsSpec : ChangeSpec := { name := "slotsFloors", fn := fun _ => fun
  | [d1, d2, d3, d4] => { results := [.lit (.bool true)], args := [d1, d2, d3, d4] }
  | _ => none }
def slotsFloorsRow : OpenClaim := { program := "ytkipejhjpfakpaa", sum := "c8de5d5d97d71fac20f8a8e20c08b3d4f6df9d23ab1ef1af0dc60a55ed386e87", func := "portcullis/portcullislaw22.SlotsFloors", spec := "slotsFloors", inPlace := ["slices.overlaps[int]"], unfollowed := true, recurses := true, apart := false }
def SlotsFloorsSaid : Prop := slotsFloorsRow.holds Try.pinned (OpenSpec.ofChange slotsFloorsSpec)

/-- ITS FALSE NEIGHBOUR: 'it returns false'. Refute it at one input. -/
def slotsFloorsWrong : ChangeSpec := { name := "slotsFloors", fn := fun _ => fun
  | [d1, d2, d3, d4] => { results := [.lit (.bool false)], args := [d1, d2, d3, d4] }
  | _ => none }
def SlotsFloorsWrongFalsely : Prop := slotsFloorsRow.holds Try.pinned (OpenSpec.ofChange slotsFloorsWrong)

/-- 'portcullislaw22.SlotsTurns': WHATEVER THE INPUT: true; the input reads as it did. -/
def slotsTurnsSpec : ChangeSpec := { name := "slotsTurns", fn := fun _ => fun
  | [d1, d2, d3, d4, d5] => { results := [.lit (.bool true)], args := [d1, d2, d3, d4, d5] }
  | _ => none }
def slotsTurnsRow : OpenClaim := { program := "ytkipejhjpfakpaa", sum := "c8de5d5d97d71fac20f8a8e20c08b3d4f6df9d23ab1ef1af0dc60a55ed386e87", func := "portcullis/portcullislaw22.SlotsTurns", spec := "slotsTurns", inPlace := ["slices.overlaps[int]"], unfollowed := true, recurses := true, apart := false }
def SlotsTurnsSaid : Prop := slotsTurnsRow.holds Try.pinned (OpenSpec.ofChange slotsTurnsSpec)

/-- ITS FALSE NEIGHBOUR: 'it returns false'. Refute it at one input. -/
def slotsTurnsWrong : ChangeSpec := { name := "slotsTurns", fn := fun _ => fun
  | [d1, d2, d3, d4, d5] => { results := [.lit (.bool false)], args := [d1, d2, d3, d4, d5] }
  | _ => none }
def SlotsTurnsWrongFalsely : Prop := slotsTurnsRow.holds Try.pinned (OpenSpec.ofChange slotsTurnsWrong)

/-- 'portcullislaw22.SlotsWrong': WHATEVER THE INPUT: true; the input reads as it did. -/
def slotsWrongSpec : ChangeSpec := { name := "slotsWrong", fn := fun _ => fun
  | [d1, d2] => { results := [.lit (.bool true)], args := [d1, d2] }
  | _ => none }
def slotsWrongRow : OpenClaim := { program := "ytkipejhjpfakpaa", sum := "c8de5d5d97d71fac20f8a8e20c08b3d4f6df9d23ab1ef1af0dc60a55ed386e87", func := "portcullis/portcullislaw22.SlotsWrong", spec := "slotsWrong", inPlace := ["slices.overlaps[int]"], unfollowed := true, recurses := true, apart := false }
def SlotsWrongSaid : Prop := slotsWrongRow.holds Try.pinned (OpenSpec.ofChange slotsWrongSpec)

/-- ITS FALSE NEIGHBOUR: 'it returns false'. Refute it at one input. -/
def slotsWrongWrong : ChangeSpec := { name := "slotsWrong", fn := fun _ => fun
  | [d1, d2] => { results := [.lit (.bool false)], args := [d1, d2] }
  | _ => none }
def SlotsWrongWrongFalsely : Prop := slotsWrongRow.holds Try.pinned (OpenSpec.ofChange slotsWrongWrong)

/- THE SECOND FORM. 'bulk': how many values and letters a reading holds, each counted each time it is reached (what is shared counts as often as it is met; a slice's spare places count too). A statement '..UptoSaid' is the law's where the arguments, and the package variables that the reading takes, are together of bulk at most 1048576: NARROWER than '..Said'. Prove '..Said' where nothing that the law and all that it calls make is longer than what came in: it says more and counts as full. Else prove '..UptoSaid'. A law counts once. -/
mutual
def uptoBulk {H : Type} : DataW H → Nat
  | .lit (.string bytes) => bytes.length + 1
  | .lit _ => 1
  | .nil => 1
  | .ptr d => uptoBulk d + 1
  | .slice elems spare => uptoBulkAll elems + uptoBulkAll spare + 1
  | .agg parts => uptoBulkAll parts + 1
  | .iface _ d => uptoBulk d + 1
  | .map entries => uptoBulkEntries entries + 1
  | .held _ => 1
def uptoBulkAll {H : Type} : List (DataW H) → Nat
  | [] => 0
  | d :: r => uptoBulk d + uptoBulkAll r
def uptoBulkEntries {H : Type} : List (Lit × DataW H) → Nat
  | [] => 0
  | x :: r => uptoBulkEntry x + uptoBulkEntries r
def uptoBulkEntry {H : Type} : Lit × DataW H → Nat
  | (.string bytes, d) => bytes.length + uptoBulk d + 1
  | (_, d) => uptoBulk d + 1
 end
def uptoSmall : (H : Type) → List (DataW H) → Bool := fun _ ds => decide (uptoBulkAll ds ≤ 1048576)
def OpenSpec.upto (s : _root_.Go.ChangeSpec) : _root_.Go.OpenSpec := { _root_.Go.OpenSpec.ofChange s with cond := some uptoSmall }

/-- 'portcullislaw22.SlotsLives', WHERE WHAT IT READS IS OF BULK AT MOST 1048576: true; the input reads as it did. -/
def slotsLivesUptoRow : OpenClaim := { program := "ytkipejhjpfakpaa", sum := "c8de5d5d97d71fac20f8a8e20c08b3d4f6df9d23ab1ef1af0dc60a55ed386e87", func := "portcullis/portcullislaw22.SlotsLives", spec := "slotsLives", unfollowed := true, recurses := true, apart := false, narrowed := true }
def SlotsLivesUptoSaid : Prop := slotsLivesUptoRow.holds Try.pinned (OpenSpec.upto slotsLivesSpec)

/-- 'portcullislaw22.SlotsPacks', WHERE WHAT IT READS IS OF BULK AT MOST 1048576: true; the input reads as it did. -/
def slotsPacksUptoRow : OpenClaim := { program := "ytkipejhjpfakpaa", sum := "c8de5d5d97d71fac20f8a8e20c08b3d4f6df9d23ab1ef1af0dc60a55ed386e87", func := "portcullis/portcullislaw22.SlotsPacks", spec := "slotsPacks", unfollowed := true, recurses := true, apart := false, narrowed := true }
def SlotsPacksUptoSaid : Prop := slotsPacksUptoRow.holds Try.pinned (OpenSpec.upto slotsPacksSpec)

/-- 'portcullislaw22.SlotsReads', WHERE WHAT IT READS IS OF BULK AT MOST 1048576: true; the input reads as it did. -/
def slotsReadsUptoRow : OpenClaim := { program := "ytkipejhjpfakpaa", sum := "c8de5d5d97d71fac20f8a8e20c08b3d4f6df9d23ab1ef1af0dc60a55ed386e87", func := "portcullis/portcullislaw22.SlotsReads", spec := "slotsReads", unfollowed := true, recurses := true, apart := false, narrowed := true }
def SlotsReadsUptoSaid : Prop := slotsReadsUptoRow.holds Try.pinned (OpenSpec.upto slotsReadsSpec)

/-- 'portcullislaw22.SlotsCuts', WHERE WHAT IT READS IS OF BULK AT MOST 1048576: true; the input reads as it did. -/
def slotsCutsUptoRow : OpenClaim := { program := "ytkipejhjpfakpaa", sum := "c8de5d5d97d71fac20f8a8e20c08b3d4f6df9d23ab1ef1af0dc60a55ed386e87", func := "portcullis/portcullislaw22.SlotsCuts", spec := "slotsCuts", unfollowed := true, recurses := true, apart := false, narrowed := true }
def SlotsCutsUptoSaid : Prop := slotsCutsUptoRow.holds Try.pinned (OpenSpec.upto slotsCutsSpec)

/-- 'portcullislaw22.SlotsStops', WHERE WHAT IT READS IS OF BULK AT MOST 1048576: true; the input reads as it did. -/
def slotsStopsUptoRow : OpenClaim := { program := "ytkipejhjpfakpaa", sum := "c8de5d5d97d71fac20f8a8e20c08b3d4f6df9d23ab1ef1af0dc60a55ed386e87", func := "portcullis/portcullislaw22.SlotsStops", spec := "slotsStops", inPlace := ["slices.overlaps[int]"], unfollowed := true, recurses := true, apart := false, narrowed := true }
def SlotsStopsUptoSaid : Prop := slotsStopsUptoRow.holds Try.pinned (OpenSpec.upto slotsStopsSpec)

/-- 'portcullislaw22.SlotsFloors', WHERE WHAT IT READS IS OF BULK AT MOST 1048576: true; the input reads as it did. -/
def slotsFloorsUptoRow : OpenClaim := { program := "ytkipejhjpfakpaa", sum := "c8de5d5d97d71fac20f8a8e20c08b3d4f6df9d23ab1ef1af0dc60a55ed386e87", func := "portcullis/portcullislaw22.SlotsFloors", spec := "slotsFloors", inPlace := ["slices.overlaps[int]"], unfollowed := true, recurses := true, apart := false, narrowed := true }
def SlotsFloorsUptoSaid : Prop := slotsFloorsUptoRow.holds Try.pinned (OpenSpec.upto slotsFloorsSpec)

/-- 'portcullislaw22.SlotsTurns', WHERE WHAT IT READS IS OF BULK AT MOST 1048576: true; the input reads as it did. -/
def slotsTurnsUptoRow : OpenClaim := { program := "ytkipejhjpfakpaa", sum := "c8de5d5d97d71fac20f8a8e20c08b3d4f6df9d23ab1ef1af0dc60a55ed386e87", func := "portcullis/portcullislaw22.SlotsTurns", spec := "slotsTurns", inPlace := ["slices.overlaps[int]"], unfollowed := true, recurses := true, apart := false, narrowed := true }
def SlotsTurnsUptoSaid : Prop := slotsTurnsUptoRow.holds Try.pinned (OpenSpec.upto slotsTurnsSpec)

/-- 'portcullislaw22.SlotsWrong', WHERE WHAT IT READS IS OF BULK AT MOST 1048576: true; the input reads as it did. -/
def slotsWrongUptoRow : OpenClaim := { program := "ytkipejhjpfakpaa", sum := "c8de5d5d97d71fac20f8a8e20c08b3d4f6df9d23ab1ef1af0dc60a55ed386e87", func := "portcullis/portcullislaw22.SlotsWrong", spec := "slotsWrong", inPlace := ["slices.overlaps[int]"], unfollowed := true, recurses := true, apart := false, narrowed := true }
def SlotsWrongUptoSaid : Prop := slotsWrongUptoRow.holds Try.pinned (OpenSpec.upto slotsWrongSpec)

end Rows
end Go.Proofs.Ytkipejhjpfakpaa
