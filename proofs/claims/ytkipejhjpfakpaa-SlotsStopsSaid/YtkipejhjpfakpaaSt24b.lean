/- slots: the law SlotsStops, walked: with the premise that the frame hands in. -/
import Derived.Test.YtkipejhjpfakpaaSt24
namespace Go.Proofs.Ytkipejhjpfakpaa
open Go.RowKit

theorem slotsStops_walk2 (a : Option Addr) (cap : Nat) (ids : List Int) (w : World) (h : Sl w (.slice a ids.length cap) (ints ids)) (_ : ∀ n ∈ ids, (Lit.int .i64 n).wf = true) :
    Calls Try.prog 7 #[.slice a ids.length cap] w fun e w' => e = .returned (.bool true) ∧ Below w.heap.size w w' := slotsStops_walk a cap ids w h

end Go.Proofs.Ytkipejhjpfakpaa
