/- Reference of the ladder: Shared; the walk of LadderMuls. -/
import Derived.Test.YtpjkhedodlnloaaRl2
namespace Go.Proofs.Ytpjkhedodlnloaa
open Go.RowKit

theorem rladder_r {k u r : Nat} (hr : Hid (lmulN k u = r)) (hk : k < 256 ^ 32) (hu : u < 256 ^ 32) (w : World) :
    Calls Try.prog 11 #[.agg (byts k).toArray, .agg (byts u).toArray] w fun e w' => e = .returned (.agg (byts r).toArray) ∧ Below w.heap.size w w' := by
  rw [← hr.out]; exact rladder_any k u hk hu w

end Go.Proofs.Ytpjkhedodlnloaa
