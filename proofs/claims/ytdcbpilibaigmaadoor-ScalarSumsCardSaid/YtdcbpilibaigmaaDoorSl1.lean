/- Scalar laws: alive. -/
import Derived.Test.YtdcbpilibaigmaaDoorSc3
import Derived.Test.YtdcbpilibaigmaaDoorEq
namespace Go.Proofs.YtdcbpilibaigmaaDoor
open Go.RowKit

theorem sl_five (w : World) (T : TypeId) : Sl (w.alloc (.cells #[.int .u8 5] T)) (.slice (some ⟨w.heap.size, 0, none⟩) 1 1) (u8s [5]) := Sl.new1 w (.int .u8 5) T

set_option maxHeartbeats 1000000 in
set_option maxRecDepth 100000 in
theorem alive4_any (w : World) : Calls Tryd.prog 6 #[] w fun e w' => e = .returned (.bool true) ∧ Below w.heap.size w w' := by
  have he : ∀ w, (Op.equalIn 10000 25 (.agg (byts (val 256 [5] % qN)).toArray) (.agg #[.int .u8 5, .int .u8 0, .int .u8 0, .int .u8 0, .int .u8 0, .int .u8 0, .int .u8 0, .int .u8 0, .int .u8 0, .int .u8 0, .int .u8 0, .int .u8 0, .int .u8 0, .int .u8 0, .int .u8 0, .int .u8 0, .int .u8 0, .int .u8 0, .int .u8 0, .int .u8 0, .int .u8 0, .int .u8 0, .int .u8 0, .int .u8 0, .int .u8 0, .int .u8 0, .int .u8 0, .int .u8 0, .int .u8 0, .int .u8 0, .int .u8 0, .int .u8 0])).run Tryd.prog w = .ok true w := fun w => eq_byts 5 5 (by decide) (by decide) w
  go_enter Tryd.func6, Tryd.ntmps6
  go_wp2_with fail
  refine (scReduce_any _ 1 1 [5] _ (sl_five _ _)).mono ?_
  rintro e w2 ⟨rfl, hb2⟩
  go_wp2_with fail

  go_ret
  exact ⟨rfl, bel1 (Below.refl _ _) (by simpa using hb2)⟩
end Go.Proofs.YtdcbpilibaigmaaDoor
