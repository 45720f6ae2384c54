/- limb: Less, Bit. -/
import Derived.Test.YtdcbpilibaigmaaDoorLm4
namespace Go.Proofs.YtdcbpilibaigmaaDoor
open Go.RowKit

/-- 2^256. -/
theorem two256 : (18446744073709551616 : Nat) ^ 4 = 115792089237316195423570985008687907853269984665640564039457584007913129639936 := by decide

theorem borrow_all {a b : Nat} (ha : a < 18446744073709551616 ^ 4) (hb : b < 18446744073709551616 ^ 4) : borrow 18446744073709551616 4 a b = if a < b then 1 else 0 := by
  unfold borrow
  rw [Nat.mod_eq_of_lt ha, Nat.mod_eq_of_lt hb]

set_option maxHeartbeats 1000000 in
set_option maxRecDepth 100000 in
theorem limLess_any (a b : Nat) (ha : a < 18446744073709551616 ^ 4) (hb : b < 18446744073709551616 ^ 4) (w : World) :
    Calls Tryd.prog 25 #[.agg (lims 4 a).toArray, .agg (lims 4 b).toArray] w fun e w' => e = .returned (.bool (decide (a < b))) ∧ Below w.heap.size w w' := by
  have hbo := Lib.hid (borrow_all ha hb)
  go_enter Tryd.func25, Tryd.ntmps25
  go_upto_region 1 with fail
  refine wp_new2 (fun W hsz h1 h2 hb0 => ?_)
  go_wp2_with (first | (refine wpList_load_arr rfl 37 (.tmp 2) rfl w.heap.size rfl _ Tryd.underlying37 rfl _ h1 (by rw [lims_len]; kernel_rfl) ?_) | (refine wpList_load_arr rfl 37 (.tmp 3) rfl (w.heap.size + 1) rfl _ Tryd.underlying37 rfl _ h2 (by rw [lims_len]; kernel_rfl) ?_))
  refine (limSub_any a b (by omega) W).mono ?_
  rintro e w2 ⟨rfl, hb2⟩
  rw [hbo.out]
  have hb3 : Hid (Below w.heap.size w w2) := hb0.trans (hb2.mono (by omega))
  have hz : Hid (w.heap.size ≤ w2.heap.size) := hb3.out.size
  clear hb0 hb2 h1 h2 hsz
  by_cases hlt : a < b
  · rw [if_pos hlt]
    go_wp2_with (refine wpList_store_arr rfl 37 _ _ rfl w2.heap.size (lims 4 (a + 18446744073709551616 ^ 4 - b)) rfl rfl _ (Arr.new _ _ _) (by rw [lims_len]; kernel_rfl) (by rw [lims_len]; rfl) (lims_one _ _) ?_)
    go_ret
    exact ⟨by simp [hlt], below_setRow (hb3.out.alloc hz.out _) hz.out _⟩
  · rw [if_neg hlt]
    go_wp2_with (refine wpList_store_arr rfl 37 _ _ rfl w2.heap.size (lims 4 (a + 18446744073709551616 ^ 4 - b)) rfl rfl _ (Arr.new _ _ _) (by rw [lims_len]; kernel_rfl) (by rw [lims_len]; rfl) (lims_one _ _) ?_)
    go_ret
    exact ⟨by simp [hlt], below_setRow (hb3.out.alloc hz.out _) hz.out _⟩

end Go.Proofs.YtdcbpilibaigmaaDoor
