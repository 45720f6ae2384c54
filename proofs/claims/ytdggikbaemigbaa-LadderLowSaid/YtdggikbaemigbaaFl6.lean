/- Field laws: the walk of FieldEdges. -/
import Derived.Test.YtdggikbaemigbaaFl5
namespace Go.Proofs.Ytdggikbaemigbaa
open Go.RowKit

theorem set_e1 : (byts (256 ^ 32 - 1)).set 31 (.int .u8 127) = byts (pN + 18) := byts_set (v := 127) (by decide) (by decide) (by decide) (by decide)
theorem set_e2 : (byts (256 ^ 32 - 1)).set 0 (.int .u8 237) = byts (256 ^ 32 - 19) := byts_set (v := 237) (by decide) (by decide) (by decide) (by decide)
theorem set_e3 : (byts (256 ^ 32 - 19)).set 31 (.int .u8 127) = byts pN := byts_set (v := 127) (by decide) (by decide) (by decide) (by decide)
theorem set_e4 (n : Nat) (hn : n < 18) : (byts pN).set 0 (.int .u8 ((237 + n : Nat) : Int)) = byts (pN + n) := byts_set (v := 237 + n) (by decide) (by decide) (by omega) (by
  have : pN / 256 ^ 0 % 256 = 237 := by decide
  rw [this]; omega)
theorem edge_add (n : Nat) (hn : n < 256) : ((pN - n % pN) % pN + n) % pN = 0 := by
  have hp : 256 < pN := by decide
  rw [Nat.mod_add_mod, Nat.mod_eq_of_lt (a := n) (by omega), Nat.sub_add_cancel (by omega), Nat.mod_self]
theorem edge_can (n : Nat) (hn : n < 18) : (pN + n) % pN = n := by rw [Nat.add_mod_left]; exact Nat.mod_eq_of_lt (Nat.lt_trans hn (by decide))
theorem p_get0 : pN / 256 ^ 0 % 256 = 237 := by decide

set_option maxHeartbeats 4000000 in
set_option maxRecDepth 100000 in
theorem fedges_any (z : Int) (above : Bool) (w : World) (hz : (Lit.int .u8 z).wf = true) :
    Calls Try.prog 4 #[.int .u8 z, .bool above] w fun e w' => e = .returned (.bool true) ∧ Below w.heap.size w w' := by
  have hz' := wf_u8 hz
  obtain ⟨n, rfl⟩ : ∃ n : Nat, z = (n : Int) := ⟨z.toNat, by omega⟩
  have hn : n < 256 := by omega
  clear hz hz'
  have ln : n < 256 ^ 32 := Nat.lt_trans hn (by decide)
  obtain ⟨m, hm⟩ : ∃ r, (pN - n % pN) % pN = r := ⟨_, rfl⟩
  have hma : (m + n) % pN = 0 := by rw [← hm]; exact edge_add n hn
  have lm : m < 256 ^ 32 := hm ▸ p_lt32 _
  have lf : 256 ^ 32 - 1 < 256 ^ 32 := by decide
  have lp : pN < 256 ^ 32 := by decide
  have lp18 : pN + 18 < 256 ^ 32 := by decide
  have cs := Lib.hid (fun z hz w => fsmall_any z hz w)
  have c0 := Lib.hid (fun w => fsub0_r (Lib.hid hm) ln w)
  have c1 := Lib.hid (fun w => fcanon_r (a := 256 ^ 32 - 1) (r := 37) (Lib.hid (by decide)) lf w)
  have c2 := Lib.hid (fun w => fcanon_r (a := pN + 18) (r := 18) (Lib.hid (by decide)) lp18 w)
  have c3 := Lib.hid (fun w => fcanon_r (a := pN) (r := 0) (Lib.hid (by decide)) lp w)
  have c4 := Lib.hid (fun w => fadd_r (Lib.hid hma) lm ln w)
  have q1 := eq_num (m := 37) (n := 37) (b := true) (by decide) (by decide) (by decide)
  have q2 := eq_num (m := 18) (n := 18) (b := true) (by decide) (by decide) (by decide)
  have q3 := Lib.hid (eq_num0 (m := 0) (b := true) (by decide) (by decide))
  have q4 := Lib.hid (eq_num (m := n) (n := n) (b := true) (decide_eq_true rfl) ln ln)
  have kb := Below.refl w.heap.size w
  replace lf := Lib.hid lf
  replace lp := Lib.hid lp
  replace lp18 := Lib.hid lp18
  clear hm hma
  go_enter Try.func4, Try.ntmps4
  go_upto_region 1 with (first | (refine wpList_load_arr2 rfl _ _ rfl _ rfl (by kernel_rfl) _ (by assumption) (by first | (rw [lims_len]; kernel_rfl) | (rw [byts_len]; kernel_rfl) | (rw [us_len]; kernel_rfl) | kernel_rfl) ?_) | (refine wpList_store_arr rfl _ _ _ rfl _ _ rfl rfl _ (by first | assumption | exact Arr.new _ _ _) (by first | (rw [lims_len]; kernel_rfl) | (rw [byts_len]; kernel_rfl) | (rw [us_len]; kernel_rfl) | kernel_rfl) (by first | (rw [lims_len, lims_len]) | (rw [byts_len, byts_len]) | (rw [lims_len]; rfl) | (rw [byts_len]; rfl) | (rw [us_len, us_len]; rfl) | rfl) (by first | exact lims_one _ _ | exact byts_one _ | exact us_one _ | (intro v hv; simp at hv; rcases hv with rfl | rfl | rfl | rfl <;> rfl)) ?_))
  go_wp2_with (first | (refine wpList_load_arr2 rfl _ _ rfl _ rfl (by kernel_rfl) _ (by assumption) (by first | (rw [lims_len]; kernel_rfl) | (rw [byts_len]; kernel_rfl) | (rw [us_len]; kernel_rfl) | kernel_rfl) ?_) | (refine wpList_store_arr rfl _ _ _ rfl _ _ rfl rfl _ (by first | assumption | exact Arr.new _ _ _) (by first | (rw [lims_len]; kernel_rfl) | (rw [byts_len]; kernel_rfl) | (rw [us_len]; kernel_rfl) | kernel_rfl) (by first | (rw [lims_len, lims_len]) | (rw [byts_len, byts_len]) | (rw [lims_len]; rfl) | (rw [byts_len]; rfl) | (rw [us_len, us_len]; rfl) | rfl) (by first | exact lims_one _ _ | exact byts_one _ | exact us_one _ | (intro v hv; simp at hv; rcases hv with rfl | rfl | rfl | rfl <;> rfl)) ?_))
  refine (alive3_any _).mono ?_
  rintro e w_1 ⟨rfl, hb_1⟩
  have kb := bel kb hb_1
  clear hb_1
  go_upto_region 2 with (first | (refine wpList_load_arr2 rfl _ _ rfl _ rfl (by kernel_rfl) _ (by assumption) (by first | (rw [lims_len]; kernel_rfl) | (rw [byts_len]; kernel_rfl) | (rw [us_len]; kernel_rfl) | kernel_rfl) ?_) | (refine wpList_store_arr rfl _ _ _ rfl _ _ rfl rfl _ (by first | assumption | exact Arr.new _ _ _) (by first | (rw [lims_len]; kernel_rfl) | (rw [byts_len]; kernel_rfl) | (rw [us_len]; kernel_rfl) | kernel_rfl) (by first | (rw [lims_len, lims_len]) | (rw [byts_len, byts_len]) | (rw [lims_len]; rfl) | (rw [byts_len]; rfl) | (rw [us_len, us_len]; rfl) | rfl) (by first | exact lims_one _ _ | exact byts_one _ | exact us_one _ | (intro v hv; simp at hv; rcases hv with rfl | rfl | rfl | rfl <;> rfl)) ?_))
  go_wp2_with (first | (refine wpList_load_arr2 rfl _ _ rfl _ rfl (by kernel_rfl) _ (by assumption) (by first | (rw [lims_len]; kernel_rfl) | (rw [byts_len]; kernel_rfl) | (rw [us_len]; kernel_rfl) | kernel_rfl) ?_) | (refine wpList_store_arr rfl _ _ _ rfl _ _ rfl rfl _ (by first | assumption | exact Arr.new _ _ _) (by first | (rw [lims_len]; kernel_rfl) | (rw [byts_len]; kernel_rfl) | (rw [us_len]; kernel_rfl) | kernel_rfl) (by first | (rw [lims_len, lims_len]) | (rw [byts_len, byts_len]) | (rw [lims_len]; rfl) | (rw [byts_len]; rfl) | (rw [us_len, us_len]; rfl) | rfl) (by first | exact lims_one _ _ | exact byts_one _ | exact us_one _ | (intro v hv; simp at hv; rcases hv with rfl | rfl | rfl | rfl <;> rfl)) ?_))
  refine (cs.out n hn _).mono ?_
  rintro e w_2 ⟨rfl, hb_2⟩
  have kb := bel kb hb_2
  clear hb_2
  go_wp2_with (first | (refine wpList_load_arr2 rfl _ _ rfl _ rfl (by kernel_rfl) _ (by assumption) (by first | (rw [lims_len]; kernel_rfl) | (rw [byts_len]; kernel_rfl) | (rw [us_len]; kernel_rfl) | kernel_rfl) ?_) | (refine wpList_store_arr rfl _ _ _ rfl _ _ rfl rfl _ (by first | assumption | exact Arr.new _ _ _) (by first | (rw [lims_len]; kernel_rfl) | (rw [byts_len]; kernel_rfl) | (rw [us_len]; kernel_rfl) | kernel_rfl) (by first | (rw [lims_len, lims_len]) | (rw [byts_len, byts_len]) | (rw [lims_len]; rfl) | (rw [byts_len]; rfl) | (rw [us_len, us_len]; rfl) | rfl) (by first | exact lims_one _ _ | exact byts_one _ | exact us_one _ | (intro v hv; simp at hv; rcases hv with rfl | rfl | rfl | rfl <;> rfl)) ?_))
  refine (c0.out _).mono ?_
  rintro e w_3 ⟨rfl, hb_3⟩
  have kb := bel kb hb_3
  clear hb_3
  go_upto_region 3 with (first | (refine wpList_load_arr2 rfl _ _ rfl _ rfl (by kernel_rfl) _ (by assumption) (by first | (rw [lims_len]; kernel_rfl) | (rw [byts_len]; kernel_rfl) | (rw [us_len]; kernel_rfl) | kernel_rfl) ?_) | (refine wpList_store_arr rfl _ _ _ rfl _ _ rfl rfl _ (by first | assumption | exact Arr.new _ _ _) (by first | (rw [lims_len]; kernel_rfl) | (rw [byts_len]; kernel_rfl) | (rw [us_len]; kernel_rfl) | kernel_rfl) (by first | (rw [lims_len, lims_len]) | (rw [byts_len, byts_len]) | (rw [lims_len]; rfl) | (rw [byts_len]; rfl) | (rw [us_len, us_len]; rfl) | rfl) (by first | exact lims_one _ _ | exact byts_one _ | exact us_one _ | (intro v hv; simp at hv; rcases hv with rfl | rfl | rfl | rfl <;> rfl)) ?_))
  have lw := kb.size
  refine code_new (fun wn k6 hnew => ?_)
  have kb := bel kb hnew
  clear hnew
  generalize (w_3).heap.size = g_k6 at k6 lw ⊢
  go_upto_region 4 with (first | (refine wpList_load_arr2 rfl _ _ rfl _ rfl (by kernel_rfl) _ (by assumption) (by first | (rw [lims_len]; kernel_rfl) | (rw [byts_len]; kernel_rfl) | (rw [us_len]; kernel_rfl) | kernel_rfl) ?_) | (refine wpList_store_arr rfl _ _ _ rfl _ _ rfl rfl _ (by first | assumption | exact Arr.new _ _ _) (by first | (rw [lims_len]; kernel_rfl) | (rw [byts_len]; kernel_rfl) | (rw [us_len]; kernel_rfl) | kernel_rfl) (by first | (rw [lims_len, lims_len]) | (rw [byts_len, byts_len]) | (rw [lims_len]; rfl) | (rw [byts_len]; rfl) | (rw [us_len, us_len]; rfl) | rfl) (by first | exact lims_one _ _ | exact byts_one _ | exact us_one _ | (intro v hv; simp at hv; rcases hv with rfl | rfl | rfl | rfl <;> rfl)) ?_))
  have lt6 := k6.lt
  refine wp_new1 (fun w9 hsz9 k7 hb9 => ?_)
  have k6 := k6.below hb9
  have kb := bel kb hb9
  generalize (wn).heap.size = g at k7 lt6 ⊢
  have k7 : Arr w9 g (byts 0) := k7
  clear hsz9 hb9
  go_wp2_with fail
  go_loopw [8] (fun kv wr => ∃ k : Nat, k ≤ 32 ∧ kv = .int .i64 k ∧ Arr wr g_k6 (byts m) ∧ Arr wr g (byts (256 ^ k - 1)) ∧ Below w.heap.size w wr) (fun kv _ => 32 - (intOf kv).toNat)
  case atStart => exact ⟨0, Nat.zero_le _, rfl, k6, k7, kb⟩
  case round =>
    clear k6 k7 kb
    obtain ⟨k, hk, rfl, k6, k7, kb⟩ := hrel
    by_cases hlt : k < 32
    · have hcell := k7.cell (byts_get _ k hlt)
      have hfr := k7.frozen k
      go_wp2_with fail
      refine ⟨⟨k + 1, by omega, by go_num, k6.other (by simp; omega) _, ?_, kb.setCell (by simp; omega) _⟩, by simp [intOf]; omega⟩
      rw [← byts_fill k hlt]
      exact k7.set k _
    obtain rfl : k = 32 := by omega
    go_upto_region 8 with (first | (refine wpList_load_arr2 rfl _ _ rfl _ rfl (by kernel_rfl) _ (by assumption) (by first | (rw [lims_len]; kernel_rfl) | (rw [byts_len]; kernel_rfl) | (rw [us_len]; kernel_rfl) | kernel_rfl) ?_) | (refine wpList_store_arr rfl _ _ _ rfl _ _ rfl rfl _ (by first | assumption | exact Arr.new _ _ _) (by first | (rw [lims_len]; kernel_rfl) | (rw [byts_len]; kernel_rfl) | (rw [us_len]; kernel_rfl) | kernel_rfl) (by first | (rw [lims_len, lims_len]) | (rw [byts_len, byts_len]) | (rw [lims_len]; rfl) | (rw [byts_len]; rfl) | (rw [us_len, us_len]; rfl) | rfl) (by first | exact lims_one _ _ | exact byts_one _ | exact us_one _ | (intro v hv; simp at hv; rcases hv with rfl | rfl | rfl | rfl <;> rfl)) ?_))
    go_wp2_with (first | (refine wpList_load_arr2 rfl _ _ rfl _ rfl (by kernel_rfl) _ (by assumption) (by first | (rw [lims_len]; kernel_rfl) | (rw [byts_len]; kernel_rfl) | (rw [us_len]; kernel_rfl) | kernel_rfl) ?_) | (refine wpList_store_arr rfl _ _ _ rfl _ _ rfl rfl _ (by first | assumption | exact Arr.new _ _ _) (by first | (rw [lims_len]; kernel_rfl) | (rw [byts_len]; kernel_rfl) | (rw [us_len]; kernel_rfl) | kernel_rfl) (by first | (rw [lims_len, lims_len]) | (rw [byts_len, byts_len]) | (rw [lims_len]; rfl) | (rw [byts_len]; rfl) | (rw [us_len, us_len]; rfl) | rfl) (by first | exact lims_one _ _ | exact byts_one _ | exact us_one _ | (intro v hv; simp at hv; rcases hv with rfl | rfl | rfl | rfl <;> rfl)) ?_))
    refine (c1.out _).mono ?_
    rintro e w_4 ⟨rfl, hb_4⟩
    have k6 := k6.below hb_4
    have k7 := k7.below hb_4
    have kb := bel kb hb_4
    clear hb_4
    go_wp2_with (first | (refine wpList_load_arr2 rfl _ _ rfl _ rfl (by kernel_rfl) _ (by assumption) (by first | (rw [lims_len]; kernel_rfl) | (rw [byts_len]; kernel_rfl) | (rw [us_len]; kernel_rfl) | kernel_rfl) ?_) | (refine wpList_store_arr rfl _ _ _ rfl _ _ rfl rfl _ (by first | assumption | exact Arr.new _ _ _) (by first | (rw [lims_len]; kernel_rfl) | (rw [byts_len]; kernel_rfl) | (rw [us_len]; kernel_rfl) | kernel_rfl) (by first | (rw [lims_len, lims_len]) | (rw [byts_len, byts_len]) | (rw [lims_len]; rfl) | (rw [byts_len]; rfl) | (rw [us_len, us_len]; rfl) | rfl) (by first | exact lims_one _ _ | exact byts_one _ | exact us_one _ | (intro v hv; simp at hv; rcases hv with rfl | rfl | rfl | rfl <;> rfl)) ?_))
    refine (cs.out 37 (by decide) _).mono ?_
    rintro e w_5 ⟨rfl, hb_5⟩
    have k6 := k6.below hb_5
    have k7 := k7.below hb_5
    have kb := bel kb hb_5
    clear hb_5
    have hcell := k7.cell (byts_get _ 31 (by decide))
    have hfr := k7.frozen 31
    go_upto_region 11 with fail
    refine code_cell k7 (fun w6 k7 hoth hbel => ?_)
    rw [set_e1] at k7
    have k6 := hoth _ _ (by omega) k6
    have kb := hbel _ _ (by omega) kb
    clear hoth hbel hcell hfr
    go_upto_region 11 with (first | (refine wpList_load_arr2 rfl _ _ rfl _ rfl (by kernel_rfl) _ (by assumption) (by first | (rw [lims_len]; kernel_rfl) | (rw [byts_len]; kernel_rfl) | (rw [us_len]; kernel_rfl) | kernel_rfl) ?_) | (refine wpList_store_arr rfl _ _ _ rfl _ _ rfl rfl _ (by first | assumption | exact Arr.new _ _ _) (by first | (rw [lims_len]; kernel_rfl) | (rw [byts_len]; kernel_rfl) | (rw [us_len]; kernel_rfl) | kernel_rfl) (by first | (rw [lims_len, lims_len]) | (rw [byts_len, byts_len]) | (rw [lims_len]; rfl) | (rw [byts_len]; rfl) | (rw [us_len, us_len]; rfl) | rfl) (by first | exact lims_one _ _ | exact byts_one _ | exact us_one _ | (intro v hv; simp at hv; rcases hv with rfl | rfl | rfl | rfl <;> rfl)) ?_))
    go_wp2_with (first | (refine wpList_load_arr2 rfl _ _ rfl _ rfl (by kernel_rfl) _ (by assumption) (by first | (rw [lims_len]; kernel_rfl) | (rw [byts_len]; kernel_rfl) | (rw [us_len]; kernel_rfl) | kernel_rfl) ?_) | (refine wpList_store_arr rfl _ _ _ rfl _ _ rfl rfl _ (by first | assumption | exact Arr.new _ _ _) (by first | (rw [lims_len]; kernel_rfl) | (rw [byts_len]; kernel_rfl) | (rw [us_len]; kernel_rfl) | kernel_rfl) (by first | (rw [lims_len, lims_len]) | (rw [byts_len, byts_len]) | (rw [lims_len]; rfl) | (rw [byts_len]; rfl) | (rw [us_len, us_len]; rfl) | rfl) (by first | exact lims_one _ _ | exact byts_one _ | exact us_one _ | (intro v hv; simp at hv; rcases hv with rfl | rfl | rfl | rfl <;> rfl)) ?_))
    refine (c2.out _).mono ?_
    rintro e w_6 ⟨rfl, hb_6⟩
    have k6 := k6.below hb_6
    have kb := bel kb hb_6
    clear hb_6
    go_wp2_with (first | (refine wpList_load_arr2 rfl _ _ rfl _ rfl (by kernel_rfl) _ (by assumption) (by first | (rw [lims_len]; kernel_rfl) | (rw [byts_len]; kernel_rfl) | (rw [us_len]; kernel_rfl) | kernel_rfl) ?_) | (refine wpList_store_arr rfl _ _ _ rfl _ _ rfl rfl _ (by first | assumption | exact Arr.new _ _ _) (by first | (rw [lims_len]; kernel_rfl) | (rw [byts_len]; kernel_rfl) | (rw [us_len]; kernel_rfl) | kernel_rfl) (by first | (rw [lims_len, lims_len]) | (rw [byts_len, byts_len]) | (rw [lims_len]; rfl) | (rw [byts_len]; rfl) | (rw [us_len, us_len]; rfl) | rfl) (by first | exact lims_one _ _ | exact byts_one _ | exact us_one _ | (intro v hv; simp at hv; rcases hv with rfl | rfl | rfl | rfl <;> rfl)) ?_))
    refine (cs.out 18 (by decide) _).mono ?_
    rintro e w_7 ⟨rfl, hb_7⟩
    have k6 := k6.below hb_7
    have kb := bel kb hb_7
    clear hb_7
    go_upto_region 13 with (first | (refine wpList_load_arr2 rfl _ _ rfl _ rfl (by kernel_rfl) _ (by assumption) (by first | (rw [lims_len]; kernel_rfl) | (rw [byts_len]; kernel_rfl) | (rw [us_len]; kernel_rfl) | kernel_rfl) ?_) | (refine wpList_store_arr rfl _ _ _ rfl _ _ rfl rfl _ (by first | assumption | exact Arr.new _ _ _) (by first | (rw [lims_len]; kernel_rfl) | (rw [byts_len]; kernel_rfl) | (rw [us_len]; kernel_rfl) | kernel_rfl) (by first | (rw [lims_len, lims_len]) | (rw [byts_len, byts_len]) | (rw [lims_len]; rfl) | (rw [byts_len]; rfl) | (rw [us_len, us_len]; rfl) | rfl) (by first | exact lims_one _ _ | exact byts_one _ | exact us_one _ | (intro v hv; simp at hv; rcases hv with rfl | rfl | rfl | rfl <;> rfl)) ?_))
    have lt6 := k6.lt
    refine wp_new1 (fun w9 hsz9 k10 hb9 => ?_)
    have k6 := k6.below hb9
    have kb := bel kb hb9
    have lw : w.heap.size ≤ (w_7).heap.size := by omega
    generalize (w_7).heap.size = h at k10 lt6 lw ⊢
    have k10 : Arr w9 h (byts 0) := k10
    clear hsz9 hb9 k7
    go_wp2_with fail
    go_loopw [11] (fun kv wr => ∃ k : Nat, k ≤ 32 ∧ kv = .int .i64 k ∧ Arr wr g_k6 (byts m) ∧ Arr wr h (byts (256 ^ k - 1)) ∧ Below w.heap.size w wr) (fun kv _ => 32 - (intOf kv).toNat)
    case atStart => exact ⟨0, Nat.zero_le _, rfl, k6, k10, kb⟩
    case round =>
      clear k6 k10 kb
      obtain ⟨k, hk, rfl, k6, k10, kb⟩ := hrel
      by_cases hlt : k < 32
      · have hcell := k10.cell (byts_get _ k hlt)
        have hfr := k10.frozen k
        go_wp2_with fail
        refine ⟨⟨k + 1, by omega, by go_num, k6.other (by simp; omega) _, ?_, kb.setCell (by simp; omega) _⟩, by simp [intOf]; omega⟩
        rw [← byts_fill k hlt]
        exact k10.set k _
      obtain rfl : k = 32 := by omega
      have hcell := k10.cell (byts_get _ 0 (by decide))
      have hfr := k10.frozen 0
      go_upto_region 18 with fail
      refine code_cell k10 (fun w6 k10 hoth hbel => ?_)
      rw [set_e2] at k10
      have k6 := hoth _ _ (by omega) k6
      have kb := hbel _ _ (by omega) kb
      clear hoth hbel hcell hfr
      have hcell := k10.cell (byts_get _ 31 (by decide))
      have hfr := k10.frozen 31
      go_upto_region 19 with fail
      refine code_cell k10 (fun w7 k10 hoth hbel => ?_)
      rw [set_e3] at k10
      have k6 := hoth _ _ (by omega) k6
      have kb := hbel _ _ (by omega) kb
      clear hoth hbel hcell hfr
      by_cases hab : above = true ∧ n < 18
      · obtain ⟨rfl, hn18⟩ := hab
        have hcell := k10.cell (byts_get _ 0 (by decide))
        rw [p_get0] at hcell
        have hfr := k10.frozen 0
        have c5 := Lib.hid (fun w => fcanon_r (a := pN + n) (r := n) (Lib.hid (edge_can n hn18)) (by have := lp18.out; omega) w)
        have hs4 := Lib.hid (set_e4 n hn18)
        have q4 := q4.out
        go_upto_region 21 with fail
        refine code_cell k10 (fun w8 k10 hoth hbel => ?_)
        have k10 : Arr w8 h ((byts pN).set 0 (.int .u8 ((237 + n : Nat) : Int))) := k10
        rw [hs4.out] at k10
        have kb := hbel _ _ (by omega) kb
        clear hoth hbel hcell hfr
        go_upto_region 21 with (first | (refine wpList_load_arr2 rfl _ _ rfl _ rfl (by kernel_rfl) _ (by assumption) (by first | (rw [lims_len]; kernel_rfl) | (rw [byts_len]; kernel_rfl) | (rw [us_len]; kernel_rfl) | kernel_rfl) ?_) | (refine wpList_store_arr rfl _ _ _ rfl _ _ rfl rfl _ (by first | assumption | exact Arr.new _ _ _) (by first | (rw [lims_len]; kernel_rfl) | (rw [byts_len]; kernel_rfl) | (rw [us_len]; kernel_rfl) | kernel_rfl) (by first | (rw [lims_len, lims_len]) | (rw [byts_len, byts_len]) | (rw [lims_len]; rfl) | (rw [byts_len]; rfl) | (rw [us_len, us_len]; rfl) | rfl) (by first | exact lims_one _ _ | exact byts_one _ | exact us_one _ | (intro v hv; simp at hv; rcases hv with rfl | rfl | rfl | rfl <;> rfl)) ?_))
        go_wp2_with (first | (refine wpList_load_arr2 rfl _ _ rfl _ rfl (by kernel_rfl) _ (by assumption) (by first | (rw [lims_len]; kernel_rfl) | (rw [byts_len]; kernel_rfl) | (rw [us_len]; kernel_rfl) | kernel_rfl) ?_) | (refine wpList_store_arr rfl _ _ _ rfl _ _ rfl rfl _ (by first | assumption | exact Arr.new _ _ _) (by first | (rw [lims_len]; kernel_rfl) | (rw [byts_len]; kernel_rfl) | (rw [us_len]; kernel_rfl) | kernel_rfl) (by first | (rw [lims_len, lims_len]) | (rw [byts_len, byts_len]) | (rw [lims_len]; rfl) | (rw [byts_len]; rfl) | (rw [us_len, us_len]; rfl) | rfl) (by first | exact lims_one _ _ | exact byts_one _ | exact us_one _ | (intro v hv; simp at hv; rcases hv with rfl | rfl | rfl | rfl <;> rfl)) ?_))
        refine (c5.out _).mono ?_
        rintro e w_8 ⟨rfl, hb_8⟩
        have k10 := k10.below hb_8
        have kb := bel kb hb_8
        clear hb_8
        go_wp2_with (first | (refine wpList_load_arr2 rfl _ _ rfl _ rfl (by kernel_rfl) _ (by assumption) (by first | (rw [lims_len]; kernel_rfl) | (rw [byts_len]; kernel_rfl) | (rw [us_len]; kernel_rfl) | kernel_rfl) ?_) | (refine wpList_store_arr rfl _ _ _ rfl _ _ rfl rfl _ (by first | assumption | exact Arr.new _ _ _) (by first | (rw [lims_len]; kernel_rfl) | (rw [byts_len]; kernel_rfl) | (rw [us_len]; kernel_rfl) | kernel_rfl) (by first | (rw [lims_len, lims_len]) | (rw [byts_len, byts_len]) | (rw [lims_len]; rfl) | (rw [byts_len]; rfl) | (rw [us_len, us_len]; rfl) | rfl) (by first | exact lims_one _ _ | exact byts_one _ | exact us_one _ | (intro v hv; simp at hv; rcases hv with rfl | rfl | rfl | rfl <;> rfl)) ?_))
        refine (cs.out n hn _).mono ?_
        rintro e w_9 ⟨rfl, hb_9⟩
        have k10 := k10.below hb_9
        have kb := bel kb hb_9
        clear hb_9
        go_wp2_with fail
        go_ret
        exact ⟨rfl, kb⟩
      · cases above
        · go_upto_region 22 with fail
          go_upto_region 22 with (first | (refine wpList_load_arr2 rfl _ _ rfl _ rfl (by kernel_rfl) _ (by assumption) (by first | (rw [lims_len]; kernel_rfl) | (rw [byts_len]; kernel_rfl) | (rw [us_len]; kernel_rfl) | kernel_rfl) ?_) | (refine wpList_store_arr rfl _ _ _ rfl _ _ rfl rfl _ (by first | assumption | exact Arr.new _ _ _) (by first | (rw [lims_len]; kernel_rfl) | (rw [byts_len]; kernel_rfl) | (rw [us_len]; kernel_rfl) | kernel_rfl) (by first | (rw [lims_len, lims_len]) | (rw [byts_len, byts_len]) | (rw [lims_len]; rfl) | (rw [byts_len]; rfl) | (rw [us_len, us_len]; rfl) | rfl) (by first | exact lims_one _ _ | exact byts_one _ | exact us_one _ | (intro v hv; simp at hv; rcases hv with rfl | rfl | rfl | rfl <;> rfl)) ?_))
          refine Tx.start (fun w' => Below (w7).heap.size (w7) w') 9999 16 rfl (by kernel_rfl) ?_
          have hS_10 : Below (w7).heap.size (w7) (World.drew w7) := (Below.refl _ _).drew
          refine Tx.seg (A := ?_) 12 23 (by kernel_rfl) (by exact hS_10) [0, 1, 2, 4] (by kernel_rfl) ?_ ?_
          rotate_left
          · intro w' hB
            have e0 := k6.below hB
            have e1 := k10.below hB
            iterate 4 (first | (refine rd_skip rfl rfl ?_; simp only [Act.put, List.setIfInBounds_toArray, List.set_cons_zero, List.set_cons_succ]) | (refine rd_load_arr rfl rfl _ _ rfl _ rfl (by kernel_rfl) _ (by assumption) (by first | (rw [lims_len]; kernel_rfl) | (rw [byts_len]; kernel_rfl) | (rw [us_len]; kernel_rfl) | kernel_rfl) ?_; simp only [Act.put, List.setIfInBounds_toArray, List.set_cons_zero, List.set_cons_succ]) | (refine rd_take (v := ?_) rfl rfl ?_ ?_; rotate_left; (focus (go_simp; try (with_reducible rfl))); simp only [Act.put, List.setIfInBounds_toArray, List.set_cons_zero, List.set_cons_succ]))
            exact rd_nil
          refine Tx.eff 3 31 rfl (by decide +kernel) (fun K hK => ?_)
          go_simp
          refine (c3.out _).mono ?_
          rintro e w_11 ⟨rfl, hb_11⟩
          have hS_11 := ext_trans hS_10 (Nat.le_refl _) hb_11
          refine hK (fun w' => Below (w7).heap.size (w7) w') _ _ hS_11 (fun _ h => h) ?_
          clear hK K hb_11 hS_10
          try simp only [Act.put, List.setIfInBounds_toArray, List.set_cons_zero, List.set_cons_succ]
          refine Tx.seg (A := ?_) 5 5119 (by kernel_rfl) (by exact hS_11) [5, 6, 7, 8, 9, 12] (by kernel_rfl) ?_ ?_
          rotate_left
          · intro w' hB
            have e0 := k6.below hB
            have e1 := k10.below hB
            have q1 := q3.out w'
            iterate 6 (first | (refine rd_skip rfl rfl ?_; simp only [Act.put, List.setIfInBounds_toArray, List.set_cons_zero, List.set_cons_succ]) | (refine rd_load_arr rfl rfl _ _ rfl _ rfl (by kernel_rfl) _ (by assumption) (by first | (rw [lims_len]; kernel_rfl) | (rw [byts_len]; kernel_rfl) | (rw [us_len]; kernel_rfl) | kernel_rfl) ?_; simp only [Act.put, List.setIfInBounds_toArray, List.set_cons_zero, List.set_cons_succ]) | (refine rd_take (v := ?_) rfl rfl ?_ ?_; rotate_left; (focus (go_simp; try (with_reducible rfl))); simp only [Act.put, List.setIfInBounds_toArray, List.set_cons_zero, List.set_cons_succ]))
            exact rd_nil
          refine Tx.eff 10 6143 rfl (by decide +kernel) (fun K hK => ?_)
          go_simp
          refine (cs.out n hn _).mono ?_
          rintro e w_12 ⟨rfl, hb_12⟩
          have hS_12 := ext_trans hS_11 (Nat.le_refl _) hb_12
          refine hK (fun w' => Below (w7).heap.size (w7) w') _ _ hS_12 (fun _ h => h) ?_
          clear hK K hb_12 hS_11
          try simp only [Act.put, List.setIfInBounds_toArray, List.set_cons_zero, List.set_cons_succ]
          refine Tx.eff 11 8191 rfl (by decide +kernel) (fun K hK => ?_)
          go_simp
          refine (c4.out _).mono ?_
          rintro e w_13 ⟨rfl, hb_13⟩
          have hS_13 := ext_trans hS_12 (Nat.le_refl _) hb_13
          refine hK (fun w' => Below (w7).heap.size (w7) w') _ _ hS_13 (fun _ h => h) ?_
          clear hK K hb_13 hS_12
          try simp only [Act.put, List.setIfInBounds_toArray, List.set_cons_zero, List.set_cons_succ]
          refine Tx.seg (A := ?_) 0 65535 (by kernel_rfl) (by exact hS_13) [13, 14, 15] (by kernel_rfl) ?_ ?_
          rotate_left
          · intro w' hB
            have q2 := q3.out w'
            iterate 3 (first | (refine rd_skip rfl rfl ?_; simp only [Act.put, List.setIfInBounds_toArray, List.set_cons_zero, List.set_cons_succ]) | (refine rd_load_arr rfl rfl _ _ rfl _ rfl (by kernel_rfl) _ (by assumption) (by first | (rw [lims_len]; kernel_rfl) | (rw [byts_len]; kernel_rfl) | (rw [us_len]; kernel_rfl) | kernel_rfl) ?_; simp only [Act.put, List.setIfInBounds_toArray, List.set_cons_zero, List.set_cons_succ]) | (refine rd_take (v := ?_) rfl rfl ?_ ?_; rotate_left; (focus (go_simp; try (with_reducible rfl))); simp only [Act.put, List.setIfInBounds_toArray, List.set_cons_zero, List.set_cons_succ]))
            exact rd_nil
          refine Tx.done (by kernel_rfl) ?_
          have k6 := k6.below hS_13
          have k10 := k10.below hS_13
          have kb := bel kb hS_13
          clear hS_13
          go_wp2_with fail
          go_ret
          exact ⟨rfl, kb⟩
        · have hn18 : ¬ n < 18 := fun h => hab ⟨rfl, h⟩
          clear hab
          go_upto_region 22 with fail
          go_upto_region 22 with (first | (refine wpList_load_arr2 rfl _ _ rfl _ rfl (by kernel_rfl) _ (by assumption) (by first | (rw [lims_len]; kernel_rfl) | (rw [byts_len]; kernel_rfl) | (rw [us_len]; kernel_rfl) | kernel_rfl) ?_) | (refine wpList_store_arr rfl _ _ _ rfl _ _ rfl rfl _ (by first | assumption | exact Arr.new _ _ _) (by first | (rw [lims_len]; kernel_rfl) | (rw [byts_len]; kernel_rfl) | (rw [us_len]; kernel_rfl) | kernel_rfl) (by first | (rw [lims_len, lims_len]) | (rw [byts_len, byts_len]) | (rw [lims_len]; rfl) | (rw [byts_len]; rfl) | (rw [us_len, us_len]; rfl) | rfl) (by first | exact lims_one _ _ | exact byts_one _ | exact us_one _ | (intro v hv; simp at hv; rcases hv with rfl | rfl | rfl | rfl <;> rfl)) ?_))
          refine Tx.start (fun w' => Below (w7).heap.size (w7) w') 9999 16 rfl (by kernel_rfl) ?_
          have hS_14 : Below (w7).heap.size (w7) (World.drew w7) := (Below.refl _ _).drew
          refine Tx.seg (A := ?_) 12 23 (by kernel_rfl) (by exact hS_14) [0, 1, 2, 4] (by kernel_rfl) ?_ ?_
          rotate_left
          · intro w' hB
            have e0 := k6.below hB
            have e1 := k10.below hB
            iterate 4 (first | (refine rd_skip rfl rfl ?_; simp only [Act.put, List.setIfInBounds_toArray, List.set_cons_zero, List.set_cons_succ]) | (refine rd_load_arr rfl rfl _ _ rfl _ rfl (by kernel_rfl) _ (by assumption) (by first | (rw [lims_len]; kernel_rfl) | (rw [byts_len]; kernel_rfl) | (rw [us_len]; kernel_rfl) | kernel_rfl) ?_; simp only [Act.put, List.setIfInBounds_toArray, List.set_cons_zero, List.set_cons_succ]) | (refine rd_take (v := ?_) rfl rfl ?_ ?_; rotate_left; (focus (go_simp; try (with_reducible rfl))); simp only [Act.put, List.setIfInBounds_toArray, List.set_cons_zero, List.set_cons_succ]))
            exact rd_nil
          refine Tx.eff 3 31 rfl (by decide +kernel) (fun K hK => ?_)
          go_simp
          refine (c3.out _).mono ?_
          rintro e w_15 ⟨rfl, hb_15⟩
          have hS_15 := ext_trans hS_14 (Nat.le_refl _) hb_15
          refine hK (fun w' => Below (w7).heap.size (w7) w') _ _ hS_15 (fun _ h => h) ?_
          clear hK K hb_15 hS_14
          try simp only [Act.put, List.setIfInBounds_toArray, List.set_cons_zero, List.set_cons_succ]
          refine Tx.seg (A := ?_) 5 5119 (by kernel_rfl) (by exact hS_15) [5, 6, 7, 8, 9, 12] (by kernel_rfl) ?_ ?_
          rotate_left
          · intro w' hB
            have e0 := k6.below hB
            have e1 := k10.below hB
            have q1 := q3.out w'
            iterate 6 (first | (refine rd_skip rfl rfl ?_; simp only [Act.put, List.setIfInBounds_toArray, List.set_cons_zero, List.set_cons_succ]) | (refine rd_load_arr rfl rfl _ _ rfl _ rfl (by kernel_rfl) _ (by assumption) (by first | (rw [lims_len]; kernel_rfl) | (rw [byts_len]; kernel_rfl) | (rw [us_len]; kernel_rfl) | kernel_rfl) ?_; simp only [Act.put, List.setIfInBounds_toArray, List.set_cons_zero, List.set_cons_succ]) | (refine rd_take (v := ?_) rfl rfl ?_ ?_; rotate_left; (focus (go_simp; try (with_reducible rfl))); simp only [Act.put, List.setIfInBounds_toArray, List.set_cons_zero, List.set_cons_succ]))
            exact rd_nil
          refine Tx.eff 10 6143 rfl (by decide +kernel) (fun K hK => ?_)
          go_simp
          refine (cs.out n hn _).mono ?_
          rintro e w_16 ⟨rfl, hb_16⟩
          have hS_16 := ext_trans hS_15 (Nat.le_refl _) hb_16
          refine hK (fun w' => Below (w7).heap.size (w7) w') _ _ hS_16 (fun _ h => h) ?_
          clear hK K hb_16 hS_15
          try simp only [Act.put, List.setIfInBounds_toArray, List.set_cons_zero, List.set_cons_succ]
          refine Tx.eff 11 8191 rfl (by decide +kernel) (fun K hK => ?_)
          go_simp
          refine (c4.out _).mono ?_
          rintro e w_17 ⟨rfl, hb_17⟩
          have hS_17 := ext_trans hS_16 (Nat.le_refl _) hb_17
          refine hK (fun w' => Below (w7).heap.size (w7) w') _ _ hS_17 (fun _ h => h) ?_
          clear hK K hb_17 hS_16
          try simp only [Act.put, List.setIfInBounds_toArray, List.set_cons_zero, List.set_cons_succ]
          refine Tx.seg (A := ?_) 0 65535 (by kernel_rfl) (by exact hS_17) [13, 14, 15] (by kernel_rfl) ?_ ?_
          rotate_left
          · intro w' hB
            have q2 := q3.out w'
            iterate 3 (first | (refine rd_skip rfl rfl ?_; simp only [Act.put, List.setIfInBounds_toArray, List.set_cons_zero, List.set_cons_succ]) | (refine rd_load_arr rfl rfl _ _ rfl _ rfl (by kernel_rfl) _ (by assumption) (by first | (rw [lims_len]; kernel_rfl) | (rw [byts_len]; kernel_rfl) | (rw [us_len]; kernel_rfl) | kernel_rfl) ?_; simp only [Act.put, List.setIfInBounds_toArray, List.set_cons_zero, List.set_cons_succ]) | (refine rd_take (v := ?_) rfl rfl ?_ ?_; rotate_left; (focus (go_simp; try (with_reducible rfl))); simp only [Act.put, List.setIfInBounds_toArray, List.set_cons_zero, List.set_cons_succ]))
            exact rd_nil
          refine Tx.done (by kernel_rfl) ?_
          have k6 := k6.below hS_17
          have k10 := k10.below hS_17
          have kb := bel kb hS_17
          clear hS_17
          go_wp2_with fail
          go_ret
          exact ⟨rfl, kb⟩

end Go.Proofs.Ytdggikbaemigbaa
