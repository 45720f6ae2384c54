/- field: Power, Inverse. -/
import Derived.Test.YtpjkhedodlnloaaFd3
namespace Go.Proofs.Ytpjkhedodlnloaa
open Go.RowKit

theorem p_lt4 (n : Nat) : n % pN < 18446744073709551616 ^ 4 := Nat.lt_trans (Nat.mod_lt _ pN_pos) (by decide)

theorem pow_bit (a e m r b : Nat) (hr : a ^ (e / 2 ^ (m + 1)) % pN = r) (hb : e / 2 ^ m % 2 = b) : a ^ (e / 2 ^ m) % pN = (r * r % pN) * a ^ b % pN := by
  have e1 : e / 2 ^ m = e / 2 ^ (m + 1) + e / 2 ^ (m + 1) + b := by
    rw [Nat.pow_succ, ← Nat.div_div_eq_div_mul]; omega
  rw [e1, Nat.pow_add, Nat.pow_add, ← hr, ← Nat.mul_mod (a ^ (e / 2 ^ (m + 1))), Nat.mod_mul_mod]

set_option maxHeartbeats 2000000 in
set_option maxRecDepth 100000 in
theorem power_any (a x : Nat) (ha : a < 18446744073709551616 ^ 4) (hx : x < 18446744073709551616 ^ 4) (w : World) :
    Calls Try.prog 37 #[.agg (lims 4 a).toArray, .agg (lims 4 x).toArray] w fun e w' => e = .returned (.agg (lims 4 (a ^ x % pN)).toArray) ∧ Below w.heap.size w w' := by
  have l1 : (lims 4 1).toArray = #[.int .u64 1, .int .u64 0, .int .u64 0, .int .u64 0] := lims_small 1 (by decide)
  have l1' : us [1, 0, 0, 0] = lims 4 1 := by rfl
  replace l1' := Lib.hid l1'
  clear l1
  go_enter Try.func37, Try.ntmps37
  go_upto_region 1 with fail
  refine wp_new3 (fun W hsz k1 k2 k3 kb => ?_)
  have k3 : Arr W (w.heap.size + 1 + 1) (lims 4 0) := k3
  go_upto_region 2 with (first | (refine wpList_load_arr2 rfl _ _ rfl _ rfl (by decide +kernel) _ (by assumption) (by first | (rw [lims_len]; kernel_rfl) | (rw [el_rep]; kernel_rfl) | (rw [el_len]; kernel_rfl) | (rw [byts_len]; kernel_rfl) | (rw [us_len]; kernel_rfl) | (rw [bytn_len]; kernel_rfl) | (rw [ens_len, digs_len]; kernel_rfl) | kernel_rfl) ?_) | (refine wpList_store_arr rfl _ _ _ rfl _ _ rfl rfl _ (by first | assumption | exact Arr.new _ _ _) (by first | (rw [lims_len]; kernel_rfl) | (rw [el_rep]; kernel_rfl) | (rw [el_len]; kernel_rfl) | (rw [byts_len]; kernel_rfl) | (rw [us_len]; kernel_rfl) | (rw [bytn_len]; kernel_rfl) | (rw [ens_len, digs_len]; kernel_rfl) | kernel_rfl) (by first | (rw [lims_len, lims_len]) | (rw [el_rep, el_rep]) | (rw [el_rep, el_len]; rfl) | (rw [el_len, el_rep]; rfl) | (rw [el_len, el_len]; rfl) | (rw [byts_len, byts_len]) | (rw [lims_len]; rfl) | (rw [byts_len]; rfl) | (rw [us_len, us_len]; rfl) | (rw [bytn_len, bytn_len]) | (rw [bytn_len]; rfl) | (rw [ens_len, ens_len, digs_len, digs_len]) | rfl) (by first | exact lims_one _ _ | exact el_one _ | exact byts_one _ | exact us_one _ | exact bytn_one _ _ | exact ens_one _ | (intro v hv; simp at hv; rcases hv with rfl | rfl | rfl | rfl <;> rfl)) ?_))
  refine wp_new1 (fun w9 hsz9 k4 hb9 => ?_)
  have k4 : Arr w9 W.heap.size (us [1, 0, 0, 0]) := k4
  rw [l1'.out, hsz] at k4
  have k1 := k1.below hb9
  have k2 := k2.below hb9
  have k3 := k3.below hb9
  have kb := bel kb hb9
  clear hb9 hsz9
  go_wp2_with fail
  go_loopw [6] (fun kv wr => ∃ (j n : Nat), j ≤ 256 ∧ kv = .int .i64 ((j : Int) - 1) ∧ a ^ (x / 2 ^ j) % pN = n ∧ Arr wr w.heap.size (lims 4 a) ∧ Arr wr (w.heap.size + 1) (lims 4 x) ∧ Arr wr (w.heap.size + 1 + 1) (lims 4 0) ∧ Arr wr (w.heap.size + 3) (lims 4 n) ∧ Below w.heap.size w wr) (fun kv _ => (intOf kv + 1).toNat)
  case atStart =>
    refine ⟨256, 1, Nat.le_refl _, rfl, ?_, k1, k2, k3, ?_, kb⟩
    · rw [Nat.div_eq_of_lt (Nat.lt_of_lt_of_le hx (by decide)), Nat.pow_zero]
      decide
    · exact k4
  case round =>
    clear k1 k2 k3 k4 kb hsz
    obtain ⟨j, n, hj, rfl, hn, k1, k2, k3, k4, kb⟩ := hrel
    have hnq : n < 18446744073709551616 ^ 4 := by rw [← hn]; exact p_lt4 _
    replace hn := Lib.hid hn
    rcases Nat.eq_zero_or_pos j with rfl | hj0
    · have e : ((0 : Nat) : Int) - 1 = -1 := rfl
      rw [e]
      go_wp2_with (first | (refine wpList_load_arr2 rfl _ _ rfl _ rfl (by decide +kernel) _ (by assumption) (by first | (rw [lims_len]; kernel_rfl) | (rw [el_rep]; kernel_rfl) | (rw [el_len]; kernel_rfl) | (rw [byts_len]; kernel_rfl) | (rw [us_len]; kernel_rfl) | (rw [bytn_len]; kernel_rfl) | (rw [ens_len, digs_len]; kernel_rfl) | kernel_rfl) ?_) | (refine wpList_store_arr rfl _ _ _ rfl _ _ rfl rfl _ (by first | assumption | exact Arr.new _ _ _) (by first | (rw [lims_len]; kernel_rfl) | (rw [el_rep]; kernel_rfl) | (rw [el_len]; kernel_rfl) | (rw [byts_len]; kernel_rfl) | (rw [us_len]; kernel_rfl) | (rw [bytn_len]; kernel_rfl) | (rw [ens_len, digs_len]; kernel_rfl) | kernel_rfl) (by first | (rw [lims_len, lims_len]) | (rw [el_rep, el_rep]) | (rw [el_rep, el_len]; rfl) | (rw [el_len, el_rep]; rfl) | (rw [el_len, el_len]; rfl) | (rw [byts_len, byts_len]) | (rw [lims_len]; rfl) | (rw [byts_len]; rfl) | (rw [us_len, us_len]; rfl) | (rw [bytn_len, bytn_len]) | (rw [bytn_len]; rfl) | (rw [ens_len, ens_len, digs_len, digs_len]) | rfl) (by first | exact lims_one _ _ | exact el_one _ | exact byts_one _ | exact us_one _ | exact bytn_one _ _ | exact ens_one _ | (intro v hv; simp at hv; rcases hv with rfl | rfl | rfl | rfl <;> rfl)) ?_))
      exact bodyPost_ret (results_arr2 Try.results37 _ _ _ rfl (by kernel_rfl) _ (by first | assumption | exact Arr.setRow (by assumption) _) (by first | (rw [lims_len]; kernel_rfl) | (rw [el_rep]; kernel_rfl) | (rw [el_len]; kernel_rfl) | (rw [byts_len]; kernel_rfl) | (rw [us_len]; kernel_rfl) | (rw [bytn_len]; kernel_rfl) | (rw [ens_len, digs_len]; kernel_rfl) | kernel_rfl)) rfl ⟨by rw [← hn.out, Nat.pow_zero, Nat.div_one], below_setRow kb (by omega) _⟩
    · obtain ⟨m, rfl⟩ : ∃ m, j = m + 1 := ⟨j - 1, by omega⟩
      have e : ((m + 1 : Nat) : Int) - 1 = (m : Int) := by omega
      rw [e]
      clear e
      obtain ⟨t, ht⟩ : ∃ t, x / 2 ^ m % 2 = t := ⟨_, rfl⟩
      have ht2 : t < 2 := by omega
      have hstep := pow_bit a x m n t hn.out ht
      obtain ⟨q, hq⟩ : ∃ q, n * n % pN = q := ⟨_, rfl⟩
      have hql : q < 18446744073709551616 ^ 4 := by rw [← hq]; exact p_lt4 _
      have c1 := fun w => times_any n n hnq hnq w
      rw [hq] at c1 hstep
      have c2 := fun w => limBit_any x m (by omega) w
      rw [ht] at c2
      have c3 := fun w => times_any q a hql ha w
      obtain ⟨r, hr⟩ : ∃ r, q * a % pN = r := ⟨_, rfl⟩
      rw [hr] at c3
      have hstep1 : t = 1 → a ^ (x / 2 ^ m) % pN = r := by rintro rfl; rw [hstep, Nat.pow_one, hr]
      have hstep0 : t = 0 → a ^ (x / 2 ^ m) % pN = q := by rintro rfl; rw [hstep, Nat.pow_zero, Nat.mul_one, ← hq, Nat.mod_mod]
      replace c1 := Lib.hid c1
      replace c2 := Lib.hid c2
      replace c3 := Lib.hid c3
      replace hstep1 := Lib.hid hstep1
      replace hstep0 := Lib.hid hstep0
      clear hstep hq ht hr hn
      go_wp2_with (first | (refine wpList_load_arr2 rfl _ _ rfl _ rfl (by decide +kernel) _ (by assumption) (by first | (rw [lims_len]; kernel_rfl) | (rw [el_rep]; kernel_rfl) | (rw [el_len]; kernel_rfl) | (rw [byts_len]; kernel_rfl) | (rw [us_len]; kernel_rfl) | (rw [bytn_len]; kernel_rfl) | (rw [ens_len, digs_len]; kernel_rfl) | kernel_rfl) ?_) | (refine wpList_store_arr rfl _ _ _ rfl _ _ rfl rfl _ (by first | assumption | exact Arr.new _ _ _) (by first | (rw [lims_len]; kernel_rfl) | (rw [el_rep]; kernel_rfl) | (rw [el_len]; kernel_rfl) | (rw [byts_len]; kernel_rfl) | (rw [us_len]; kernel_rfl) | (rw [bytn_len]; kernel_rfl) | (rw [ens_len, digs_len]; kernel_rfl) | kernel_rfl) (by first | (rw [lims_len, lims_len]) | (rw [el_rep, el_rep]) | (rw [el_rep, el_len]; rfl) | (rw [el_len, el_rep]; rfl) | (rw [el_len, el_len]; rfl) | (rw [byts_len, byts_len]) | (rw [lims_len]; rfl) | (rw [byts_len]; rfl) | (rw [us_len, us_len]; rfl) | (rw [bytn_len, bytn_len]) | (rw [bytn_len]; rfl) | (rw [ens_len, ens_len, digs_len, digs_len]) | rfl) (by first | exact lims_one _ _ | exact el_one _ | exact byts_one _ | exact us_one _ | exact bytn_one _ _ | exact ens_one _ | (intro v hv; simp at hv; rcases hv with rfl | rfl | rfl | rfl <;> rfl)) ?_))
      refine (c1.out _).mono ?_
      rintro e w_1 ⟨rfl, hb_1⟩
      have k1 := k1.below hb_1
      have k2 := k2.below hb_1
      have k3 := k3.below hb_1
      have k4 := k4.below hb_1
      have kb := bel kb hb_1
      clear hb_1
      go_upto_region 6 with (first | (refine wpList_store_arr rfl _ _ _ rfl _ _ rfl rfl _ (by first | assumption | exact Arr.new _ _ _) (by first | (rw [lims_len]; kernel_rfl) | (rw [el_rep]; kernel_rfl) | (rw [el_len]; kernel_rfl) | (rw [byts_len]; kernel_rfl) | (rw [us_len]; kernel_rfl) | (rw [bytn_len]; kernel_rfl) | (rw [ens_len, digs_len]; kernel_rfl) | kernel_rfl) (by first | (rw [lims_len, lims_len]) | (rw [el_rep, el_rep]) | (rw [el_rep, el_len]; rfl) | (rw [el_len, el_rep]; rfl) | (rw [el_len, el_len]; rfl) | (rw [byts_len, byts_len]) | (rw [lims_len]; rfl) | (rw [byts_len]; rfl) | (rw [us_len, us_len]; rfl) | (rw [bytn_len, bytn_len]) | (rw [bytn_len]; rfl) | (rw [ens_len, ens_len, digs_len, digs_len]) | rfl) (by first | exact lims_one _ _ | exact el_one _ | exact byts_one _ | exact us_one _ | exact bytn_one _ _ | exact ens_one _ | (intro v hv; simp at hv; rcases hv with rfl | rfl | rfl | rfl <;> rfl)) ?_))
      refine code_row k4 (fun w_2 k4 hoth hbel => ?_)
      have k1 := hoth _ _ (by omega) k1
      have k2 := hoth _ _ (by omega) k2
      have k3 := hoth _ _ (by omega) k3
      have kb := hbel _ _ (by omega) kb
      clear hoth hbel
      go_wp2_with (first | (refine wpList_load_arr2 rfl _ _ rfl _ rfl (by decide +kernel) _ (by assumption) (by first | (rw [lims_len]; kernel_rfl) | (rw [el_rep]; kernel_rfl) | (rw [el_len]; kernel_rfl) | (rw [byts_len]; kernel_rfl) | (rw [us_len]; kernel_rfl) | (rw [bytn_len]; kernel_rfl) | (rw [ens_len, digs_len]; kernel_rfl) | kernel_rfl) ?_))
      refine (c2.out _).mono ?_
      rintro e w_3 ⟨rfl, hb_3⟩
      have k1 := k1.below hb_3
      have k2 := k2.below hb_3
      have k3 := k3.below hb_3
      have k4 := k4.below hb_3
      have kb := bel kb hb_3
      clear hb_3
      by_cases h1 : t = 1
      · obtain rfl := h1
        go_wp2_with (first | (refine wpList_load_arr2 rfl _ _ rfl _ rfl (by decide +kernel) _ (by assumption) (by first | (rw [lims_len]; kernel_rfl) | (rw [el_rep]; kernel_rfl) | (rw [el_len]; kernel_rfl) | (rw [byts_len]; kernel_rfl) | (rw [us_len]; kernel_rfl) | (rw [bytn_len]; kernel_rfl) | (rw [ens_len, digs_len]; kernel_rfl) | kernel_rfl) ?_))
        refine (c3.out _).mono ?_
        rintro e w_4 ⟨rfl, hb_4⟩
        have k1 := k1.below hb_4
        have k2 := k2.below hb_4
        have k3 := k3.below hb_4
        have k4 := k4.below hb_4
        have kb := bel kb hb_4
        clear hb_4
        go_wp2_with (first | (refine wpList_store_arr rfl _ _ _ rfl _ _ rfl rfl _ (by first | assumption | exact Arr.new _ _ _) (by first | (rw [lims_len]; kernel_rfl) | (rw [el_rep]; kernel_rfl) | (rw [el_len]; kernel_rfl) | (rw [byts_len]; kernel_rfl) | (rw [us_len]; kernel_rfl) | (rw [bytn_len]; kernel_rfl) | (rw [ens_len, digs_len]; kernel_rfl) | kernel_rfl) (by first | (rw [lims_len, lims_len]) | (rw [el_rep, el_rep]) | (rw [el_rep, el_len]; rfl) | (rw [el_len, el_rep]; rfl) | (rw [el_len, el_len]; rfl) | (rw [byts_len, byts_len]) | (rw [lims_len]; rfl) | (rw [byts_len]; rfl) | (rw [us_len, us_len]; rfl) | (rw [bytn_len, bytn_len]) | (rw [bytn_len]; rfl) | (rw [ens_len, ens_len, digs_len, digs_len]) | rfl) (by first | exact lims_one _ _ | exact el_one _ | exact byts_one _ | exact us_one _ | exact bytn_one _ _ | exact ens_one _ | (intro v hv; simp at hv; rcases hv with rfl | rfl | rfl | rfl <;> rfl)) ?_))
        refine ⟨⟨m, r, by omega, by go_num, hstep1.out (by trivial), k1.row_other (by omega) _, k2.row_other (by omega) _, k3.row_other (by omega) _, k4.setRow _, below_setRow kb (by omega) _⟩, by simp [intOf]⟩
      · obtain rfl : t = 0 := by omega
        go_wp2_with fail
        exact ⟨⟨m, q, by omega, by go_num, hstep0.out (by trivial), k1, k2, k3, k4, kb⟩, by simp [intOf]⟩

set_option maxHeartbeats 2000000 in
set_option maxRecDepth 100000 in
theorem inverse_any (a : Nat) (ha : a < 18446744073709551616 ^ 4) (w : World) :
    Calls Try.prog 19 #[.agg (lims 4 a).toArray] w fun e w' => e = .returned (.agg (lims 4 (a ^ (pN - 2) % pN)).toArray) ∧ Below w.heap.size w w' := by
  have c1 := Lib.hid (fun w => prime_any w)
  have l2 : (lims 4 2).toArray = #[.int .u64 2, .int .u64 0, .int .u64 0, .int .u64 0] := lims_small 2 (by decide)
  have c2 := fun w => limSub_any pN 2 (by decide) w
  rw [borrow_all (by decide) (by decide), if_neg (by decide), show lims 4 (pN + 18446744073709551616 ^ 4 - 2) = lims 4 (pN - 2) from lims_mod _ _ ⟨1, by decide⟩, l2] at c2
  have c3 := Lib.hid (fun w => power_any a (pN - 2) ha (by decide) w)
  replace c2 := Lib.hid c2
  clear l2
  go_enter Try.func19, Try.ntmps19
  go_upto_region 1 with fail
  refine wp_new2 (fun W hsz k1 k2 kb => ?_)
  have k2 : Arr W (w.heap.size + 1) (lims 4 0) := k2
  go_wp2_with fail
  refine (c1.out _).mono ?_
  rintro e w_5 ⟨rfl, hb_5⟩
  have k1 := k1.below hb_5
  have k2 := k2.below hb_5
  have kb := bel kb hb_5
  clear hb_5
  go_wp2_with fail
  refine (c2.out _).mono ?_
  rintro e w_6 ⟨rfl, hb_6⟩
  have k1 := k1.below hb_6
  have k2 := k2.below hb_6
  have kb := bel kb hb_6
  clear hb_6
  go_upto_region 2 with (first | (refine wpList_store_arr rfl _ _ _ rfl _ _ rfl rfl _ (by first | assumption | exact Arr.new _ _ _) (by first | (rw [lims_len]; kernel_rfl) | (rw [el_rep]; kernel_rfl) | (rw [el_len]; kernel_rfl) | (rw [byts_len]; kernel_rfl) | (rw [us_len]; kernel_rfl) | (rw [bytn_len]; kernel_rfl) | (rw [ens_len, digs_len]; kernel_rfl) | kernel_rfl) (by first | (rw [lims_len, lims_len]) | (rw [el_rep, el_rep]) | (rw [el_rep, el_len]; rfl) | (rw [el_len, el_rep]; rfl) | (rw [el_len, el_len]; rfl) | (rw [byts_len, byts_len]) | (rw [lims_len]; rfl) | (rw [byts_len]; rfl) | (rw [us_len, us_len]; rfl) | (rw [bytn_len, bytn_len]) | (rw [bytn_len]; rfl) | (rw [ens_len, ens_len, digs_len, digs_len]) | rfl) (by first | exact lims_one _ _ | exact el_one _ | exact byts_one _ | exact us_one _ | exact bytn_one _ _ | exact ens_one _ | (intro v hv; simp at hv; rcases hv with rfl | rfl | rfl | rfl <;> rfl)) ?_))
  refine code_new (fun w9 k4 hb9 => ?_)
  have k1 := k1.below hb9
  have k2 := k2.below hb9
  have kb := bel kb hb9
  clear hb9
  go_wp2_with (first | (refine wpList_load_arr2 rfl _ _ rfl _ rfl (by decide +kernel) _ (by assumption) (by first | (rw [lims_len]; kernel_rfl) | (rw [el_rep]; kernel_rfl) | (rw [el_len]; kernel_rfl) | (rw [byts_len]; kernel_rfl) | (rw [us_len]; kernel_rfl) | (rw [bytn_len]; kernel_rfl) | (rw [ens_len, digs_len]; kernel_rfl) | kernel_rfl) ?_) | (refine wpList_store_arr rfl _ _ _ rfl _ _ rfl rfl _ (by first | assumption | exact Arr.new _ _ _) (by first | (rw [lims_len]; kernel_rfl) | (rw [el_rep]; kernel_rfl) | (rw [el_len]; kernel_rfl) | (rw [byts_len]; kernel_rfl) | (rw [us_len]; kernel_rfl) | (rw [bytn_len]; kernel_rfl) | (rw [ens_len, digs_len]; kernel_rfl) | kernel_rfl) (by first | (rw [lims_len, lims_len]) | (rw [el_rep, el_rep]) | (rw [el_rep, el_len]; rfl) | (rw [el_len, el_rep]; rfl) | (rw [el_len, el_len]; rfl) | (rw [byts_len, byts_len]) | (rw [lims_len]; rfl) | (rw [byts_len]; rfl) | (rw [us_len, us_len]; rfl) | (rw [bytn_len, bytn_len]) | (rw [bytn_len]; rfl) | (rw [ens_len, ens_len, digs_len, digs_len]) | rfl) (by first | exact lims_one _ _ | exact el_one _ | exact byts_one _ | exact us_one _ | exact bytn_one _ _ | exact ens_one _ | (intro v hv; simp at hv; rcases hv with rfl | rfl | rfl | rfl <;> rfl)) ?_))
  refine (c3.out _).mono ?_
  rintro e w_7 ⟨rfl, hb_7⟩
  have k2 := k2.below hb_7
  have kb := bel kb hb_7
  clear hb_7
  go_wp2_with (first | (refine wpList_load_arr2 rfl _ _ rfl _ rfl (by decide +kernel) _ (by assumption) (by first | (rw [lims_len]; kernel_rfl) | (rw [el_rep]; kernel_rfl) | (rw [el_len]; kernel_rfl) | (rw [byts_len]; kernel_rfl) | (rw [us_len]; kernel_rfl) | (rw [bytn_len]; kernel_rfl) | (rw [ens_len, digs_len]; kernel_rfl) | kernel_rfl) ?_) | (refine wpList_store_arr rfl _ _ _ rfl _ _ rfl rfl _ (by first | assumption | exact Arr.new _ _ _) (by first | (rw [lims_len]; kernel_rfl) | (rw [el_rep]; kernel_rfl) | (rw [el_len]; kernel_rfl) | (rw [byts_len]; kernel_rfl) | (rw [us_len]; kernel_rfl) | (rw [bytn_len]; kernel_rfl) | (rw [ens_len, digs_len]; kernel_rfl) | kernel_rfl) (by first | (rw [lims_len, lims_len]) | (rw [el_rep, el_rep]) | (rw [el_rep, el_len]; rfl) | (rw [el_len, el_rep]; rfl) | (rw [el_len, el_len]; rfl) | (rw [byts_len, byts_len]) | (rw [lims_len]; rfl) | (rw [byts_len]; rfl) | (rw [us_len, us_len]; rfl) | (rw [bytn_len, bytn_len]) | (rw [bytn_len]; rfl) | (rw [ens_len, ens_len, digs_len, digs_len]) | rfl) (by first | exact lims_one _ _ | exact el_one _ | exact byts_one _ | exact us_one _ | exact bytn_one _ _ | exact ens_one _ | (intro v hv; simp at hv; rcases hv with rfl | rfl | rfl | rfl <;> rfl)) ?_))
  exact bodyPost_ret (results_arr2 Try.results19 _ _ _ rfl (by kernel_rfl) _ (by first | assumption | exact Arr.setRow (by assumption) _) (by first | (rw [lims_len]; kernel_rfl) | (rw [el_rep]; kernel_rfl) | (rw [el_len]; kernel_rfl) | (rw [byts_len]; kernel_rfl) | (rw [us_len]; kernel_rfl) | (rw [bytn_len]; kernel_rfl) | (rw [ens_len, digs_len]; kernel_rfl) | kernel_rfl)) rfl ⟨rfl, below_setRow kb (by omega) _⟩

end Go.Proofs.Ytpjkhedodlnloaa
