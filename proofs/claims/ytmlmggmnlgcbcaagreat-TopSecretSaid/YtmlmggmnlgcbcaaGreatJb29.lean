import Derived.Test.YtmlmggmnlgcbcaaGreatJb25
import Derived.Test.YtmlmggmnlgcbcaaGreatJb08
import Derived.Test.YtmlmggmnlgcbcaaGreatJb27
import Derived.Test.YtmlmggmnlgcbcaaGreatJb28
import Derived.ProofKit

namespace Go.Proofs.YtmlmggmnlgcbcaaGreat
open Go.RowKit
theorem p_ne {a : Nat} (h : a % pN ≠ 0) : ¬ pN ∣ a := fun hd => h (Nat.mod_eq_zero_of_dvd hd)
theorem fermat_p {a : Nat} (h : a % pN ≠ 0) : a ^ (pN - 1) % pN = 1 := Nt.fermat pN_prime (p_ne h)
end Go.Proofs.YtmlmggmnlgcbcaaGreat


namespace Go.Proofs.YtmlmggmnlgcbcaaGreat
open Go.RowKit
theorem mul_ne {a b : Nat} (ha : a < pN) (hb : b < pN) (a0 : a ≠ 0) (b0 : b ≠ 0) : a * b % pN ≠ 0 := by
  intro h
  rcases pN_prime.dvd_mul (Nat.dvd_of_mod_eq_zero h) with h1 | h1
  · exact a0 (Nat.eq_zero_of_dvd_of_lt h1 ha)
  · exact b0 (Nat.eq_zero_of_dvd_of_lt h1 hb)
end Go.Proofs.YtmlmggmnlgcbcaaGreat


namespace Go.Proofs.YtmlmggmnlgcbcaaGreat
open Go.RowKit
theorem lmul_lt (k u : Nat) : lmulN k u < 256 ^ 32 := p_lt32 _
theorem lmul_nil {k u : Nat} (h : (ladT (u % 2 ^ 255 % pN) (clampN k) 255).b = 0) : lmulN k u = 0 := by
  rw [lmulN, h, Nat.zero_pow (by decide), Nat.zero_mod, Nat.mul_zero, Nat.zero_mod]
theorem lmul_r {k u r : Nat} (hr : Hid (lmulN k u = r)) (hk : k < 256 ^ 32) (hu : u < 256 ^ 32) (w : World) :
    Calls Tryz.prog 21 #[.agg (byts k).toArray, .agg (byts u).toArray] w fun e w' => e = .returned (.agg (byts r).toArray) ∧ Below w.heap.size w w' := by
  rw [← hr.out]; exact lmul_any k u hk hu w
theorem lmul9_r {k r : Nat} (hr : Hid (lmulN k 9 = r)) (hk : k < 256 ^ 32) (w : World) :
    Calls Tryz.prog 21 #[.agg (byts k).toArray, .agg #[.int .u8 9, .int .u8 0, .int .u8 0, .int .u8 0, .int .u8 0, .int .u8 0, .int .u8 0, .int .u8 0, .int .u8 0, .int .u8 0, .int .u8 0, .int .u8 0, .int .u8 0, .int .u8 0, .int .u8 0, .int .u8 0, .int .u8 0, .int .u8 0, .int .u8 0, .int .u8 0, .int .u8 0, .int .u8 0, .int .u8 0, .int .u8 0, .int .u8 0, .int .u8 0, .int .u8 0, .int .u8 0, .int .u8 0, .int .u8 0, .int .u8 0, .int .u8 0]] w fun e w' => e = .returned (.agg (byts r).toArray) ∧ Below w.heap.size w w' := by
  have := lmul_any k 9 hk (by decide) w
  rw [byts_lit 9 (by decide), hr.out] at this
  exact this
set_option maxHeartbeats 2000000 in
set_option maxRecDepth 100000 in
theorem lpublic_r {k r : Nat} (hr : Hid (lmulN k 9 = r)) (hk : k < 256 ^ 32) (w : World) :
    Calls Tryz.prog 7 #[.agg (byts k).toArray] w fun e w' => e = .returned (.agg (byts r).toArray) ∧ Below w.heap.size w w' := by
  have c1 := Lib.hid (fun w => lmul9_r hr hk w)
  go_enter Tryz.func7, Tryz.ntmps7
  go_upto_region 1 with fail
  refine wp_new2 (fun W hsz k1 k2 kb => ?_)
  have k2 : Arr W (w.heap.size + 1) (byts 0) := k2
  clear hsz
  go_upto_region 1 with (first | (refine wpList_load_arr2 rfl _ _ rfl _ rfl (by decide +kernel) _ (by assumption) (by first | (rw [lims_len]; kernel_rfl) | (rw [el_rep]; kernel_rfl) | (rw [el_len]; kernel_rfl) | (rw [byts_len]; kernel_rfl) | (rw [us_len]; kernel_rfl) | (rw [bytn_len]; kernel_rfl) | (rw [ens_len, digs_len]; kernel_rfl) | kernel_rfl) ?_) | (refine wpList_store_arr rfl _ _ _ rfl _ _ rfl rfl _ (by first | assumption | exact Arr.new _ _ _) (by first | (rw [lims_len]; kernel_rfl) | (rw [el_rep]; kernel_rfl) | (rw [el_len]; kernel_rfl) | (rw [byts_len]; kernel_rfl) | (rw [us_len]; kernel_rfl) | (rw [bytn_len]; kernel_rfl) | (rw [ens_len, digs_len]; kernel_rfl) | kernel_rfl) (by first | (rw [lims_len, lims_len]) | (rw [el_rep, el_rep]) | (rw [el_rep, el_len]; rfl) | (rw [el_len, el_rep]; rfl) | (rw [el_len, el_len]; rfl) | (rw [byts_len, byts_len]) | (rw [lims_len]; rfl) | (rw [byts_len]; rfl) | (rw [us_len, us_len]; rfl) | (rw [bytn_len, bytn_len]) | (rw [bytn_len]; rfl) | (rw [ens_len, ens_len, digs_len, digs_len]) | rfl) (by first | exact lims_one _ _ | exact el_one _ | exact byts_one _ | exact us_one _ | exact bytn_one _ _ | exact ens_one _ | (intro v hv; simp at hv; rcases hv with rfl | rfl | rfl | rfl <;> rfl)) ?_))
  go_wp2_with (first | (refine wpList_load_arr2 rfl _ _ rfl _ rfl (by decide +kernel) _ (by assumption) (by first | (rw [lims_len]; kernel_rfl) | (rw [el_rep]; kernel_rfl) | (rw [el_len]; kernel_rfl) | (rw [byts_len]; kernel_rfl) | (rw [us_len]; kernel_rfl) | (rw [bytn_len]; kernel_rfl) | (rw [ens_len, digs_len]; kernel_rfl) | kernel_rfl) ?_) | (refine wpList_store_arr rfl _ _ _ rfl _ _ rfl rfl _ (by first | assumption | exact Arr.new _ _ _) (by first | (rw [lims_len]; kernel_rfl) | (rw [el_rep]; kernel_rfl) | (rw [el_len]; kernel_rfl) | (rw [byts_len]; kernel_rfl) | (rw [us_len]; kernel_rfl) | (rw [bytn_len]; kernel_rfl) | (rw [ens_len, digs_len]; kernel_rfl) | kernel_rfl) (by first | (rw [lims_len, lims_len]) | (rw [el_rep, el_rep]) | (rw [el_rep, el_len]; rfl) | (rw [el_len, el_rep]; rfl) | (rw [el_len, el_len]; rfl) | (rw [byts_len, byts_len]) | (rw [lims_len]; rfl) | (rw [byts_len]; rfl) | (rw [us_len, us_len]; rfl) | (rw [bytn_len, bytn_len]) | (rw [bytn_len]; rfl) | (rw [ens_len, ens_len, digs_len, digs_len]) | rfl) (by first | exact lims_one _ _ | exact el_one _ | exact byts_one _ | exact us_one _ | exact bytn_one _ _ | exact ens_one _ | (intro v hv; simp at hv; rcases hv with rfl | rfl | rfl | rfl <;> rfl)) ?_))
  refine (c1.out _).mono ?_
  rintro e w_1 ⟨rfl, hb_1⟩
  have k2 := k2.below hb_1
  have kb := bel kb hb_1
  clear hb_1
  go_wp2_with (first | (refine wpList_load_arr2 rfl _ _ rfl _ rfl (by decide +kernel) _ (by assumption) (by first | (rw [lims_len]; kernel_rfl) | (rw [el_rep]; kernel_rfl) | (rw [el_len]; kernel_rfl) | (rw [byts_len]; kernel_rfl) | (rw [us_len]; kernel_rfl) | (rw [bytn_len]; kernel_rfl) | (rw [ens_len, digs_len]; kernel_rfl) | kernel_rfl) ?_) | (refine wpList_store_arr rfl _ _ _ rfl _ _ rfl rfl _ (by first | assumption | exact Arr.new _ _ _) (by first | (rw [lims_len]; kernel_rfl) | (rw [el_rep]; kernel_rfl) | (rw [el_len]; kernel_rfl) | (rw [byts_len]; kernel_rfl) | (rw [us_len]; kernel_rfl) | (rw [bytn_len]; kernel_rfl) | (rw [ens_len, digs_len]; kernel_rfl) | kernel_rfl) (by first | (rw [lims_len, lims_len]) | (rw [el_rep, el_rep]) | (rw [el_rep, el_len]; rfl) | (rw [el_len, el_rep]; rfl) | (rw [el_len, el_len]; rfl) | (rw [byts_len, byts_len]) | (rw [lims_len]; rfl) | (rw [byts_len]; rfl) | (rw [us_len, us_len]; rfl) | (rw [bytn_len, bytn_len]) | (rw [bytn_len]; rfl) | (rw [ens_len, ens_len, digs_len, digs_len]) | rfl) (by first | exact lims_one _ _ | exact el_one _ | exact byts_one _ | exact us_one _ | exact bytn_one _ _ | exact ens_one _ | (intro v hv; simp at hv; rcases hv with rfl | rfl | rfl | rfl <;> rfl)) ?_))
  exact bodyPost_ret (results_arr2 Tryz.results7 _ _ _ rfl (by kernel_rfl) _ (by first | assumption | exact Arr.setRow (by assumption) _) (by first | (rw [lims_len]; kernel_rfl) | (rw [el_rep]; kernel_rfl) | (rw [el_len]; kernel_rfl) | (rw [byts_len]; kernel_rfl) | (rw [us_len]; kernel_rfl) | (rw [bytn_len]; kernel_rfl) | (rw [ens_len, digs_len]; kernel_rfl) | kernel_rfl)) rfl ⟨rfl, below_setRow kb (by omega) _⟩
set_option maxHeartbeats 2000000 in
set_option maxRecDepth 100000 in
theorem lshared_r {k u r : Nat} (hr : Hid (lmulN k u = r)) (hk : k < 256 ^ 32) (hu : u < 256 ^ 32) {e0 : Int} (he : e0 = if r = 0 then 21 else 0) (w : World) :
    Calls Tryz.prog 6 #[.agg (byts k).toArray, .agg (byts u).toArray] w fun e w' => e = .returned (.tuple #[.agg (byts r).toArray, .int .i64 e0]) ∧ Below w.heap.size w w' := by
  have c1 := Lib.hid (fun w => lmul_r hr hk hu w)
  have lr : r < 256 ^ 32 := hr.out ▸ lmul_lt k u
  have b0 := Lib.hid byts_0
  by_cases hz : r = 0
  · have q := eq_num0 (b := true) (decide_eq_true hz) lr
    rw [if_pos hz] at he
    subst he
    have hr0 := Lib.hid hz
    clear hz hr
    go_enter Tryz.func6, Tryz.ntmps6
    go_upto_region 1 with fail
    refine wp_new3 (fun W hsz k2 k3 k4 kb => ?_)
    have k4 : Arr W (w.heap.size + 1 + 1) (byts 0) := k4
    clear hsz
    go_upto_region 1 with (first | (refine wpList_load_arr2 rfl _ _ rfl _ rfl (by decide +kernel) _ (by assumption) (by first | (rw [lims_len]; kernel_rfl) | (rw [el_rep]; kernel_rfl) | (rw [el_len]; kernel_rfl) | (rw [byts_len]; kernel_rfl) | (rw [us_len]; kernel_rfl) | (rw [bytn_len]; kernel_rfl) | (rw [ens_len, digs_len]; kernel_rfl) | kernel_rfl) ?_) | (refine wpList_store_arr rfl _ _ _ rfl _ _ rfl rfl _ (by first | assumption | exact Arr.new _ _ _) (by first | (rw [lims_len]; kernel_rfl) | (rw [el_rep]; kernel_rfl) | (rw [el_len]; kernel_rfl) | (rw [byts_len]; kernel_rfl) | (rw [us_len]; kernel_rfl) | (rw [bytn_len]; kernel_rfl) | (rw [ens_len, digs_len]; kernel_rfl) | kernel_rfl) (by first | (rw [lims_len, lims_len]) | (rw [el_rep, el_rep]) | (rw [el_rep, el_len]; rfl) | (rw [el_len, el_rep]; rfl) | (rw [el_len, el_len]; rfl) | (rw [byts_len, byts_len]) | (rw [lims_len]; rfl) | (rw [byts_len]; rfl) | (rw [us_len, us_len]; rfl) | (rw [bytn_len, bytn_len]) | (rw [bytn_len]; rfl) | (rw [ens_len, ens_len, digs_len, digs_len]) | rfl) (by first | exact lims_one _ _ | exact el_one _ | exact byts_one _ | exact us_one _ | exact bytn_one _ _ | exact ens_one _ | (intro v hv; simp at hv; rcases hv with rfl | rfl | rfl | rfl <;> rfl)) ?_))
    go_wp2_with (first | (refine wpList_load_arr2 rfl _ _ rfl _ rfl (by decide +kernel) _ (by assumption) (by first | (rw [lims_len]; kernel_rfl) | (rw [el_rep]; kernel_rfl) | (rw [el_len]; kernel_rfl) | (rw [byts_len]; kernel_rfl) | (rw [us_len]; kernel_rfl) | (rw [bytn_len]; kernel_rfl) | (rw [ens_len, digs_len]; kernel_rfl) | kernel_rfl) ?_) | (refine wpList_store_arr rfl _ _ _ rfl _ _ rfl rfl _ (by first | assumption | exact Arr.new _ _ _) (by first | (rw [lims_len]; kernel_rfl) | (rw [el_rep]; kernel_rfl) | (rw [el_len]; kernel_rfl) | (rw [byts_len]; kernel_rfl) | (rw [us_len]; kernel_rfl) | (rw [bytn_len]; kernel_rfl) | (rw [ens_len, digs_len]; kernel_rfl) | kernel_rfl) (by first | (rw [lims_len, lims_len]) | (rw [el_rep, el_rep]) | (rw [el_rep, el_len]; rfl) | (rw [el_len, el_rep]; rfl) | (rw [el_len, el_len]; rfl) | (rw [byts_len, byts_len]) | (rw [lims_len]; rfl) | (rw [byts_len]; rfl) | (rw [us_len, us_len]; rfl) | (rw [bytn_len, bytn_len]) | (rw [bytn_len]; rfl) | (rw [ens_len, ens_len, digs_len, digs_len]) | rfl) (by first | exact lims_one _ _ | exact el_one _ | exact byts_one _ | exact us_one _ | exact bytn_one _ _ | exact ens_one _ | (intro v hv; simp at hv; rcases hv with rfl | rfl | rfl | rfl <;> rfl)) ?_))
    refine (c1.out _).mono ?_
    rintro e w_2 ⟨rfl, hb_2⟩
    have k2 := k2.below hb_2
    have k3 := k3.below hb_2
    have k4 := k4.below hb_2
    have kb := bel kb hb_2
    clear hb_2
    go_upto_region 2 with (first | (refine wpList_load_arr2 rfl _ _ rfl _ rfl (by decide +kernel) _ (by assumption) (by first | (rw [lims_len]; kernel_rfl) | (rw [el_rep]; kernel_rfl) | (rw [el_len]; kernel_rfl) | (rw [byts_len]; kernel_rfl) | (rw [us_len]; kernel_rfl) | (rw [bytn_len]; kernel_rfl) | (rw [ens_len, digs_len]; kernel_rfl) | kernel_rfl) ?_) | (refine wpList_store_arr rfl _ _ _ rfl _ _ rfl rfl _ (by first | assumption | exact Arr.new _ _ _) (by first | (rw [lims_len]; kernel_rfl) | (rw [el_rep]; kernel_rfl) | (rw [el_len]; kernel_rfl) | (rw [byts_len]; kernel_rfl) | (rw [us_len]; kernel_rfl) | (rw [bytn_len]; kernel_rfl) | (rw [ens_len, digs_len]; kernel_rfl) | kernel_rfl) (by first | (rw [lims_len, lims_len]) | (rw [el_rep, el_rep]) | (rw [el_rep, el_len]; rfl) | (rw [el_len, el_rep]; rfl) | (rw [el_len, el_len]; rfl) | (rw [byts_len, byts_len]) | (rw [lims_len]; rfl) | (rw [byts_len]; rfl) | (rw [us_len, us_len]; rfl) | (rw [bytn_len, bytn_len]) | (rw [bytn_len]; rfl) | (rw [ens_len, ens_len, digs_len, digs_len]) | rfl) (by first | exact lims_one _ _ | exact el_one _ | exact byts_one _ | exact us_one _ | exact bytn_one _ _ | exact ens_one _ | (intro v hv; simp at hv; rcases hv with rfl | rfl | rfl | rfl <;> rfl)) ?_))
    have hg_k6_k2 := k2.lt
    have hg_k6_k3 := k3.lt
    have hg_k6_k4 := k4.lt
    refine code_new (fun w_3 k6 hnew => ?_)
    have k2 := k2.below hnew
    have k3 := k3.below hnew
    have k4 := k4.below hnew
    have kb := bel kb hnew
    clear hnew
    generalize (w_2).heap.size = g_k6 at k6 hg_k6_k2 hg_k6_k3 hg_k6_k4 ⊢
    go_wp2_with (first | (refine wpList_load_arr2 rfl _ _ rfl _ rfl (by decide +kernel) _ (by assumption) (by first | (rw [lims_len]; kernel_rfl) | (rw [el_rep]; kernel_rfl) | (rw [el_len]; kernel_rfl) | (rw [byts_len]; kernel_rfl) | (rw [us_len]; kernel_rfl) | (rw [bytn_len]; kernel_rfl) | (rw [ens_len, digs_len]; kernel_rfl) | kernel_rfl) ?_) | (refine wpList_store_arr rfl _ _ _ rfl _ (byts 0) rfl (by rw [b0.out]; rfl) _ k4 (by rw [byts_len]; kernel_rfl) rfl (byts_one _) ?_))
    exact bodyPost_ret (results_arr_tmp Tryz.results6 _ _ _ _ rfl Tryz.underlying23 rfl _ (k4.setRow _) (by rw [byts_len]; kernel_rfl) _ rfl) rfl ⟨by rw [hr0.out]; rfl, below_setRow kb (by omega) _⟩
  · have q := eq_num0 (b := false) (decide_eq_false hz) lr
    rw [if_neg hz] at he
    subst he
    replace hz := Lib.hid hz
    clear hr
    go_enter Tryz.func6, Tryz.ntmps6
    go_upto_region 1 with fail
    refine wp_new3 (fun W hsz k2 k3 k4 kb => ?_)
    have k4 : Arr W (w.heap.size + 1 + 1) (byts 0) := k4
    clear hsz
    go_upto_region 1 with (first | (refine wpList_load_arr2 rfl _ _ rfl _ rfl (by decide +kernel) _ (by assumption) (by first | (rw [lims_len]; kernel_rfl) | (rw [el_rep]; kernel_rfl) | (rw [el_len]; kernel_rfl) | (rw [byts_len]; kernel_rfl) | (rw [us_len]; kernel_rfl) | (rw [bytn_len]; kernel_rfl) | (rw [ens_len, digs_len]; kernel_rfl) | kernel_rfl) ?_) | (refine wpList_store_arr rfl _ _ _ rfl _ _ rfl rfl _ (by first | assumption | exact Arr.new _ _ _) (by first | (rw [lims_len]; kernel_rfl) | (rw [el_rep]; kernel_rfl) | (rw [el_len]; kernel_rfl) | (rw [byts_len]; kernel_rfl) | (rw [us_len]; kernel_rfl) | (rw [bytn_len]; kernel_rfl) | (rw [ens_len, digs_len]; kernel_rfl) | kernel_rfl) (by first | (rw [lims_len, lims_len]) | (rw [el_rep, el_rep]) | (rw [el_rep, el_len]; rfl) | (rw [el_len, el_rep]; rfl) | (rw [el_len, el_len]; rfl) | (rw [byts_len, byts_len]) | (rw [lims_len]; rfl) | (rw [byts_len]; rfl) | (rw [us_len, us_len]; rfl) | (rw [bytn_len, bytn_len]) | (rw [bytn_len]; rfl) | (rw [ens_len, ens_len, digs_len, digs_len]) | rfl) (by first | exact lims_one _ _ | exact el_one _ | exact byts_one _ | exact us_one _ | exact bytn_one _ _ | exact ens_one _ | (intro v hv; simp at hv; rcases hv with rfl | rfl | rfl | rfl <;> rfl)) ?_))
    go_wp2_with (first | (refine wpList_load_arr2 rfl _ _ rfl _ rfl (by decide +kernel) _ (by assumption) (by first | (rw [lims_len]; kernel_rfl) | (rw [el_rep]; kernel_rfl) | (rw [el_len]; kernel_rfl) | (rw [byts_len]; kernel_rfl) | (rw [us_len]; kernel_rfl) | (rw [bytn_len]; kernel_rfl) | (rw [ens_len, digs_len]; kernel_rfl) | kernel_rfl) ?_) | (refine wpList_store_arr rfl _ _ _ rfl _ _ rfl rfl _ (by first | assumption | exact Arr.new _ _ _) (by first | (rw [lims_len]; kernel_rfl) | (rw [el_rep]; kernel_rfl) | (rw [el_len]; kernel_rfl) | (rw [byts_len]; kernel_rfl) | (rw [us_len]; kernel_rfl) | (rw [bytn_len]; kernel_rfl) | (rw [ens_len, digs_len]; kernel_rfl) | kernel_rfl) (by first | (rw [lims_len, lims_len]) | (rw [el_rep, el_rep]) | (rw [el_rep, el_len]; rfl) | (rw [el_len, el_rep]; rfl) | (rw [el_len, el_len]; rfl) | (rw [byts_len, byts_len]) | (rw [lims_len]; rfl) | (rw [byts_len]; rfl) | (rw [us_len, us_len]; rfl) | (rw [bytn_len, bytn_len]) | (rw [bytn_len]; rfl) | (rw [ens_len, ens_len, digs_len, digs_len]) | rfl) (by first | exact lims_one _ _ | exact el_one _ | exact byts_one _ | exact us_one _ | exact bytn_one _ _ | exact ens_one _ | (intro v hv; simp at hv; rcases hv with rfl | rfl | rfl | rfl <;> rfl)) ?_))
    refine (c1.out _).mono ?_
    rintro e w_4 ⟨rfl, hb_4⟩
    have k2 := k2.below hb_4
    have k3 := k3.below hb_4
    have k4 := k4.below hb_4
    have kb := bel kb hb_4
    clear hb_4
    go_upto_region 2 with (first | (refine wpList_load_arr2 rfl _ _ rfl _ rfl (by decide +kernel) _ (by assumption) (by first | (rw [lims_len]; kernel_rfl) | (rw [el_rep]; kernel_rfl) | (rw [el_len]; kernel_rfl) | (rw [byts_len]; kernel_rfl) | (rw [us_len]; kernel_rfl) | (rw [bytn_len]; kernel_rfl) | (rw [ens_len, digs_len]; kernel_rfl) | kernel_rfl) ?_) | (refine wpList_store_arr rfl _ _ _ rfl _ _ rfl rfl _ (by first | assumption | exact Arr.new _ _ _) (by first | (rw [lims_len]; kernel_rfl) | (rw [el_rep]; kernel_rfl) | (rw [el_len]; kernel_rfl) | (rw [byts_len]; kernel_rfl) | (rw [us_len]; kernel_rfl) | (rw [bytn_len]; kernel_rfl) | (rw [ens_len, digs_len]; kernel_rfl) | kernel_rfl) (by first | (rw [lims_len, lims_len]) | (rw [el_rep, el_rep]) | (rw [el_rep, el_len]; rfl) | (rw [el_len, el_rep]; rfl) | (rw [el_len, el_len]; rfl) | (rw [byts_len, byts_len]) | (rw [lims_len]; rfl) | (rw [byts_len]; rfl) | (rw [us_len, us_len]; rfl) | (rw [bytn_len, bytn_len]) | (rw [bytn_len]; rfl) | (rw [ens_len, ens_len, digs_len, digs_len]) | rfl) (by first | exact lims_one _ _ | exact el_one _ | exact byts_one _ | exact us_one _ | exact bytn_one _ _ | exact ens_one _ | (intro v hv; simp at hv; rcases hv with rfl | rfl | rfl | rfl <;> rfl)) ?_))
    have hg_k6_k2 := k2.lt
    have hg_k6_k3 := k3.lt
    have hg_k6_k4 := k4.lt
    refine code_new (fun w_5 k6 hnew => ?_)
    have k2 := k2.below hnew
    have k3 := k3.below hnew
    have k4 := k4.below hnew
    have kb := bel kb hnew
    clear hnew
    generalize (w_4).heap.size = g_k6 at k6 hg_k6_k2 hg_k6_k3 hg_k6_k4 ⊢
    go_wp2_with (first | (refine wpList_load_arr2 rfl _ _ rfl _ rfl (by decide +kernel) _ (by assumption) (by first | (rw [lims_len]; kernel_rfl) | (rw [el_rep]; kernel_rfl) | (rw [el_len]; kernel_rfl) | (rw [byts_len]; kernel_rfl) | (rw [us_len]; kernel_rfl) | (rw [bytn_len]; kernel_rfl) | (rw [ens_len, digs_len]; kernel_rfl) | kernel_rfl) ?_) | (refine wpList_store_arr rfl _ _ _ rfl _ _ rfl rfl _ (by first | assumption | exact Arr.new _ _ _) (by first | (rw [lims_len]; kernel_rfl) | (rw [el_rep]; kernel_rfl) | (rw [el_len]; kernel_rfl) | (rw [byts_len]; kernel_rfl) | (rw [us_len]; kernel_rfl) | (rw [bytn_len]; kernel_rfl) | (rw [ens_len, digs_len]; kernel_rfl) | kernel_rfl) (by first | (rw [lims_len, lims_len]) | (rw [el_rep, el_rep]) | (rw [el_rep, el_len]; rfl) | (rw [el_len, el_rep]; rfl) | (rw [el_len, el_len]; rfl) | (rw [byts_len, byts_len]) | (rw [lims_len]; rfl) | (rw [byts_len]; rfl) | (rw [us_len, us_len]; rfl) | (rw [bytn_len, bytn_len]) | (rw [bytn_len]; rfl) | (rw [ens_len, ens_len, digs_len, digs_len]) | rfl) (by first | exact lims_one _ _ | exact el_one _ | exact byts_one _ | exact us_one _ | exact bytn_one _ _ | exact ens_one _ | (intro v hv; simp at hv; rcases hv with rfl | rfl | rfl | rfl <;> rfl)) ?_))
    exact bodyPost_ret (results_arr_tmp Tryz.results6 _ _ _ _ rfl Tryz.underlying23 rfl _ (k4.setRow _) (by rw [byts_len]; kernel_rfl) _ rfl) rfl ⟨rfl, below_setRow kb (by omega) _⟩
end Go.Proofs.YtmlmggmnlgcbcaaGreat


namespace Go.Proofs.YtmlmggmnlgcbcaaGreat
namespace Ed
/-- The field and the curve: x²y² = c (y² - x² - 1), where c is no square, but -1 is one. -/
structure Cv (p : Nat) [NeZero p] where
  c : Fin p
  i : Fin p
  h : Fin p
  iv : Fin p → Fin p
  iv_mul : ∀ a, a ≠ 0 → a * iv a = 1
  iv0 : iv 0 = 0
  two : 2 * h = 1
  one : (1 : Fin p) ≠ 0
  ii : i * i = -1
  nsq : ∀ x, x * x ≠ c
  ladder : 121665 * c + 121666 = 0
  nz : (121666 : Fin p) ≠ 0
/-- A point. -/
structure Pt (p : Nat) where
  x : Fin p
  y : Fin p
theorem Pt.ext {p : Nat} : ∀ {P Q : Pt p} (_ : P.x = Q.x) (_ : P.y = Q.y), P = Q
  | ⟨_, _⟩, ⟨_, _⟩, rfl, rfl => rfl
section
variable {p : Nat} [NeZero p]
theorem Cv.zero_div (C : Cv p) {a b : Fin p} (h : a * b = 0) : a = 0 ∨ b = 0 := by
  by_cases ha : a = 0
  · exact .inl ha
  · right
    have := C.iv_mul a ha
    grind -lia -linarith
theorem Cv.mul_ne (C : Cv p) {a b : Fin p} (ha : a ≠ 0) (hb : b ≠ 0) : a * b ≠ 0 := fun h => (C.zero_div h).elim ha hb
theorem Cv.cancel (C : Cv p) {a b d : Fin p} (hd : d ≠ 0) (h : d * a = d * b) : a = b := by
  have := C.iv_mul d hd
  grind -lia -linarith
theorem Cv.sq_ne (C : Cv p) {a : Fin p} (h : a * a = 0) : a = 0 := (C.zero_div h).elim id id
theorem Cv.two_ne (C : Cv p) : (2 : Fin p) ≠ 0 := by
  intro e
  have h1 := C.two
  have h2 := C.one
  grind -lia -linarith
theorem Cv.c_ne (C : Cv p) : C.c ≠ 0 := fun e => C.nsq 0 (by grind -lia -linarith)
theorem Cv.i_ne (C : Cv p) : C.i ≠ 0 := by
  intro e
  have h1 := C.ii
  have h2 := C.one
  grind -lia -linarith
def On (C : Cv p) (P : Pt p) : Prop := P.x * P.x * P.y * P.y = C.c * (P.y * P.y - P.x * P.x - 1)
/-- No square is c times another one, but nought. -/
theorem Cv.no_sq (C : Cv p) {A B : Fin p} (hA : A ≠ 0) (h : A * A = C.c * (B * B)) : False := by
  have hB : B ≠ 0 := by
    intro e
    subst e
    exact hA (C.sq_ne (by grind -lia -linarith))
  have h1 := C.iv_mul B hB
  refine C.nsq (A * C.iv B) ?_
  grind -lia -linarith
theorem Cv.complete (C : Cv p) {P Q : Pt p} (hP : On C P) (hQ : On C Q) (e : Fin p) (he : e * e = 1) (hD : P.x * Q.x * P.y * Q.y = e * C.c) : False := by
  obtain ⟨x1, y1⟩ := P
  obtain ⟨x2, y2⟩ := Q
  simp only [On] at hP hQ hD
  have hc := C.c_ne
  have hi := C.ii
  have hin := C.i_ne
  have hx1 : x1 ≠ 0 := by
    intro h
    refine hc ?_
    grind -lia -linarith
  have hy1 : y1 ≠ 0 := by
    intro h
    refine hc ?_
    grind -lia -linarith
  have hx2 : x2 ≠ 0 := by
    intro h
    refine hc ?_
    grind -lia -linarith
  have k1 : (C.i * x1 * y1 * (C.i * x2 + y2)) * (C.i * x1 * y1 * (C.i * x2 + y2)) = C.c * ((C.i * (C.i * x1 + e * y1)) * (C.i * (C.i * x1 + e * y1))) := by
    refine C.cancel hc ?_
    grind -lia -linarith
  have k2 : (C.i * x1 * y1 * (C.i * x2 - y2)) * (C.i * x1 * y1 * (C.i * x2 - y2)) = C.c * ((C.i * (C.i * x1 - e * y1)) * (C.i * (C.i * x1 - e * y1))) := by
    refine C.cancel hc ?_
    grind -lia -linarith
  have h0 : C.i * x1 * y1 ≠ 0 := C.mul_ne (C.mul_ne hin hx1) hy1
  by_cases h1 : C.i * x2 + y2 = 0
  · by_cases h2 : C.i * x2 - y2 = 0
    · have h3 : 2 * (C.i * x2) = 0 := by grind -lia -linarith
      exact C.mul_ne C.two_ne (C.mul_ne hin hx2) h3
    · exact C.no_sq (C.mul_ne h0 h2) k2
  · exact C.no_sq (C.mul_ne h0 h1) k1
theorem Cv.dp (C : Cv p) {P Q : Pt p} (hP : On C P) (hQ : On C Q) : C.c + P.x * Q.x * P.y * Q.y ≠ 0 := by
  intro h
  refine C.complete hP hQ (-1) (by grind -lia -linarith) (by grind)
theorem Cv.dm (C : Cv p) {P Q : Pt p} (hP : On C P) (hQ : On C Q) : C.c - P.x * Q.x * P.y * Q.y ≠ 0 := by
  intro h
  refine C.complete hP hQ 1 (by grind -lia -linarith) (by grind)
def add (C : Cv p) (P Q : Pt p) : Pt p :=
  ⟨C.c * (P.x * Q.y + Q.x * P.y) * C.iv (C.c + P.x * Q.x * P.y * Q.y), C.c * (P.y * Q.y + P.x * Q.x) * C.iv (C.c - P.x * Q.x * P.y * Q.y)⟩
theorem add_x (C : Cv p) {P Q : Pt p} (hP : On C P) (hQ : On C Q) : (add C P Q).x * (C.c + P.x * Q.x * P.y * Q.y) = C.c * (P.x * Q.y + Q.x * P.y) := by
  have h := C.iv_mul _ (C.dp hP hQ)
  unfold add
  simp only
  grind -lia -linarith
theorem add_y (C : Cv p) {P Q : Pt p} (hP : On C P) (hQ : On C Q) : (add C P Q).y * (C.c - P.x * Q.x * P.y * Q.y) = C.c * (P.y * Q.y + P.x * Q.x) := by
  have h := C.iv_mul _ (C.dm hP hQ)
  unfold add
  simp only
  grind -lia -linarith
theorem add_comm (C : Cv p) (P Q : Pt p) : add C P Q = add C Q P := by
  unfold add
  have e1 : C.c + P.x * Q.x * P.y * Q.y = C.c + Q.x * P.x * Q.y * P.y := by grind -lia -linarith
  have e2 : C.c - P.x * Q.x * P.y * Q.y = C.c - Q.x * P.x * Q.y * P.y := by grind -lia -linarith
  rw [e1, e2]
  congr 1
  · grind
  · grind
theorem on_add (C : Cv p) {P Q : Pt p} (hP : On C P) (hQ : On C Q) : On C (add C P Q) := by
  have hx := add_x C hP hQ
  have hy := add_y C hP hQ
  have ha := C.dp hP hQ
  have hb := C.dm hP hQ
  have hc := C.c_ne
  generalize add C P Q = R at *
  obtain ⟨x1, y1⟩ := P
  obtain ⟨x2, y2⟩ := Q
  obtain ⟨x3, y3⟩ := R
  simp only [On] at *
  refine C.cancel (C.mul_ne (C.mul_ne ha ha) (C.mul_ne hb hb)) ?_
  have e1 : (C.c + x1 * x2 * y1 * y2) * (C.c + x1 * x2 * y1 * y2) * ((C.c - x1 * x2 * y1 * y2) * (C.c - x1 * x2 * y1 * y2)) * (x3 * x3 * y3 * y3) =
      (C.c * (x1 * y2 + x2 * y1)) * (C.c * (x1 * y2 + x2 * y1)) * ((C.c * (y1 * y2 + x1 * x2)) * (C.c * (y1 * y2 + x1 * x2))) := by
    rw [← hx, ← hy]
    grind -lia -linarith
  have e2 : (C.c + x1 * x2 * y1 * y2) * (C.c + x1 * x2 * y1 * y2) * ((C.c - x1 * x2 * y1 * y2) * (C.c - x1 * x2 * y1 * y2)) * (C.c * (y3 * y3 - x3 * x3 - 1)) =
      C.c * ((C.c * (y1 * y2 + x1 * x2)) * (C.c * (y1 * y2 + x1 * x2)) * ((C.c + x1 * x2 * y1 * y2) * (C.c + x1 * x2 * y1 * y2)) - (C.c * (x1 * y2 + x2 * y1)) * (C.c * (x1 * y2 + x2 * y1)) * ((C.c - x1 * x2 * y1 * y2) * (C.c - x1 * x2 * y1 * y2)) - (C.c + x1 * x2 * y1 * y2) * (C.c + x1 * x2 * y1 * y2) * ((C.c - x1 * x2 * y1 * y2) * (C.c - x1 * x2 * y1 * y2))) := by
    rw [← hx, ← hy]
    grind -lia -linarith
  rw [e1, e2]
  clear e1 e2 hx hy ha hb hc
  grind -lia -linarith
theorem assoc_x (c x1 y1 x2 y2 x3 y3 : Fin p)
  (e1 : x1*x1*y1*y1 = c*(y1*y1 - x1*x1 - 1))
  (e2 : x2*x2*y2*y2 = c*(y2*y2 - x2*x2 - 1))
  (e3 : x3*x3*y3*y3 = c*(y3*y3 - x3*x3 - 1)) :
  ((x1*y2+x2*y1)*(c - x1*x2*y1*y2)*y3 + x3*(y1*y2+x1*x2)*(c + x1*x2*y1*y2)) *
   ((c + x2*x3*y2*y3)*(c - x2*x3*y2*y3) + c*(x1*y1*(x2*y3+x3*y2)*(y2*y3+x2*x3)))
  = ((x2*y3+x3*y2)*(c - x2*x3*y2*y3)*y1 + x1*(y2*y3+x2*x3)*(c+x2*x3*y2*y3)) *
   ((c + x1*x2*y1*y2)*(c - x1*x2*y1*y2) + c*(x3*y3*(x1*y2+x2*y1)*(y1*y2+x1*x2))) := by
  grind -lia -linarith
theorem assoc_y (c x1 y1 x2 y2 x3 y3 : Fin p)
  (e1 : x1*x1*y1*y1 = c*(y1*y1 - x1*x1 - 1))
  (e2 : x2*x2*y2*y2 = c*(y2*y2 - x2*x2 - 1))
  (e3 : x3*x3*y3*y3 = c*(y3*y3 - x3*x3 - 1)) :
  ((y1*y2+x1*x2)*(c + x1*x2*y1*y2)*y3 + x3*(x1*y2+x2*y1)*(c - x1*x2*y1*y2)) *
   ((c + x2*x3*y2*y3)*(c - x2*x3*y2*y3) + c*(-(x1*y1*(x2*y3+x3*y2)*(y2*y3+x2*x3))))
  = ((y2*y3+x2*x3)*(c+x2*x3*y2*y3)*y1 + x1*(x2*y3+x3*y2)*(c - x2*x3*y2*y3)) *
   ((c + x1*x2*y1*y2)*(c - x1*x2*y1*y2) + c*(-(x3*y3*(x1*y2+x2*y1)*(y1*y2+x1*x2)))) := by
  grind -lia -linarith
theorem fr (c m nx ny s t X Y : Fin p) (hx : s * (c + m) = c * nx) (hy : t * (c - m) = c * ny) :
    (c + m) * (c - m) * (s * Y + X * t) = c * (nx * (c - m) * Y + X * ny * (c + m)) ∧ (c + m) * (c - m) * (t * Y + s * X) = c * (ny * (c + m) * Y + X * nx * (c - m)) ∧ (c + m) * (c - m) * (s * X * t * Y) = c * (c * (X * Y * nx * ny)) := by
  have e1 : (c + m) * (c - m) * (s * Y + X * t) = (s * (c + m)) * (c - m) * Y + X * (t * (c - m)) * (c + m) := by clear hx hy; grind -lia -linarith
  have e2 : (c + m) * (c - m) * (t * Y + s * X) = (t * (c - m)) * (c + m) * Y + X * (s * (c + m)) * (c - m) := by clear hx hy; grind -lia -linarith
  have e3 : (c + m) * (c - m) * (s * X * t * Y) = (s * (c + m)) * (t * (c - m)) * (X * Y) := by clear hx hy; grind -lia -linarith
  rw [e1, e2, e3, hx, hy]
  clear hx hy e1 e2 e3
  refine ⟨?_, ?_, ?_⟩ <;> grind -lia -linarith
theorem fin_eq (C : Cv p) {c M N sl sr nl nr L1 L3 R1 R3 u v : Fin p} (hc : c ≠ 0) (hM : M ≠ 0) (hN : N ≠ 0) (hl : c + sl ≠ 0) (hr : c + sr ≠ 0) (hu : u * (c + sl) = c * nl) (hv : v * (c + sr) = c * nr)
    (l1 : M * nl = c * L1) (l3 : M * sl = c * (c * L3)) (r1 : N * nr = c * R1) (r3 : N * sr = c * (c * R3)) (h : L1 * (N + c * R3) = R1 * (M + c * L3)) : u = v := by
  have a1 : M * (c + sl) = c * (M + c * L3) := by clear hu hv h r1 r3; grind -lia -linarith
  have a2 : N * (c + sr) = c * (N + c * R3) := by clear hu hv h l1 l3 a1; grind -lia -linarith
  have n1 : M + c * L3 ≠ 0 := fun e => C.mul_ne hM hl (by rw [a1, e]; clear hu hv h l1 l3 r1 r3 a1 a2 e; grind -lia -linarith)
  have n2 : N + c * R3 ≠ 0 := fun e => C.mul_ne hN hr (by rw [a2, e]; clear hu hv h l1 l3 r1 r3 a1 a2 n1 e; grind -lia -linarith)
  have b1 : u * (M + c * L3) = c * L1 := by
    refine C.cancel hc ?_
    have : c * (u * (M + c * L3)) = u * (c * (M + c * L3)) := by clear hu hv h l1 l3 r1 r3 a1 a2 n1 n2; grind -lia -linarith
    rw [this, ← a1, ← l1]
    have : u * (M * (c + sl)) = M * (u * (c + sl)) := by clear hu hv h l1 l3 r1 r3 a1 a2 n1 n2; grind -lia -linarith
    rw [this, hu]
    clear hu hv h l1 l3 r1 r3 a1 a2 n1 n2; grind -lia -linarith
  have b2 : v * (N + c * R3) = c * R1 := by
    refine C.cancel hc ?_
    have : c * (v * (N + c * R3)) = v * (c * (N + c * R3)) := by clear hu hv h l1 l3 r1 r3 a1 a2 n1 n2 b1; grind -lia -linarith
    rw [this, ← a2, ← r1]
    have : v * (N * (c + sr)) = N * (v * (c + sr)) := by clear hu hv h l1 l3 r1 r3 a1 a2 n1 n2 b1; grind -lia -linarith
    rw [this, hv]
    clear hu hv h l1 l3 r1 r3 a1 a2 n1 n2 b1; grind -lia -linarith
  refine C.cancel (C.mul_ne n1 n2) ?_
  have e1 : (M + c * L3) * (N + c * R3) * u = u * (M + c * L3) * (N + c * R3) := by clear hu hv h l1 l3 r1 r3 a1 a2 n1 n2 b1 b2; grind -lia -linarith
  have e2 : (M + c * L3) * (N + c * R3) * v = v * (N + c * R3) * (M + c * L3) := by clear hu hv h l1 l3 r1 r3 a1 a2 n1 n2 b1 b2 e1; grind -lia -linarith
  rw [e1, e2, b1, b2]
  have e3 : c * L1 * (N + c * R3) = c * (L1 * (N + c * R3)) := by clear hu hv h l1 l3 r1 r3 a1 a2 n1 n2 b1 b2 e1 e2; grind -lia -linarith
  rw [e3, h]
  clear hu hv h l1 l3 r1 r3 a1 a2 n1 n2 b1 b2 e1 e2 e3; grind -lia -linarith
theorem neg_form {c M sl L3 : Fin p} : c - sl = c + -sl ∧ (M * sl = c * (c * L3) → M * (-sl) = c * (c * (-L3))) := by
  refine ⟨by grind -lia -linarith, fun h => by grind -lia -linarith⟩
theorem add_assoc (C : Cv p) {P Q R : Pt p} (hP : On C P) (hQ : On C Q) (hR : On C R) : add C (add C P Q) R = add C P (add C Q R) := by
  rw [add_comm C P (add C Q R)]
  have h1 := on_add C hP hQ
  have h2 := on_add C hQ hR
  have hM := C.mul_ne (C.dp hP hQ) (C.dm hP hQ)
  have hN := C.mul_ne (C.dp hQ hR) (C.dm hQ hR)
  obtain ⟨l1, l2, l3⟩ := fr C.c _ _ _ _ _ R.x R.y (add_x C hP hQ) (add_y C hP hQ)
  obtain ⟨r1, r2, r3⟩ := fr C.c _ _ _ _ _ P.x P.y (add_x C hQ hR) (add_y C hQ hR)
  refine Pt.ext ?_ ?_
  · exact fin_eq C C.c_ne hM hN (C.dp h1 hR) (C.dp h2 hP) (add_x C h1 hR) (add_x C h2 hP) l1 l3 r1 r3 (assoc_x C.c P.x P.y Q.x Q.y R.x R.y hP hQ hR)
  · have d1 := C.dm h1 hR
    have d2 := C.dm h2 hP
    have f1 := add_y C h1 hR
    have f2 := add_y C h2 hP
    rw [(neg_form (M := 0) (L3 := 0)).1] at d1 d2 f1 f2
    exact fin_eq C C.c_ne hM hN d1 d2 f1 f2 l2 (neg_form.2 l3) r2 (neg_form.2 r3) (assoc_y C.c P.x P.y Q.x Q.y R.x R.y hP hQ hR)
/-- Nought, and the point that undoes one. -/
def O (p : Nat) [NeZero p] : Pt p := ⟨0, 1⟩
def neg (P : Pt p) : Pt p := ⟨-P.x, P.y⟩
theorem on_O (C : Cv p) : On C (O p) := by simp only [On, O]; grind -lia -linarith
theorem on_neg (C : Cv p) {P : Pt p} (h : On C P) : On C (neg P) := by simp only [On, neg] at *; grind -lia -linarith
theorem add_O (C : Cv p) {P : Pt p} (h : On C P) : add C P (O p) = P := by
  have h1 := C.c_ne
  refine Pt.ext ?_ ?_
  · refine C.cancel h1 ?_
    have := add_x C h (on_O C)
    simp only [O] at *
    grind -lia -linarith
  · refine C.cancel h1 ?_
    have := add_y C h (on_O C)
    simp only [O] at *
    grind -lia -linarith
theorem add_neg (C : Cv p) {P : Pt p} (h : On C P) : add C P (neg P) = O p := by
  have hn := on_neg C h
  refine Pt.ext ?_ ?_
  · refine C.cancel (C.dp h hn) ?_
    have := add_x C h hn
    simp only [O, neg] at *
    grind -lia -linarith
  · refine C.cancel (C.dm h hn) ?_
    have := add_y C h hn
    simp only [O, neg, On] at *
    grind -lia -linarith
/-- So often a point. -/
def mul (C : Cv p) (P : Pt p) : Nat → Pt p
  | 0 => O p
  | n + 1 => add C (mul C P n) P
theorem on_mul (C : Cv p) {P : Pt p} (h : On C P) : ∀ n, On C (mul C P n)
  | 0 => on_O C
  | n + 1 => on_add C (on_mul C h n) h
theorem mul_one (C : Cv p) {P : Pt p} (h : On C P) : mul C P 1 = P := by
  show add C (O p) P = P
  rw [add_comm, add_O C h]
theorem mul_add (C : Cv p) {P : Pt p} (h : On C P) (m : Nat) : ∀ n, mul C P (m + n) = add C (mul C P m) (mul C P n)
  | 0 => (add_O C (on_mul C h m)).symm
  | n + 1 => by
    show add C (mul C P (m + n)) P = add C (mul C P m) (add C (mul C P n) P)
    rw [mul_add C h m n, add_assoc C (on_mul C h m) (on_mul C h n) h]
theorem mul_mul (C : Cv p) {P : Pt p} (h : On C P) (m : Nat) : ∀ n, mul C (mul C P m) n = mul C P (m * n)
  | 0 => rfl
  | n + 1 => by
    show add C (mul C (mul C P m) n) (mul C P m) = _
    rw [mul_mul C h m n, ← mul_add C h, Nat.mul_succ]
/-- The pair (a, b) stands for the point whose y this is. -/
def Rep (a b y : Fin p) : Prop := (a ≠ 0 ∨ b ≠ 0) ∧ a * (1 - y) = b * (1 + y)
theorem Rep.par (C : Cv p) {a b y : Fin p} (h : Rep a b y) : ∃ l, l ≠ 0 ∧ a = l * (1 + y) ∧ b = l * (1 - y) := by
  obtain ⟨h1, h2⟩ := h
  have h3 := C.two
  have e1 : a = C.h * (a + b) * (1 + y) := by clear h1; grind -lia -linarith
  have e2 : b = C.h * (a + b) * (1 - y) := by clear h1 e1; grind -lia -linarith
  refine ⟨C.h * (a + b), fun e => ?_, e1, e2⟩
  rw [e] at e1 e2
  rcases h1 with h1 | h1
  · exact h1 (by clear e2; grind -lia -linarith)
  · exact h1 (by clear e1; grind -lia -linarith)
theorem rep_double (C : Cv p) {a b : Fin p} {P : Pt p} (hP : On C P) (h : Rep a b P.y) :
    Rep ((a + b) * (a + b) * ((a - b) * (a - b))) (((a + b) * (a + b) - (a - b) * (a - b)) * ((a + b) * (a + b) + 121665 * ((a + b) * (a + b) - (a - b) * (a - b)))) (add C P P).y := by
  obtain ⟨l, hl, rfl, rfl⟩ := h.par C
  have h0 := add_y C hP hP
  have h2 := C.two_ne
  have hd := C.dm hP hP
  have hc := C.c_ne
  have hn := C.nz
  have hk := C.ladder
  obtain ⟨x, y⟩ := P
  generalize (add C ⟨x, y⟩ ⟨x, y⟩).y = Y at *
  simp only [On] at *
  have e1 : (l * (1 + y) + l * (1 - y)) * (l * (1 + y) + l * (1 - y)) * ((l * (1 + y) - l * (1 - y)) * (l * (1 + y) - l * (1 - y))) = 16 * (l * l * (l * l)) * (y * y) := by clear hP h0 hd hk; grind -lia -linarith
  have e2 : ((l * (1 + y) + l * (1 - y)) * (l * (1 + y) + l * (1 - y)) - (l * (1 + y) - l * (1 - y)) * (l * (1 + y) - l * (1 - y))) * ((l * (1 + y) + l * (1 - y)) * (l * (1 + y) + l * (1 - y)) + 121665 * ((l * (1 + y) + l * (1 - y)) * (l * (1 + y) + l * (1 - y)) - (l * (1 + y) - l * (1 - y)) * (l * (1 + y) - l * (1 - y)))) =
      16 * (l * l * (l * l)) * ((1 - y * y) * (1 + 121665 * (1 - y * y))) := by clear hP h0 hd hk e1; grind -lia -linarith
  rw [e1, e2]
  clear e1 e2
  have h16 : (16 : Fin p) * (l * l * (l * l)) ≠ 0 := by
    have : (16 : Fin p) = 2 * 2 * (2 * 2) := by grind -lia -linarith
    rw [this]
    exact C.mul_ne (C.mul_ne (C.mul_ne h2 h2) (C.mul_ne h2 h2)) (C.mul_ne (C.mul_ne hl hl) (C.mul_ne hl hl))
  refine ⟨?_, ?_⟩
  · by_cases hy : y = 0
    · right
      subst hy
      have : 16 * (l * l * (l * l)) * ((1 - 0 * 0) * (1 + 121665 * (1 - 0 * 0))) = 16 * (l * l * (l * l)) * 121666 := by clear hP h0 hd hk; grind -lia -linarith
      rw [this]
      exact C.mul_ne h16 hn
    · exact .inl (C.mul_ne h16 (C.mul_ne hy hy))
  · refine C.cancel hd ?_
    have k1 : (C.c - x * x * y * y) * (16 * (l * l * (l * l)) * (y * y) * (1 - Y)) = 16 * (l * l * (l * l)) * ((y * y) * ((C.c - x * x * y * y) - C.c * (y * y + x * x))) := by rw [← h0]; clear hP h0 hd hk; grind -lia -linarith
    have k2 : (C.c - x * x * y * y) * (16 * (l * l * (l * l)) * ((1 - y * y) * (1 + 121665 * (1 - y * y))) * (1 + Y)) = 16 * (l * l * (l * l)) * (((1 - y * y) * (1 + 121665 * (1 - y * y))) * ((C.c - x * x * y * y) + C.c * (y * y + x * x))) := by rw [← h0]; clear hP h0 hd hk k1; grind -lia -linarith
    rw [k1, k2]
    congr 1
    clear k1 k2 h0 hd h16 hl
    refine C.cancel hc ?_
    generalize C.c = c at *
    grind -lia -linarith
theorem diff_poly (c x2 y2 x3 y3 : Fin p) (e2 : x2*x2*y2*y2 = c*(y2*y2 - x2*x2 - 1)) (e3 : x3*x3*y3*y3 = c*(y3*y3 - x3*x3 - 1)) :
    c * ((y2 + y3) * (y2 + y3) * ((c - x2*x3*y2*y3) - c*(y2*y3 + x2*x3)) * ((c + x2*x3*y2*y3) - c*(y2*y3 - x2*x3))) = c * ((y3 - y2) * (y3 - y2) * ((c - x2*x3*y2*y3) + c*(y2*y3 + x2*x3)) * ((c + x2*x3*y2*y3) + c*(y2*y3 - x2*x3))) := by
  grind -lia -linarith
/-- The sum of two points whose difference is known. -/
theorem rep_diff (C : Cv p) {a b c d x y1 : Fin p} {P Q : Pt p} (hP : On C P) (hQ : On C Q) (h1 : Rep a b P.y) (h2 : Rep c d Q.y) (hx : x ≠ 0) (hx1 : x * (1 - y1) = 1 + y1) (hy1 : (add C P (neg Q)).y = y1) :
    Rep ((((c - d) * (a + b)) + ((c + d) * (a - b))) * (((c - d) * (a + b)) + ((c + d) * (a - b)))) (x * ((((c - d) * (a + b)) - ((c + d) * (a - b))) * (((c - d) * (a + b)) - ((c + d) * (a - b))))) (add C P Q).y := by
  obtain ⟨l, hl, rfl, rfl⟩ := h1.par C
  obtain ⟨m, hm, rfl, rfl⟩ := h2.par C
  clear h1 h2
  have h0 := add_y C hP hQ
  have h3 := add_y C hP (on_neg C hQ)
  have hdm := C.dm hP hQ
  have hdp := C.dp hP hQ
  rw [hy1] at h3
  have h2 := C.two_ne
  have hc := C.c_ne
  have h11 := C.one
  obtain ⟨x2, y2⟩ := P
  obtain ⟨x3, y3⟩ := Q
  generalize (add C ⟨x2, y2⟩ ⟨x3, y3⟩).y = Y at *
  simp only [On, neg] at *
  clear hy1
  generalize C.c = k at *
  have hp := diff_poly k x2 y2 x3 y3 hP hQ
  have h3' : y1 * (k + x2 * x3 * y2 * y3) = k * (y2 * y3 - x2 * x3) := by clear hP hQ h0 hp hx1; grind -lia -linarith
  clear h3
  have e1 : (m * (1 + y3) - m * (1 - y3)) * (l * (1 + y2) + l * (1 - y2)) + (m * (1 + y3) + m * (1 - y3)) * (l * (1 + y2) - l * (1 - y2)) = 2 * 2 * (l * m) * (y2 + y3) := by clear hP hQ h0 hp hx1 h3'; grind -lia -linarith
  have e2 : (m * (1 + y3) - m * (1 - y3)) * (l * (1 + y2) + l * (1 - y2)) - (m * (1 + y3) + m * (1 - y3)) * (l * (1 + y2) - l * (1 - y2)) = 2 * 2 * (l * m) * (y3 - y2) := by clear hP hQ h0 hp hx1 h3' e1; grind -lia -linarith
  rw [e1, e2]
  clear e1 e2
  have h4 : (2 : Fin p) * 2 * (l * m) ≠ 0 := C.mul_ne (C.mul_ne h2 h2) (C.mul_ne hl hm)
  generalize (2 : Fin p) * 2 * (l * m) = n at *
  refine ⟨?_, ?_⟩
  · by_cases hs : y2 + y3 = 0
    · by_cases ht : y3 - y2 = 0
      · exfalso
        have hy3 : y3 = 0 := by
          refine C.cancel h2 ?_
          clear hP hQ h0 hp hx1 h3'
          grind -lia -linarith
        have hy2 : y2 = 0 := by
          clear hP hQ h0 hp hx1 h3'
          grind -lia -linarith
        subst hy3 hy2
        have q2 : x2 * x2 = -1 := by
          refine C.cancel hc ?_
          clear hQ h0 hp hx1 h3'
          grind -lia -linarith
        have q3 : x3 * x3 = -1 := by
          refine C.cancel hc ?_
          clear hP h0 hp hx1 h3'
          grind -lia -linarith
        have q1 : y1 = -(x2 * x3) := by
          refine C.cancel hc ?_
          clear hP hQ h0 hp hx1
          grind -lia -linarith
        have q4 : (y1 - 1) * (y1 + 1) = 0 := by
          clear hP hQ h0 hp hx1 h3'
          grind -lia -linarith
        rcases C.zero_div q4 with q | q
        · refine h2 ?_
          clear hP hQ h0 hp h3' q1 q2 q3 q4
          grind -lia -linarith
        · refine C.mul_ne hx h2 ?_
          clear hP hQ h0 hp h3' q1 q2 q3 q4
          grind -lia -linarith
      · right
        exact C.mul_ne hx (C.mul_ne (C.mul_ne h4 ht) (C.mul_ne h4 ht))
    · exact .inl (C.mul_ne (C.mul_ne h4 hs) (C.mul_ne h4 hs))
  · -- y1 ≠ 1
    have hy : 1 - y1 ≠ 0 := by
      intro e
      refine h2 ?_
      clear hP hQ h0 hp h3'
      grind -lia -linarith
    have hp' := C.cancel hc hp
    clear hp hP hQ
    refine C.cancel (C.mul_ne hy (C.mul_ne hdm hdp)) ?_
    have k1 : (1 - y1) * ((k - x2 * x3 * y2 * y3) * (k + x2 * x3 * y2 * y3)) * (n * (y2 + y3) * (n * (y2 + y3)) * (1 - Y)) = n * n * ((y2 + y3) * (y2 + y3) * ((k - x2*x3*y2*y3) - k*(y2*y3 + x2*x3)) * ((k + x2*x3*y2*y3) - k*(y2*y3 - x2*x3))) := by
      rw [← h0, ← h3']
      clear h0 h3' hp' hx1
      grind -lia -linarith
    have k2 : (1 - y1) * ((k - x2 * x3 * y2 * y3) * (k + x2 * x3 * y2 * y3)) * (x * (n * (y3 - y2) * (n * (y3 - y2))) * (1 + Y)) = n * n * ((y3 - y2) * (y3 - y2) * ((k - x2*x3*y2*y3) + k*(y2*y3 + x2*x3)) * ((k + x2*x3*y2*y3) + k*(y2*y3 - x2*x3))) := by
      rw [← h0, ← h3']
      have : (1 - y1) * ((k - x2 * x3 * y2 * y3) * (k + x2 * x3 * y2 * y3)) * (x * (n * (y3 - y2) * (n * (y3 - y2))) * (1 + Y)) = (x * (1 - y1)) * ((k - x2 * x3 * y2 * y3) * (k + x2 * x3 * y2 * y3)) * ((n * (y3 - y2) * (n * (y3 - y2))) * (1 + Y)) := by
        clear h0 h3' hp' hx1 k1
        grind -lia -linarith
      rw [this, hx1]
      clear h0 h3' hp' hx1 k1 this
      grind -lia -linarith
    rw [k1, k2, hp']
/-- The number that stands for a point. -/
def U (C : Cv p) (P : Pt p) : Fin p := (1 + P.y) * C.iv (1 - P.y)
theorem rep_U (C : Cv p) {a b : Fin p} {P : Pt p} (h : Rep a b P.y) : a * C.iv b = U C P := by
  obtain ⟨l, hl, rfl, rfl⟩ := h.par C
  unfold U
  by_cases h1 : 1 - P.y = 0
  · have e : l * (1 - P.y) = 0 := by rw [h1]; clear h1; grind -lia -linarith
    rw [e, h1, C.iv0]
    clear h1 e
    grind -lia -linarith
  · have q1 := C.iv_mul _ h1
    have q2 := C.iv_mul _ (C.mul_ne hl h1)
    refine C.cancel (C.mul_ne hl h1) ?_
    generalize C.iv (l * (1 - P.y)) = i1 at *
    generalize C.iv (1 - P.y) = i2 at *
    have k1 : l * (1 - P.y) * (l * (1 + P.y) * i1) = l * (1 - P.y) * i1 * (l * (1 + P.y)) := by clear q1 q2 h; grind -lia -linarith
    have k2 : l * (1 - P.y) * ((1 + P.y) * i2) = (1 - P.y) * i2 * (l * (1 + P.y)) := by clear q1 q2 h k1; grind -lia -linarith
    rw [k1, k2, q1, q2]
theorem U_flat (C : Cv p) {P : Pt p} (hP : On C P) (h : U C P = 0) : P.x = 0 ∧ P.y * P.y = 1 := by
  have hy : P.y * P.y = 1 := by
    rcases C.zero_div h with e | e
    · have : P.y = -1 := by clear h; grind -lia -linarith
      rw [this]
      clear h e
      grind -lia -linarith
    · have e2 : 1 - P.y = 0 := by
        refine Classical.byContradiction fun hn => ?_
        have := C.iv_mul _ hn
        rw [e] at this
        refine C.one ?_
        clear h e hn
        grind -lia -linarith
      clear h e
      grind -lia -linarith
  refine ⟨?_, hy⟩
  have hk := C.ladder
  have h1 := C.one
  simp only [On] at hP
  have h2 : P.x * P.x * (121665 * (1 + C.c)) = 0 := by
    clear h h1
    grind -lia -linarith
  have h3 : (121665 : Fin p) * (1 + C.c) = -1 := by
    clear h h1 h2 hP hy
    grind -lia -linarith
  rw [h3] at h2
  refine C.sq_ne ?_
  clear h h1 hP hy hk h3
  grind -lia -linarith
theorem flat_U (C : Cv p) {P : Pt p} (h : P.y * P.y = 1) : U C P = 0 := by
  unfold U
  have h0 : (1 + P.y) * (1 - P.y) = 0 := by grind -lia -linarith
  rcases C.zero_div h0 with e | e
  · rw [e]
    clear h h0 e
    grind -lia -linarith
  · rw [e, C.iv0]
    clear h h0 e
    grind -lia -linarith
theorem flat_mul (C : Cv p) {P : Pt p} (hP : On C P) (h : P.x = 0 ∧ P.y * P.y = 1) : ∀ n, (mul C P n).x = 0 ∧ (mul C P n).y * (mul C P n).y = 1
  | 0 => ⟨rfl, by show (1 : Fin p) * 1 = 1; grind -lia -linarith⟩
  | n + 1 => by
    obtain ⟨i1, i2⟩ := flat_mul C hP h n
    have hx := add_x C (on_mul C hP n) hP
    have hy := add_y C (on_mul C hP n) hP
    have hc := C.c_ne
    show (add C (mul C P n) P).x = 0 ∧ (add C (mul C P n) P).y * (add C (mul C P n) P).y = 1
    generalize add C (mul C P n) P = R at *
    generalize mul C P n = T at *
    obtain ⟨h1, h2⟩ := h
    rw [i1, h1] at hx hy
    refine ⟨C.cancel hc ?_, ?_⟩
    · clear hy i2 h2
      grind -lia -linarith
    · have : R.y = T.y * P.y := by
        refine C.cancel hc ?_
        clear hx i2 h2
        grind -lia -linarith
      rw [this]
      clear hx hy this
      grind -lia -linarith
theorem U_nil (C : Cv p) {P : Pt p} (hP : On C P) (h : U C P = 0) (n : Nat) : U C (mul C P n) = 0 := flat_U C (flat_mul C hP (U_flat C hP h) n).2
end
end Ed
end Go.Proofs.YtmlmggmnlgcbcaaGreat

