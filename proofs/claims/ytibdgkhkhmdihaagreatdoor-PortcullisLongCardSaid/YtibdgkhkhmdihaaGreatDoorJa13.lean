import Derived.Test.YtibdgkhkhmdihaaGreatDoorJa12

namespace Go.Proofs.YtibdgkhkhmdihaaGreatDoor
open Go.RowKit
theorem mul38 (c : Nat) (hc : 38 * c < 18446744073709551616) : IntKind.u64.wrap (38 * (c : Int)) = ((38 * c : Nat) : Int) := by rw [IntKind.wrap_u64]; omega
theorem carry_all {a b : Nat} (ha : a < 18446744073709551616 ^ 4) (hb : b < 18446744073709551616 ^ 4) : carry 18446744073709551616 4 a b = (a + b) / 18446744073709551616 ^ 4 := by
  unfold carry
  rw [Nat.mod_eq_of_lt ha, Nat.mod_eq_of_lt hb]
theorem lims_cut (n : Nat) : lims 4 n = lims 4 (n % 18446744073709551616 ^ 4) :=
  lims_mod _ _ ⟨n / 18446744073709551616 ^ 4, (Nat.mod_add_div _ _).symm⟩
/-- Modulo p, 2^256 is 38. -/
theorem mod_38 (n c : Nat) : (n + 18446744073709551616 ^ 4 * c) % pN = (n + 38 * c) % pN := by
  rw [two256_p, Nat.add_mul, show n + (2 * pN * c + 38 * c) = n + 38 * c + pN * (2 * c) by rw [Nat.mul_comm 2 pN, Nat.mul_assoc]; omega, Nat.add_mul_mod_self_left]
theorem limAddS_any (n x : Nat) (hx : x < 18446744073709551616) (w : World) :
    Calls Tryz.prog 224 #[.agg (lims 4 n).toArray, .agg #[.int .u64 (x : Int), .int .u64 0, .int .u64 0, .int .u64 0]] w fun e w' =>
      e = .returned (.tuple #[.agg (lims 4 (n + x)).toArray, .int .u64 (carry 18446744073709551616 4 n x : Nat)]) ∧ Below w.heap.size w w' := by
  rw [← lims_small x hx]
  exact limAdd_any n x w
set_option maxHeartbeats 1000000 in
set_option maxRecDepth 100000 in
theorem fold_any (n c : Nat) (hn : n < 18446744073709551616 ^ 4) (hc : 38 * c < 18446744073709551616) (w : World) :
    Calls Tryz.prog 179 #[.agg (lims 4 n).toArray, .int .u64 c] w fun e w' => e = .returned (.agg (lims 4 ((n + 18446744073709551616 ^ 4 * c) % pN)).toArray) ∧ Below w.heap.size w w' := by
  have h38 := mul38 c hc
  obtain ⟨x, hx⟩ : ∃ x, 38 * c = x := ⟨_, rfl⟩
  obtain ⟨c1, hc1⟩ : ∃ c1, carry 18446744073709551616 4 n x = c1 := ⟨_, rfl⟩
  obtain ⟨n1, hn1⟩ : ∃ n1, (n + x) % 18446744073709551616 ^ 4 = n1 := ⟨_, rfl⟩
  have hxl : x < 18446744073709551616 := hx ▸ hc
  have hx4 : x < 18446744073709551616 ^ 4 := Nat.lt_trans hxl (by decide)
  have hca := carry_all hn hx4
  have hcl : c1 ≤ 1 := hc1 ▸ carry_le _ _ _ _ (by decide)
  have hdm := Nat.mod_add_div (n + x) (18446744073709551616 ^ 4)
  rw [← hca, hc1, hn1] at hdm
  have hn1l : n1 < 18446744073709551616 ^ 4 := hn1 ▸ Nat.mod_lt _ (by decide)
  have e38 : 38 * c1 < 18446744073709551616 := by omega
  have h381 := mul38 c1 e38
  obtain ⟨y, hy⟩ : ∃ y, 38 * c1 = y := ⟨_, rfl⟩
  have hyl : y < 18446744073709551616 := hy ▸ e38
  have hsum : n1 + y < 18446744073709551616 ^ 4 := by omega
  have hmod : (n1 + y) % pN = (n + 18446744073709551616 ^ 4 * c) % pN := by rw [mod_38, hx, ← hdm, mod_38, hy]
  have hl1 : lims 4 (n + x) = lims 4 n1 := by rw [lims_cut, hn1]
  rw [hx] at h38
  rw [hy] at h381
  replace hmod := Lib.hid hmod
  have a1 := fun w => limAddS_any n x hxl w
  rw [hl1, hc1] at a1
  replace a1 := Lib.hid a1
  have a2 := Lib.hid (fun w => limAddS_any n1 y hyl w)
  have a3 := Lib.hid (fun w => lessen_any (n1 + y) hsum w)
  clear hx hc1 hn1 hx4 hca hcl hdm hn1l e38 hy hsum hl1 hc hn
  rw [← hmod.out]
  go_enter Tryz.func179, Tryz.ntmps179
  go_upto_region 1 with fail
  refine wp_new2 (fun W hsz k1 k2 kb => ?_)
  have k2 : Arr W (w.heap.size + 1) (lims 4 0) := k2
  go_wp2_with (first | (refine wpList_load_arr2 rfl _ _ rfl _ rfl (by decide +kernel) _ (by assumption) (by first | (rw [lims_len]; kernel_rfl) | (rw [el_rep]; kernel_rfl) | (rw [el_len]; kernel_rfl) | (rw [byts_len]; kernel_rfl) | (rw [us_len]; kernel_rfl) | (rw [bytn_len]; kernel_rfl) | (rw [ens_len, digs_len]; kernel_rfl) | (rw [ptL_len]; kernel_rfl) | (rw [pcs_len]; kernel_rfl) | kernel_rfl) ?_) | (refine wpList_store_arr rfl _ _ _ rfl _ _ rfl rfl _ (by first | assumption | exact Arr.new _ _ _) (by first | (rw [lims_len]; kernel_rfl) | (rw [el_rep]; kernel_rfl) | (rw [el_len]; kernel_rfl) | (rw [byts_len]; kernel_rfl) | (rw [us_len]; kernel_rfl) | (rw [bytn_len]; kernel_rfl) | (rw [ens_len, digs_len]; kernel_rfl) | (rw [ptL_len]; kernel_rfl) | (rw [pcs_len]; kernel_rfl) | kernel_rfl) (by first | (rw [lims_len, lims_len]) | (rw [el_rep, el_rep]) | (rw [el_rep, el_len]; rfl) | (rw [el_len, el_rep]; rfl) | (rw [el_len, el_len]; rfl) | (rw [byts_len, byts_len]) | (rw [lims_len]; rfl) | (rw [byts_len]; rfl) | (rw [us_len, us_len]; rfl) | (rw [bytn_len, bytn_len]) | (rw [bytn_len]; rfl) | (rw [ptL_len, ptL_len]) | (rw [pcs_len, pcs_len]) | (rw [ptL_len, pcs_len]) | (rw [pcs_len, ptL_len]) | (rw [ens_len, ens_len, digs_len, digs_len]) | rfl) (by first | exact lims_one _ _ | exact el_one _ | exact byts_one _ | exact us_one _ | exact bytn_one _ _ | exact ens_one _ | exact ptL_one _ _ _ _ | exact pcs_one _ | (intro v hv; simp at hv; rcases hv with rfl | rfl | rfl | rfl <;> rfl)) ?_))
  refine (a1.out _).mono ?_
  rintro e w_1 ⟨rfl, hb_1⟩
  have k1 := k1.below hb_1
  have k2 := k2.below hb_1
  have kb := bel kb hb_1
  clear hb_1
  go_upto_region 2 with (first | (refine wpList_load_arr2 rfl _ _ rfl _ rfl (by decide +kernel) _ (by assumption) (by first | (rw [lims_len]; kernel_rfl) | (rw [el_rep]; kernel_rfl) | (rw [el_len]; kernel_rfl) | (rw [byts_len]; kernel_rfl) | (rw [us_len]; kernel_rfl) | (rw [bytn_len]; kernel_rfl) | (rw [ens_len, digs_len]; kernel_rfl) | (rw [ptL_len]; kernel_rfl) | (rw [pcs_len]; kernel_rfl) | kernel_rfl) ?_) | (refine wpList_store_arr rfl _ _ _ rfl _ _ rfl rfl _ (by first | assumption | exact Arr.new _ _ _) (by first | (rw [lims_len]; kernel_rfl) | (rw [el_rep]; kernel_rfl) | (rw [el_len]; kernel_rfl) | (rw [byts_len]; kernel_rfl) | (rw [us_len]; kernel_rfl) | (rw [bytn_len]; kernel_rfl) | (rw [ens_len, digs_len]; kernel_rfl) | (rw [ptL_len]; kernel_rfl) | (rw [pcs_len]; kernel_rfl) | kernel_rfl) (by first | (rw [lims_len, lims_len]) | (rw [el_rep, el_rep]) | (rw [el_rep, el_len]; rfl) | (rw [el_len, el_rep]; rfl) | (rw [el_len, el_len]; rfl) | (rw [byts_len, byts_len]) | (rw [lims_len]; rfl) | (rw [byts_len]; rfl) | (rw [us_len, us_len]; rfl) | (rw [bytn_len, bytn_len]) | (rw [bytn_len]; rfl) | (rw [ptL_len, ptL_len]) | (rw [pcs_len, pcs_len]) | (rw [ptL_len, pcs_len]) | (rw [pcs_len, ptL_len]) | (rw [ens_len, ens_len, digs_len, digs_len]) | rfl) (by first | exact lims_one _ _ | exact el_one _ | exact byts_one _ | exact us_one _ | exact bytn_one _ _ | exact ens_one _ | exact ptL_one _ _ _ _ | exact pcs_one _ | (intro v hv; simp at hv; rcases hv with rfl | rfl | rfl | rfl <;> rfl)) ?_))
  refine code_row k1 (fun w_2 k1 hoth hbel => ?_)
  have k2 := hoth _ _ (by omega) k2
  have kb := hbel _ _ (by omega) kb
  clear hoth hbel
  go_wp2_with (first | (refine wpList_load_arr2 rfl _ _ rfl _ rfl (by decide +kernel) _ (by assumption) (by first | (rw [lims_len]; kernel_rfl) | (rw [el_rep]; kernel_rfl) | (rw [el_len]; kernel_rfl) | (rw [byts_len]; kernel_rfl) | (rw [us_len]; kernel_rfl) | (rw [bytn_len]; kernel_rfl) | (rw [ens_len, digs_len]; kernel_rfl) | (rw [ptL_len]; kernel_rfl) | (rw [pcs_len]; kernel_rfl) | kernel_rfl) ?_) | (refine wpList_store_arr rfl _ _ _ rfl _ _ rfl rfl _ (by first | assumption | exact Arr.new _ _ _) (by first | (rw [lims_len]; kernel_rfl) | (rw [el_rep]; kernel_rfl) | (rw [el_len]; kernel_rfl) | (rw [byts_len]; kernel_rfl) | (rw [us_len]; kernel_rfl) | (rw [bytn_len]; kernel_rfl) | (rw [ens_len, digs_len]; kernel_rfl) | (rw [ptL_len]; kernel_rfl) | (rw [pcs_len]; kernel_rfl) | kernel_rfl) (by first | (rw [lims_len, lims_len]) | (rw [el_rep, el_rep]) | (rw [el_rep, el_len]; rfl) | (rw [el_len, el_rep]; rfl) | (rw [el_len, el_len]; rfl) | (rw [byts_len, byts_len]) | (rw [lims_len]; rfl) | (rw [byts_len]; rfl) | (rw [us_len, us_len]; rfl) | (rw [bytn_len, bytn_len]) | (rw [bytn_len]; rfl) | (rw [ptL_len, ptL_len]) | (rw [pcs_len, pcs_len]) | (rw [ptL_len, pcs_len]) | (rw [pcs_len, ptL_len]) | (rw [ens_len, ens_len, digs_len, digs_len]) | rfl) (by first | exact lims_one _ _ | exact el_one _ | exact byts_one _ | exact us_one _ | exact bytn_one _ _ | exact ens_one _ | exact ptL_one _ _ _ _ | exact pcs_one _ | (intro v hv; simp at hv; rcases hv with rfl | rfl | rfl | rfl <;> rfl)) ?_))
  refine (a2.out _).mono ?_
  rintro e w_3 ⟨rfl, hb_3⟩
  have k1 := k1.below hb_3
  have k2 := k2.below hb_3
  have kb := bel kb hb_3
  clear hb_3
  go_upto_region 3 with (first | (refine wpList_load_arr2 rfl _ _ rfl _ rfl (by decide +kernel) _ (by assumption) (by first | (rw [lims_len]; kernel_rfl) | (rw [el_rep]; kernel_rfl) | (rw [el_len]; kernel_rfl) | (rw [byts_len]; kernel_rfl) | (rw [us_len]; kernel_rfl) | (rw [bytn_len]; kernel_rfl) | (rw [ens_len, digs_len]; kernel_rfl) | (rw [ptL_len]; kernel_rfl) | (rw [pcs_len]; kernel_rfl) | kernel_rfl) ?_) | (refine wpList_store_arr rfl _ _ _ rfl _ _ rfl rfl _ (by first | assumption | exact Arr.new _ _ _) (by first | (rw [lims_len]; kernel_rfl) | (rw [el_rep]; kernel_rfl) | (rw [el_len]; kernel_rfl) | (rw [byts_len]; kernel_rfl) | (rw [us_len]; kernel_rfl) | (rw [bytn_len]; kernel_rfl) | (rw [ens_len, digs_len]; kernel_rfl) | (rw [ptL_len]; kernel_rfl) | (rw [pcs_len]; kernel_rfl) | kernel_rfl) (by first | (rw [lims_len, lims_len]) | (rw [el_rep, el_rep]) | (rw [el_rep, el_len]; rfl) | (rw [el_len, el_rep]; rfl) | (rw [el_len, el_len]; rfl) | (rw [byts_len, byts_len]) | (rw [lims_len]; rfl) | (rw [byts_len]; rfl) | (rw [us_len, us_len]; rfl) | (rw [bytn_len, bytn_len]) | (rw [bytn_len]; rfl) | (rw [ptL_len, ptL_len]) | (rw [pcs_len, pcs_len]) | (rw [ptL_len, pcs_len]) | (rw [pcs_len, ptL_len]) | (rw [ens_len, ens_len, digs_len, digs_len]) | rfl) (by first | exact lims_one _ _ | exact el_one _ | exact byts_one _ | exact us_one _ | exact bytn_one _ _ | exact ens_one _ | exact ptL_one _ _ _ _ | exact pcs_one _ | (intro v hv; simp at hv; rcases hv with rfl | rfl | rfl | rfl <;> rfl)) ?_))
  simp only [Act.put]
  refine code_row k1 (fun w_4 k1 hoth hbel => ?_)
  have k2 := hoth _ _ (by omega) k2
  have kb := hbel _ _ (by omega) kb
  clear hoth hbel
  go_wp2_with (first | (refine wpList_load_arr2 rfl _ _ rfl _ rfl (by decide +kernel) _ (by assumption) (by first | (rw [lims_len]; kernel_rfl) | (rw [el_rep]; kernel_rfl) | (rw [el_len]; kernel_rfl) | (rw [byts_len]; kernel_rfl) | (rw [us_len]; kernel_rfl) | (rw [bytn_len]; kernel_rfl) | (rw [ens_len, digs_len]; kernel_rfl) | (rw [ptL_len]; kernel_rfl) | (rw [pcs_len]; kernel_rfl) | kernel_rfl) ?_) | (refine wpList_store_arr rfl _ _ _ rfl _ _ rfl rfl _ (by first | assumption | exact Arr.new _ _ _) (by first | (rw [lims_len]; kernel_rfl) | (rw [el_rep]; kernel_rfl) | (rw [el_len]; kernel_rfl) | (rw [byts_len]; kernel_rfl) | (rw [us_len]; kernel_rfl) | (rw [bytn_len]; kernel_rfl) | (rw [ens_len, digs_len]; kernel_rfl) | (rw [ptL_len]; kernel_rfl) | (rw [pcs_len]; kernel_rfl) | kernel_rfl) (by first | (rw [lims_len, lims_len]) | (rw [el_rep, el_rep]) | (rw [el_rep, el_len]; rfl) | (rw [el_len, el_rep]; rfl) | (rw [el_len, el_len]; rfl) | (rw [byts_len, byts_len]) | (rw [lims_len]; rfl) | (rw [byts_len]; rfl) | (rw [us_len, us_len]; rfl) | (rw [bytn_len, bytn_len]) | (rw [bytn_len]; rfl) | (rw [ptL_len, ptL_len]) | (rw [pcs_len, pcs_len]) | (rw [ptL_len, pcs_len]) | (rw [pcs_len, ptL_len]) | (rw [ens_len, ens_len, digs_len, digs_len]) | rfl) (by first | exact lims_one _ _ | exact el_one _ | exact byts_one _ | exact us_one _ | exact bytn_one _ _ | exact ens_one _ | exact ptL_one _ _ _ _ | exact pcs_one _ | (intro v hv; simp at hv; rcases hv with rfl | rfl | rfl | rfl <;> rfl)) ?_))
  refine (a3.out _).mono ?_
  rintro e w_5 ⟨rfl, hb_5⟩
  have k2 := k2.below hb_5
  have kb := bel kb hb_5
  clear hb_5
  go_wp2_with (first | (refine wpList_load_arr2 rfl _ _ rfl _ rfl (by decide +kernel) _ (by assumption) (by first | (rw [lims_len]; kernel_rfl) | (rw [el_rep]; kernel_rfl) | (rw [el_len]; kernel_rfl) | (rw [byts_len]; kernel_rfl) | (rw [us_len]; kernel_rfl) | (rw [bytn_len]; kernel_rfl) | (rw [ens_len, digs_len]; kernel_rfl) | (rw [ptL_len]; kernel_rfl) | (rw [pcs_len]; kernel_rfl) | kernel_rfl) ?_) | (refine wpList_store_arr rfl _ _ _ rfl _ _ rfl rfl _ (by first | assumption | exact Arr.new _ _ _) (by first | (rw [lims_len]; kernel_rfl) | (rw [el_rep]; kernel_rfl) | (rw [el_len]; kernel_rfl) | (rw [byts_len]; kernel_rfl) | (rw [us_len]; kernel_rfl) | (rw [bytn_len]; kernel_rfl) | (rw [ens_len, digs_len]; kernel_rfl) | (rw [ptL_len]; kernel_rfl) | (rw [pcs_len]; kernel_rfl) | kernel_rfl) (by first | (rw [lims_len, lims_len]) | (rw [el_rep, el_rep]) | (rw [el_rep, el_len]; rfl) | (rw [el_len, el_rep]; rfl) | (rw [el_len, el_len]; rfl) | (rw [byts_len, byts_len]) | (rw [lims_len]; rfl) | (rw [byts_len]; rfl) | (rw [us_len, us_len]; rfl) | (rw [bytn_len, bytn_len]) | (rw [bytn_len]; rfl) | (rw [ptL_len, ptL_len]) | (rw [pcs_len, pcs_len]) | (rw [ptL_len, pcs_len]) | (rw [pcs_len, ptL_len]) | (rw [ens_len, ens_len, digs_len, digs_len]) | rfl) (by first | exact lims_one _ _ | exact el_one _ | exact byts_one _ | exact us_one _ | exact bytn_one _ _ | exact ens_one _ | exact ptL_one _ _ _ _ | exact pcs_one _ | (intro v hv; simp at hv; rcases hv with rfl | rfl | rfl | rfl <;> rfl)) ?_))
  exact bodyPost_ret (results_arr2 Tryz.results179 _ _ _ rfl (by kernel_rfl) _ (by first | assumption | exact Arr.setRow (by assumption) _) (by first | (rw [lims_len]; kernel_rfl) | (rw [el_rep]; kernel_rfl) | (rw [el_len]; kernel_rfl) | (rw [byts_len]; kernel_rfl) | (rw [us_len]; kernel_rfl) | (rw [bytn_len]; kernel_rfl) | (rw [ens_len, digs_len]; kernel_rfl) | (rw [ptL_len]; kernel_rfl) | (rw [pcs_len]; kernel_rfl) | kernel_rfl)) rfl ⟨rfl, below_setRow kb (by omega) _⟩
set_option maxHeartbeats 1000000 in
set_option maxRecDepth 100000 in
theorem plus_any (a b : Nat) (ha : a < 18446744073709551616 ^ 4) (hb : b < 18446744073709551616 ^ 4) (w : World) :
    Calls Tryz.prog 182 #[.agg (lims 4 a).toArray, .agg (lims 4 b).toArray] w fun e w' => e = .returned (.agg (lims 4 ((a + b) % pN)).toArray) ∧ Below w.heap.size w w' := by
  have hca := carry_all ha hb
  obtain ⟨c, hc⟩ : ∃ c, carry 18446744073709551616 4 a b = c := ⟨_, rfl⟩
  obtain ⟨n, hn⟩ : ∃ n, (a + b) % 18446744073709551616 ^ 4 = n := ⟨_, rfl⟩
  have hcl : c ≤ 1 := hc ▸ carry_le _ _ _ _ (by decide)
  have hdm := Nat.mod_add_div (a + b) (18446744073709551616 ^ 4)
  rw [← hca, hc, hn] at hdm
  have hnl : n < 18446744073709551616 ^ 4 := hn ▸ Nat.mod_lt _ (by decide)
  have hl : lims 4 (a + b) = lims 4 n := by rw [lims_cut, hn]
  have a1 := fun w => limAdd_any a b w
  rw [hl, hc] at a1
  replace a1 := Lib.hid a1
  have a2 := fun w => fold_any n c hnl (by omega) w
  rw [hdm] at a2
  replace a2 := Lib.hid a2
  clear hca hc hn hcl hdm hnl hl ha hb
  go_enter Tryz.func182, Tryz.ntmps182
  go_upto_region 1 with fail
  refine wp_new3 (fun W hsz k1 k2 k3 kb => ?_)
  have k3 : Arr W (w.heap.size + 1 + 1) (lims 4 0) := k3
  go_wp2_with (first | (refine wpList_load_arr2 rfl _ _ rfl _ rfl (by decide +kernel) _ (by assumption) (by first | (rw [lims_len]; kernel_rfl) | (rw [el_rep]; kernel_rfl) | (rw [el_len]; kernel_rfl) | (rw [byts_len]; kernel_rfl) | (rw [us_len]; kernel_rfl) | (rw [bytn_len]; kernel_rfl) | (rw [ens_len, digs_len]; kernel_rfl) | (rw [ptL_len]; kernel_rfl) | (rw [pcs_len]; kernel_rfl) | kernel_rfl) ?_) | (refine wpList_store_arr rfl _ _ _ rfl _ _ rfl rfl _ (by first | assumption | exact Arr.new _ _ _) (by first | (rw [lims_len]; kernel_rfl) | (rw [el_rep]; kernel_rfl) | (rw [el_len]; kernel_rfl) | (rw [byts_len]; kernel_rfl) | (rw [us_len]; kernel_rfl) | (rw [bytn_len]; kernel_rfl) | (rw [ens_len, digs_len]; kernel_rfl) | (rw [ptL_len]; kernel_rfl) | (rw [pcs_len]; kernel_rfl) | kernel_rfl) (by first | (rw [lims_len, lims_len]) | (rw [el_rep, el_rep]) | (rw [el_rep, el_len]; rfl) | (rw [el_len, el_rep]; rfl) | (rw [el_len, el_len]; rfl) | (rw [byts_len, byts_len]) | (rw [lims_len]; rfl) | (rw [byts_len]; rfl) | (rw [us_len, us_len]; rfl) | (rw [bytn_len, bytn_len]) | (rw [bytn_len]; rfl) | (rw [ptL_len, ptL_len]) | (rw [pcs_len, pcs_len]) | (rw [ptL_len, pcs_len]) | (rw [pcs_len, ptL_len]) | (rw [ens_len, ens_len, digs_len, digs_len]) | rfl) (by first | exact lims_one _ _ | exact el_one _ | exact byts_one _ | exact us_one _ | exact bytn_one _ _ | exact ens_one _ | exact ptL_one _ _ _ _ | exact pcs_one _ | (intro v hv; simp at hv; rcases hv with rfl | rfl | rfl | rfl <;> rfl)) ?_))
  refine (a1.out _).mono ?_
  rintro e w_6 ⟨rfl, hb_6⟩
  have k3 := k3.below hb_6
  have kb := bel kb hb_6
  clear hb_6
  go_upto_region 2 with (first | (refine wpList_load_arr2 rfl _ _ rfl _ rfl (by decide +kernel) _ (by assumption) (by first | (rw [lims_len]; kernel_rfl) | (rw [el_rep]; kernel_rfl) | (rw [el_len]; kernel_rfl) | (rw [byts_len]; kernel_rfl) | (rw [us_len]; kernel_rfl) | (rw [bytn_len]; kernel_rfl) | (rw [ens_len, digs_len]; kernel_rfl) | (rw [ptL_len]; kernel_rfl) | (rw [pcs_len]; kernel_rfl) | kernel_rfl) ?_) | (refine wpList_store_arr rfl _ _ _ rfl _ _ rfl rfl _ (by first | assumption | exact Arr.new _ _ _) (by first | (rw [lims_len]; kernel_rfl) | (rw [el_rep]; kernel_rfl) | (rw [el_len]; kernel_rfl) | (rw [byts_len]; kernel_rfl) | (rw [us_len]; kernel_rfl) | (rw [bytn_len]; kernel_rfl) | (rw [ens_len, digs_len]; kernel_rfl) | (rw [ptL_len]; kernel_rfl) | (rw [pcs_len]; kernel_rfl) | kernel_rfl) (by first | (rw [lims_len, lims_len]) | (rw [el_rep, el_rep]) | (rw [el_rep, el_len]; rfl) | (rw [el_len, el_rep]; rfl) | (rw [el_len, el_len]; rfl) | (rw [byts_len, byts_len]) | (rw [lims_len]; rfl) | (rw [byts_len]; rfl) | (rw [us_len, us_len]; rfl) | (rw [bytn_len, bytn_len]) | (rw [bytn_len]; rfl) | (rw [ptL_len, ptL_len]) | (rw [pcs_len, pcs_len]) | (rw [ptL_len, pcs_len]) | (rw [pcs_len, ptL_len]) | (rw [ens_len, ens_len, digs_len, digs_len]) | rfl) (by first | exact lims_one _ _ | exact el_one _ | exact byts_one _ | exact us_one _ | exact bytn_one _ _ | exact ens_one _ | exact ptL_one _ _ _ _ | exact pcs_one _ | (intro v hv; simp at hv; rcases hv with rfl | rfl | rfl | rfl <;> rfl)) ?_))
  refine code_new (fun w9 k4 hb9 => ?_)
  have k3 := k3.below hb9
  have kb := bel kb hb9
  clear hb9 k1 k2
  go_wp2_with (first | (refine wpList_load_arr2 rfl _ _ rfl _ rfl (by decide +kernel) _ (by assumption) (by first | (rw [lims_len]; kernel_rfl) | (rw [el_rep]; kernel_rfl) | (rw [el_len]; kernel_rfl) | (rw [byts_len]; kernel_rfl) | (rw [us_len]; kernel_rfl) | (rw [bytn_len]; kernel_rfl) | (rw [ens_len, digs_len]; kernel_rfl) | (rw [ptL_len]; kernel_rfl) | (rw [pcs_len]; kernel_rfl) | kernel_rfl) ?_) | (refine wpList_store_arr rfl _ _ _ rfl _ _ rfl rfl _ (by first | assumption | exact Arr.new _ _ _) (by first | (rw [lims_len]; kernel_rfl) | (rw [el_rep]; kernel_rfl) | (rw [el_len]; kernel_rfl) | (rw [byts_len]; kernel_rfl) | (rw [us_len]; kernel_rfl) | (rw [bytn_len]; kernel_rfl) | (rw [ens_len, digs_len]; kernel_rfl) | (rw [ptL_len]; kernel_rfl) | (rw [pcs_len]; kernel_rfl) | kernel_rfl) (by first | (rw [lims_len, lims_len]) | (rw [el_rep, el_rep]) | (rw [el_rep, el_len]; rfl) | (rw [el_len, el_rep]; rfl) | (rw [el_len, el_len]; rfl) | (rw [byts_len, byts_len]) | (rw [lims_len]; rfl) | (rw [byts_len]; rfl) | (rw [us_len, us_len]; rfl) | (rw [bytn_len, bytn_len]) | (rw [bytn_len]; rfl) | (rw [ptL_len, ptL_len]) | (rw [pcs_len, pcs_len]) | (rw [ptL_len, pcs_len]) | (rw [pcs_len, ptL_len]) | (rw [ens_len, ens_len, digs_len, digs_len]) | rfl) (by first | exact lims_one _ _ | exact el_one _ | exact byts_one _ | exact us_one _ | exact bytn_one _ _ | exact ens_one _ | exact ptL_one _ _ _ _ | exact pcs_one _ | (intro v hv; simp at hv; rcases hv with rfl | rfl | rfl | rfl <;> rfl)) ?_))
  refine (a2.out _).mono ?_
  rintro e w_7 ⟨rfl, hb_7⟩
  have k3 := k3.below hb_7
  have kb := bel kb hb_7
  clear hb_7
  go_wp2_with (first | (refine wpList_load_arr2 rfl _ _ rfl _ rfl (by decide +kernel) _ (by assumption) (by first | (rw [lims_len]; kernel_rfl) | (rw [el_rep]; kernel_rfl) | (rw [el_len]; kernel_rfl) | (rw [byts_len]; kernel_rfl) | (rw [us_len]; kernel_rfl) | (rw [bytn_len]; kernel_rfl) | (rw [ens_len, digs_len]; kernel_rfl) | (rw [ptL_len]; kernel_rfl) | (rw [pcs_len]; kernel_rfl) | kernel_rfl) ?_) | (refine wpList_store_arr rfl _ _ _ rfl _ _ rfl rfl _ (by first | assumption | exact Arr.new _ _ _) (by first | (rw [lims_len]; kernel_rfl) | (rw [el_rep]; kernel_rfl) | (rw [el_len]; kernel_rfl) | (rw [byts_len]; kernel_rfl) | (rw [us_len]; kernel_rfl) | (rw [bytn_len]; kernel_rfl) | (rw [ens_len, digs_len]; kernel_rfl) | (rw [ptL_len]; kernel_rfl) | (rw [pcs_len]; kernel_rfl) | kernel_rfl) (by first | (rw [lims_len, lims_len]) | (rw [el_rep, el_rep]) | (rw [el_rep, el_len]; rfl) | (rw [el_len, el_rep]; rfl) | (rw [el_len, el_len]; rfl) | (rw [byts_len, byts_len]) | (rw [lims_len]; rfl) | (rw [byts_len]; rfl) | (rw [us_len, us_len]; rfl) | (rw [bytn_len, bytn_len]) | (rw [bytn_len]; rfl) | (rw [ptL_len, ptL_len]) | (rw [pcs_len, pcs_len]) | (rw [ptL_len, pcs_len]) | (rw [pcs_len, ptL_len]) | (rw [ens_len, ens_len, digs_len, digs_len]) | rfl) (by first | exact lims_one _ _ | exact el_one _ | exact byts_one _ | exact us_one _ | exact bytn_one _ _ | exact ens_one _ | exact ptL_one _ _ _ _ | exact pcs_one _ | (intro v hv; simp at hv; rcases hv with rfl | rfl | rfl | rfl <;> rfl)) ?_))
  exact bodyPost_ret (results_arr2 Tryz.results182 _ _ _ rfl (by kernel_rfl) _ (by first | assumption | exact Arr.setRow (by assumption) _) (by first | (rw [lims_len]; kernel_rfl) | (rw [el_rep]; kernel_rfl) | (rw [el_len]; kernel_rfl) | (rw [byts_len]; kernel_rfl) | (rw [us_len]; kernel_rfl) | (rw [bytn_len]; kernel_rfl) | (rw [ens_len, digs_len]; kernel_rfl) | (rw [ptL_len]; kernel_rfl) | (rw [pcs_len]; kernel_rfl) | kernel_rfl)) rfl ⟨rfl, below_setRow kb (by omega) _⟩
set_option maxHeartbeats 1000000 in
set_option maxRecDepth 100000 in
theorem minus_any (a b : Nat) (ha : a < pN) (hb : b < pN) (w : World) :
    Calls Tryz.prog 181 #[.agg (lims 4 a).toArray, .agg (lims 4 b).toArray] w fun e w' => e = .returned (.agg (lims 4 ((a + pN - b) % pN)).toArray) ∧ Below w.heap.size w w' := by
  have hp4 : 2 * pN < 18446744073709551616 ^ 4 := by decide
  have hbo := borrow_all (a := a) (b := b) (by omega) (by omega)
  have a1 := limSub_any a b (by omega)
  rw [hbo] at a1
  by_cases hlt : a < b
  · rw [if_pos hlt] at a1
    have hl : lims 4 (a + 18446744073709551616 ^ 4 - b + pN) = lims 4 ((a + pN - b) % pN) := by
      rw [Nat.mod_eq_of_lt (by omega)]
      exact lims_mod _ _ ⟨1, by omega⟩
    have a2 := fun w => limAdd_any (a + 18446744073709551616 ^ 4 - b) pN w
    rw [hl] at a2
    obtain ⟨s, hs⟩ : ∃ s, a + 18446744073709551616 ^ 4 - b = s := ⟨_, rfl⟩
    rw [hs] at a1 a2
    replace a1 := Lib.hid a1
    replace a2 := Lib.hid a2
    clear hbo hlt hl hs ha hb hp4
    go_enter Tryz.func181, Tryz.ntmps181
    go_upto_region 1 with fail
    refine wp_new3 (fun W hsz k1 k2 k3 kb => ?_)
    have k3 : Arr W (w.heap.size + 1 + 1) (lims 4 0) := k3
    go_wp2_with (first | (refine wpList_load_arr2 rfl _ _ rfl _ rfl (by decide +kernel) _ (by assumption) (by first | (rw [lims_len]; kernel_rfl) | (rw [el_rep]; kernel_rfl) | (rw [el_len]; kernel_rfl) | (rw [byts_len]; kernel_rfl) | (rw [us_len]; kernel_rfl) | (rw [bytn_len]; kernel_rfl) | (rw [ens_len, digs_len]; kernel_rfl) | (rw [ptL_len]; kernel_rfl) | (rw [pcs_len]; kernel_rfl) | kernel_rfl) ?_) | (refine wpList_store_arr rfl _ _ _ rfl _ _ rfl rfl _ (by first | assumption | exact Arr.new _ _ _) (by first | (rw [lims_len]; kernel_rfl) | (rw [el_rep]; kernel_rfl) | (rw [el_len]; kernel_rfl) | (rw [byts_len]; kernel_rfl) | (rw [us_len]; kernel_rfl) | (rw [bytn_len]; kernel_rfl) | (rw [ens_len, digs_len]; kernel_rfl) | (rw [ptL_len]; kernel_rfl) | (rw [pcs_len]; kernel_rfl) | kernel_rfl) (by first | (rw [lims_len, lims_len]) | (rw [el_rep, el_rep]) | (rw [el_rep, el_len]; rfl) | (rw [el_len, el_rep]; rfl) | (rw [el_len, el_len]; rfl) | (rw [byts_len, byts_len]) | (rw [lims_len]; rfl) | (rw [byts_len]; rfl) | (rw [us_len, us_len]; rfl) | (rw [bytn_len, bytn_len]) | (rw [bytn_len]; rfl) | (rw [ptL_len, ptL_len]) | (rw [pcs_len, pcs_len]) | (rw [ptL_len, pcs_len]) | (rw [pcs_len, ptL_len]) | (rw [ens_len, ens_len, digs_len, digs_len]) | rfl) (by first | exact lims_one _ _ | exact el_one _ | exact byts_one _ | exact us_one _ | exact bytn_one _ _ | exact ens_one _ | exact ptL_one _ _ _ _ | exact pcs_one _ | (intro v hv; simp at hv; rcases hv with rfl | rfl | rfl | rfl <;> rfl)) ?_))
    refine (a1.out _).mono ?_
    rintro e w_8 ⟨rfl, hb_8⟩
    have k3 := k3.below hb_8
    have kb := bel kb hb_8
    clear hb_8
    go_upto_region 2 with (first | (refine wpList_load_arr2 rfl _ _ rfl _ rfl (by decide +kernel) _ (by assumption) (by first | (rw [lims_len]; kernel_rfl) | (rw [el_rep]; kernel_rfl) | (rw [el_len]; kernel_rfl) | (rw [byts_len]; kernel_rfl) | (rw [us_len]; kernel_rfl) | (rw [bytn_len]; kernel_rfl) | (rw [ens_len, digs_len]; kernel_rfl) | (rw [ptL_len]; kernel_rfl) | (rw [pcs_len]; kernel_rfl) | kernel_rfl) ?_) | (refine wpList_store_arr rfl _ _ _ rfl _ _ rfl rfl _ (by first | assumption | exact Arr.new _ _ _) (by first | (rw [lims_len]; kernel_rfl) | (rw [el_rep]; kernel_rfl) | (rw [el_len]; kernel_rfl) | (rw [byts_len]; kernel_rfl) | (rw [us_len]; kernel_rfl) | (rw [bytn_len]; kernel_rfl) | (rw [ens_len, digs_len]; kernel_rfl) | (rw [ptL_len]; kernel_rfl) | (rw [pcs_len]; kernel_rfl) | kernel_rfl) (by first | (rw [lims_len, lims_len]) | (rw [el_rep, el_rep]) | (rw [el_rep, el_len]; rfl) | (rw [el_len, el_rep]; rfl) | (rw [el_len, el_len]; rfl) | (rw [byts_len, byts_len]) | (rw [lims_len]; rfl) | (rw [byts_len]; rfl) | (rw [us_len, us_len]; rfl) | (rw [bytn_len, bytn_len]) | (rw [bytn_len]; rfl) | (rw [ptL_len, ptL_len]) | (rw [pcs_len, pcs_len]) | (rw [ptL_len, pcs_len]) | (rw [pcs_len, ptL_len]) | (rw [ens_len, ens_len, digs_len, digs_len]) | rfl) (by first | exact lims_one _ _ | exact el_one _ | exact byts_one _ | exact us_one _ | exact bytn_one _ _ | exact ens_one _ | exact ptL_one _ _ _ _ | exact pcs_one _ | (intro v hv; simp at hv; rcases hv with rfl | rfl | rfl | rfl <;> rfl)) ?_))
    refine code_new (fun w9 k4 hb9 => ?_)
    have hg4 := k3.lt
    have k3 := k3.below hb9
    have kb := bel kb hb9
    clear hb9 k1 k2
    go_upto_region 3 with fail
    refine Tx.start (fun w' => Below (w9).heap.size (w9) w') 6 7 rfl (by kernel_rfl) ?_
    have hS_9 : Below (w9).heap.size (w9) (World.drew w9) := (Below.refl _ _).drew
    refine Tx.seg (A := ?_) 6 1 (by kernel_rfl) (by exact hS_9) [0] (by kernel_rfl) ?_ ?_
    rotate_left
    · intro w' hB
      have e1 := k4.below hB
      iterate 1 (first | (refine rd_skip rfl rfl ?_; simp only [Act.put, List.setIfInBounds_toArray, List.set_cons_zero, List.set_cons_succ]) | (refine rd_load_arr rfl rfl _ _ rfl _ rfl (by decide +kernel) _ (by assumption) (by first | (rw [lims_len]; kernel_rfl) | (rw [el_rep]; kernel_rfl) | (rw [el_len]; kernel_rfl) | (rw [byts_len]; kernel_rfl) | (rw [us_len]; kernel_rfl) | (rw [bytn_len]; kernel_rfl) | (rw [ens_len, digs_len]; kernel_rfl) | (rw [ptL_len]; kernel_rfl) | (rw [pcs_len]; kernel_rfl) | kernel_rfl) ?_; simp only [Act.put, List.setIfInBounds_toArray, List.set_cons_zero, List.set_cons_succ]) | (refine rd_take (v := ?_) rfl rfl ?_ ?_; rotate_left; (focus (go_simp; try (with_reducible rfl))); simp only [Act.put, List.setIfInBounds_toArray, List.set_cons_zero, List.set_cons_succ]))
      exact rd_nil
    refine Tx.eff 1 3 rfl (by decide +kernel) (fun K hK => ?_)
    go_simp
    refine (prime_any _).mono ?_
    rintro e w_10 ⟨rfl, hb_10⟩
    have hS_10 := ext_trans hS_9 (Nat.le_refl _) hb_10
    refine hK (fun w' => Below (w9).heap.size (w9) w') _ _ hS_10 (fun _ h => h) ?_
    clear hK K hb_10 hS_9
    try simp only [Act.put, List.setIfInBounds_toArray, List.set_cons_zero, List.set_cons_succ]
    refine Tx.eff 2 7 rfl (by decide +kernel) (fun K hK => ?_)
    go_simp
    refine (a2.out _).mono ?_
    rintro e w_11 ⟨rfl, hb_11⟩
    have hS_11 := ext_trans hS_10 (Nat.le_refl _) hb_11
    refine hK (fun w' => Below (w9).heap.size (w9) w') _ _ hS_11 (fun _ h => h) ?_
    clear hK K hb_11 hS_10
    try simp only [Act.put, List.setIfInBounds_toArray, List.set_cons_zero, List.set_cons_succ]
    refine Tx.pure (A := ?_) 1 63 (by kernel_rfl) (by exact hS_11) [3, 4, 5] (by kernel_rfl) ?_ ?_
    rotate_left
    · intro w'
      iterate 3 (first | (refine rd_skip rfl rfl ?_; simp only [Act.put, List.setIfInBounds_toArray, List.set_cons_zero, List.set_cons_succ]) | (refine rd_take (v := ?_) rfl rfl ?_ ?_; rotate_left; (focus (go_simp; try (with_reducible rfl))); simp only [Act.put, List.setIfInBounds_toArray, List.set_cons_zero, List.set_cons_succ]))
      exact rd_nil
    have k4 := k4.below hS_11
    have k3 := k3.below hS_11
    have kb := bel kb hS_11
    refine Tx.bar 127 rfl (by decide +kernel) (fun K hK => ?_)
    refine step_store_arr rfl _ _ _ rfl _ _ rfl rfl _ (by assumption) (by first | (rw [lims_len]; kernel_rfl) | (rw [el_rep]; kernel_rfl) | (rw [el_len]; kernel_rfl) | (rw [byts_len]; kernel_rfl) | (rw [us_len]; kernel_rfl) | (rw [bytn_len]; kernel_rfl) | (rw [ens_len, digs_len]; kernel_rfl) | (rw [ptL_len]; kernel_rfl) | (rw [pcs_len]; kernel_rfl) | kernel_rfl) (by first | (rw [lims_len, lims_len]) | (rw [el_rep, el_rep]) | (rw [el_rep, el_len]; rfl) | (rw [el_len, el_rep]; rfl) | (rw [el_len, el_len]; rfl) | (rw [byts_len, byts_len]) | (rw [lims_len]; rfl) | (rw [byts_len]; rfl) | (rw [us_len, us_len]; rfl) | (rw [bytn_len, bytn_len]) | (rw [bytn_len]; rfl) | (rw [ptL_len, ptL_len]) | (rw [pcs_len, pcs_len]) | (rw [ptL_len, pcs_len]) | (rw [pcs_len, ptL_len]) | (rw [ens_len, ens_len, digs_len, digs_len]) | rfl) (by first | exact lims_one _ _ | exact el_one _ | exact byts_one _ | exact us_one _ | exact bytn_one _ _ | exact ens_one _ | exact ptL_one _ _ _ _ | exact pcs_one _ | (intro v hv; simp at hv; rcases hv with rfl | rfl | rfl | rfl <;> rfl)) ?_
    refine hK (fun _ => True) 9999 _ _ ?_
    clear hK K
    try simp only [Act.put]
    try simp only [List.setIfInBounds_toArray, List.set_cons_zero, List.set_cons_succ]
    refine Tx.done (by kernel_rfl) ?_
    refine then_row k4 (fun w_12 k4 hoth hbel => ?_)
    have k3 := hoth _ _ (by omega) k3
    have kb := hbel _ _ (by omega) kb
    clear hoth hbel
    go_wp2_with (first | (refine wpList_load_arr2 rfl _ _ rfl _ rfl (by decide +kernel) _ (by assumption) (by first | (rw [lims_len]; kernel_rfl) | (rw [el_rep]; kernel_rfl) | (rw [el_len]; kernel_rfl) | (rw [byts_len]; kernel_rfl) | (rw [us_len]; kernel_rfl) | (rw [bytn_len]; kernel_rfl) | (rw [ens_len, digs_len]; kernel_rfl) | (rw [ptL_len]; kernel_rfl) | (rw [pcs_len]; kernel_rfl) | kernel_rfl) ?_) | (refine wpList_store_arr rfl _ _ _ rfl _ _ rfl rfl _ (by first | assumption | exact Arr.new _ _ _) (by first | (rw [lims_len]; kernel_rfl) | (rw [el_rep]; kernel_rfl) | (rw [el_len]; kernel_rfl) | (rw [byts_len]; kernel_rfl) | (rw [us_len]; kernel_rfl) | (rw [bytn_len]; kernel_rfl) | (rw [ens_len, digs_len]; kernel_rfl) | (rw [ptL_len]; kernel_rfl) | (rw [pcs_len]; kernel_rfl) | kernel_rfl) (by first | (rw [lims_len, lims_len]) | (rw [el_rep, el_rep]) | (rw [el_rep, el_len]; rfl) | (rw [el_len, el_rep]; rfl) | (rw [el_len, el_len]; rfl) | (rw [byts_len, byts_len]) | (rw [lims_len]; rfl) | (rw [byts_len]; rfl) | (rw [us_len, us_len]; rfl) | (rw [bytn_len, bytn_len]) | (rw [bytn_len]; rfl) | (rw [ptL_len, ptL_len]) | (rw [pcs_len, pcs_len]) | (rw [ptL_len, pcs_len]) | (rw [pcs_len, ptL_len]) | (rw [ens_len, ens_len, digs_len, digs_len]) | rfl) (by first | exact lims_one _ _ | exact el_one _ | exact byts_one _ | exact us_one _ | exact bytn_one _ _ | exact ens_one _ | exact ptL_one _ _ _ _ | exact pcs_one _ | (intro v hv; simp at hv; rcases hv with rfl | rfl | rfl | rfl <;> rfl)) ?_))
    exact bodyPost_ret (results_arr2 Tryz.results181 _ _ _ rfl (by kernel_rfl) _ (by first | assumption | exact Arr.setRow (by assumption) _) (by first | (rw [lims_len]; kernel_rfl) | (rw [el_rep]; kernel_rfl) | (rw [el_len]; kernel_rfl) | (rw [byts_len]; kernel_rfl) | (rw [us_len]; kernel_rfl) | (rw [bytn_len]; kernel_rfl) | (rw [ens_len, digs_len]; kernel_rfl) | (rw [ptL_len]; kernel_rfl) | (rw [pcs_len]; kernel_rfl) | kernel_rfl)) rfl ⟨rfl, below_setRow kb (by omega) _⟩
  · rw [if_neg hlt] at a1
    have hl : lims 4 (a + 18446744073709551616 ^ 4 - b) = lims 4 ((a + pN - b) % pN) := by
      rw [show a + pN - b = (a - b) + pN by omega, Nat.add_mod_right, Nat.mod_eq_of_lt (by omega)]
      exact lims_mod _ _ ⟨1, by omega⟩
    rw [hl] at a1
    replace a1 := Lib.hid a1
    clear hbo hlt hl ha hb hp4
    go_enter Tryz.func181, Tryz.ntmps181
    go_upto_region 1 with fail
    refine wp_new3 (fun W hsz k1 k2 k3 kb => ?_)
    have k3 : Arr W (w.heap.size + 1 + 1) (lims 4 0) := k3
    go_wp2_with (first | (refine wpList_load_arr2 rfl _ _ rfl _ rfl (by decide +kernel) _ (by assumption) (by first | (rw [lims_len]; kernel_rfl) | (rw [el_rep]; kernel_rfl) | (rw [el_len]; kernel_rfl) | (rw [byts_len]; kernel_rfl) | (rw [us_len]; kernel_rfl) | (rw [bytn_len]; kernel_rfl) | (rw [ens_len, digs_len]; kernel_rfl) | (rw [ptL_len]; kernel_rfl) | (rw [pcs_len]; kernel_rfl) | kernel_rfl) ?_) | (refine wpList_store_arr rfl _ _ _ rfl _ _ rfl rfl _ (by first | assumption | exact Arr.new _ _ _) (by first | (rw [lims_len]; kernel_rfl) | (rw [el_rep]; kernel_rfl) | (rw [el_len]; kernel_rfl) | (rw [byts_len]; kernel_rfl) | (rw [us_len]; kernel_rfl) | (rw [bytn_len]; kernel_rfl) | (rw [ens_len, digs_len]; kernel_rfl) | (rw [ptL_len]; kernel_rfl) | (rw [pcs_len]; kernel_rfl) | kernel_rfl) (by first | (rw [lims_len, lims_len]) | (rw [el_rep, el_rep]) | (rw [el_rep, el_len]; rfl) | (rw [el_len, el_rep]; rfl) | (rw [el_len, el_len]; rfl) | (rw [byts_len, byts_len]) | (rw [lims_len]; rfl) | (rw [byts_len]; rfl) | (rw [us_len, us_len]; rfl) | (rw [bytn_len, bytn_len]) | (rw [bytn_len]; rfl) | (rw [ptL_len, ptL_len]) | (rw [pcs_len, pcs_len]) | (rw [ptL_len, pcs_len]) | (rw [pcs_len, ptL_len]) | (rw [ens_len, ens_len, digs_len, digs_len]) | rfl) (by first | exact lims_one _ _ | exact el_one _ | exact byts_one _ | exact us_one _ | exact bytn_one _ _ | exact ens_one _ | exact ptL_one _ _ _ _ | exact pcs_one _ | (intro v hv; simp at hv; rcases hv with rfl | rfl | rfl | rfl <;> rfl)) ?_))
    refine (a1.out _).mono ?_
    rintro e w_13 ⟨rfl, hb_13⟩
    have k3 := k3.below hb_13
    have kb := bel kb hb_13
    clear hb_13
    go_upto_region 2 with (first | (refine wpList_load_arr2 rfl _ _ rfl _ rfl (by decide +kernel) _ (by assumption) (by first | (rw [lims_len]; kernel_rfl) | (rw [el_rep]; kernel_rfl) | (rw [el_len]; kernel_rfl) | (rw [byts_len]; kernel_rfl) | (rw [us_len]; kernel_rfl) | (rw [bytn_len]; kernel_rfl) | (rw [ens_len, digs_len]; kernel_rfl) | (rw [ptL_len]; kernel_rfl) | (rw [pcs_len]; kernel_rfl) | kernel_rfl) ?_) | (refine wpList_store_arr rfl _ _ _ rfl _ _ rfl rfl _ (by first | assumption | exact Arr.new _ _ _) (by first | (rw [lims_len]; kernel_rfl) | (rw [el_rep]; kernel_rfl) | (rw [el_len]; kernel_rfl) | (rw [byts_len]; kernel_rfl) | (rw [us_len]; kernel_rfl) | (rw [bytn_len]; kernel_rfl) | (rw [ens_len, digs_len]; kernel_rfl) | (rw [ptL_len]; kernel_rfl) | (rw [pcs_len]; kernel_rfl) | kernel_rfl) (by first | (rw [lims_len, lims_len]) | (rw [el_rep, el_rep]) | (rw [el_rep, el_len]; rfl) | (rw [el_len, el_rep]; rfl) | (rw [el_len, el_len]; rfl) | (rw [byts_len, byts_len]) | (rw [lims_len]; rfl) | (rw [byts_len]; rfl) | (rw [us_len, us_len]; rfl) | (rw [bytn_len, bytn_len]) | (rw [bytn_len]; rfl) | (rw [ptL_len, ptL_len]) | (rw [pcs_len, pcs_len]) | (rw [ptL_len, pcs_len]) | (rw [pcs_len, ptL_len]) | (rw [ens_len, ens_len, digs_len, digs_len]) | rfl) (by first | exact lims_one _ _ | exact el_one _ | exact byts_one _ | exact us_one _ | exact bytn_one _ _ | exact ens_one _ | exact ptL_one _ _ _ _ | exact pcs_one _ | (intro v hv; simp at hv; rcases hv with rfl | rfl | rfl | rfl <;> rfl)) ?_))
    refine code_new (fun w9 k4 hb9 => ?_)
    have k3 := k3.below hb9
    have kb := bel kb hb9
    clear hb9 k1 k2
    go_wp2_with (first | (refine wpList_load_arr2 rfl _ _ rfl _ rfl (by decide +kernel) _ (by assumption) (by first | (rw [lims_len]; kernel_rfl) | (rw [el_rep]; kernel_rfl) | (rw [el_len]; kernel_rfl) | (rw [byts_len]; kernel_rfl) | (rw [us_len]; kernel_rfl) | (rw [bytn_len]; kernel_rfl) | (rw [ens_len, digs_len]; kernel_rfl) | (rw [ptL_len]; kernel_rfl) | (rw [pcs_len]; kernel_rfl) | kernel_rfl) ?_) | (refine wpList_store_arr rfl _ _ _ rfl _ _ rfl rfl _ (by first | assumption | exact Arr.new _ _ _) (by first | (rw [lims_len]; kernel_rfl) | (rw [el_rep]; kernel_rfl) | (rw [el_len]; kernel_rfl) | (rw [byts_len]; kernel_rfl) | (rw [us_len]; kernel_rfl) | (rw [bytn_len]; kernel_rfl) | (rw [ens_len, digs_len]; kernel_rfl) | (rw [ptL_len]; kernel_rfl) | (rw [pcs_len]; kernel_rfl) | kernel_rfl) (by first | (rw [lims_len, lims_len]) | (rw [el_rep, el_rep]) | (rw [el_rep, el_len]; rfl) | (rw [el_len, el_rep]; rfl) | (rw [el_len, el_len]; rfl) | (rw [byts_len, byts_len]) | (rw [lims_len]; rfl) | (rw [byts_len]; rfl) | (rw [us_len, us_len]; rfl) | (rw [bytn_len, bytn_len]) | (rw [bytn_len]; rfl) | (rw [ptL_len, ptL_len]) | (rw [pcs_len, pcs_len]) | (rw [ptL_len, pcs_len]) | (rw [pcs_len, ptL_len]) | (rw [ens_len, ens_len, digs_len, digs_len]) | rfl) (by first | exact lims_one _ _ | exact el_one _ | exact byts_one _ | exact us_one _ | exact bytn_one _ _ | exact ens_one _ | exact ptL_one _ _ _ _ | exact pcs_one _ | (intro v hv; simp at hv; rcases hv with rfl | rfl | rfl | rfl <;> rfl)) ?_))
    exact bodyPost_ret (results_arr2 Tryz.results181 _ _ _ rfl (by kernel_rfl) _ (by first | assumption | exact Arr.setRow (by assumption) _) (by first | (rw [lims_len]; kernel_rfl) | (rw [el_rep]; kernel_rfl) | (rw [el_len]; kernel_rfl) | (rw [byts_len]; kernel_rfl) | (rw [us_len]; kernel_rfl) | (rw [bytn_len]; kernel_rfl) | (rw [ens_len, digs_len]; kernel_rfl) | (rw [ptL_len]; kernel_rfl) | (rw [pcs_len]; kernel_rfl) | kernel_rfl)) rfl ⟨rfl, below_setRow kb (by omega) _⟩
end Go.Proofs.YtibdgkhkhmdihaaGreatDoor

