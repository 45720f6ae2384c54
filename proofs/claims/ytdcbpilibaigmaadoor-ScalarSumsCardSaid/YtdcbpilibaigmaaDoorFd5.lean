/- field: of, Canon, Add, Sub, Mul, Inv, Pow, Pick. -/
import Derived.Test.YtdcbpilibaigmaaDoorFd4
namespace Go.Proofs.YtdcbpilibaigmaaDoor
open Go.RowKit

theorem p_lt32 (n : Nat) : n % pN < 256 ^ 32 := Nat.lt_trans (Nat.mod_lt _ pN_pos) (by decide)
theorem lim_of32 {n : Nat} (h : n < 256 ^ 32) : n < 18446744073709551616 ^ 4 := Nat.lt_of_lt_of_le h (by decide)

set_option maxHeartbeats 1000000 in
set_option maxRecDepth 100000 in
theorem fof_any (a : Nat) (ha : a < 256 ^ 32) (w : World) :
    Calls Tryd.prog 32 #[.agg (byts a).toArray] w fun e w' => e = .returned (.agg (lims 4 (a % pN)).toArray) ∧ Below w.heap.size w w' := by
  have c0 := Lib.hid (fun w => limOf_any a ha w)
  have c1 := Lib.hid (fun w => lessen_any a (lim_of32 ha) w)
  clear ha
  go_enter Tryd.func32, Tryd.ntmps32
  go_upto_region 1 with fail
  refine wp_new2 (fun W hsz k1 k2 kb => ?_)
  have k2 : Arr W (w.heap.size + 1) (lims 4 0) := k2
  go_wp2_with (first | (refine wpList_load_arr2 rfl _ _ rfl _ rfl (by kernel_rfl) _ (by assumption) (by first | (rw [lims_len]; kernel_rfl) | (rw [el_rep]; kernel_rfl) | (rw [el_len]; kernel_rfl) | (rw [byts_len]; kernel_rfl) | (rw [us_len]; kernel_rfl) | kernel_rfl) ?_) | (refine wpList_store_arr rfl _ _ _ rfl _ _ rfl rfl _ (by first | assumption | exact Arr.new _ _ _) (by first | (rw [lims_len]; kernel_rfl) | (rw [el_rep]; kernel_rfl) | (rw [el_len]; kernel_rfl) | (rw [byts_len]; kernel_rfl) | (rw [us_len]; kernel_rfl) | kernel_rfl) (by first | (rw [lims_len, lims_len]) | (rw [el_rep, el_rep]) | (rw [el_rep, el_len]; rfl) | (rw [el_len, el_rep]; rfl) | (rw [el_len, el_len]; rfl) | (rw [byts_len, byts_len]) | (rw [lims_len]; rfl) | (rw [byts_len]; rfl) | (rw [us_len, us_len]; rfl) | rfl) (by first | exact lims_one _ _ | exact el_one _ | exact byts_one _ | exact us_one _ | (intro v hv; simp at hv; rcases hv with rfl | rfl | rfl | rfl <;> rfl)) ?_))
  refine (c0.out _).mono ?_
  rintro e w_1 ⟨rfl, hb_1⟩
  have k2 := k2.below hb_1
  have kb := bel kb hb_1
  clear hb_1
  go_wp2_with (first | (refine wpList_load_arr2 rfl _ _ rfl _ rfl (by kernel_rfl) _ (by assumption) (by first | (rw [lims_len]; kernel_rfl) | (rw [el_rep]; kernel_rfl) | (rw [el_len]; kernel_rfl) | (rw [byts_len]; kernel_rfl) | (rw [us_len]; kernel_rfl) | kernel_rfl) ?_) | (refine wpList_store_arr rfl _ _ _ rfl _ _ rfl rfl _ (by first | assumption | exact Arr.new _ _ _) (by first | (rw [lims_len]; kernel_rfl) | (rw [el_rep]; kernel_rfl) | (rw [el_len]; kernel_rfl) | (rw [byts_len]; kernel_rfl) | (rw [us_len]; kernel_rfl) | kernel_rfl) (by first | (rw [lims_len, lims_len]) | (rw [el_rep, el_rep]) | (rw [el_rep, el_len]; rfl) | (rw [el_len, el_rep]; rfl) | (rw [el_len, el_len]; rfl) | (rw [byts_len, byts_len]) | (rw [lims_len]; rfl) | (rw [byts_len]; rfl) | (rw [us_len, us_len]; rfl) | rfl) (by first | exact lims_one _ _ | exact el_one _ | exact byts_one _ | exact us_one _ | (intro v hv; simp at hv; rcases hv with rfl | rfl | rfl | rfl <;> rfl)) ?_))
  refine (c1.out _).mono ?_
  rintro e w_2 ⟨rfl, hb_2⟩
  have k2 := k2.below hb_2
  have kb := bel kb hb_2
  clear hb_2
  go_wp2_with (first | (refine wpList_load_arr2 rfl _ _ rfl _ rfl (by kernel_rfl) _ (by assumption) (by first | (rw [lims_len]; kernel_rfl) | (rw [el_rep]; kernel_rfl) | (rw [el_len]; kernel_rfl) | (rw [byts_len]; kernel_rfl) | (rw [us_len]; kernel_rfl) | kernel_rfl) ?_) | (refine wpList_store_arr rfl _ _ _ rfl _ _ rfl rfl _ (by first | assumption | exact Arr.new _ _ _) (by first | (rw [lims_len]; kernel_rfl) | (rw [el_rep]; kernel_rfl) | (rw [el_len]; kernel_rfl) | (rw [byts_len]; kernel_rfl) | (rw [us_len]; kernel_rfl) | kernel_rfl) (by first | (rw [lims_len, lims_len]) | (rw [el_rep, el_rep]) | (rw [el_rep, el_len]; rfl) | (rw [el_len, el_rep]; rfl) | (rw [el_len, el_len]; rfl) | (rw [byts_len, byts_len]) | (rw [lims_len]; rfl) | (rw [byts_len]; rfl) | (rw [us_len, us_len]; rfl) | rfl) (by first | exact lims_one _ _ | exact el_one _ | exact byts_one _ | exact us_one _ | (intro v hv; simp at hv; rcases hv with rfl | rfl | rfl | rfl <;> rfl)) ?_))
  exact bodyPost_ret (results_arr2 Tryd.results32 _ _ _ rfl (by kernel_rfl) _ (by first | assumption | exact Arr.setRow (by assumption) _) (by first | (rw [lims_len]; kernel_rfl) | (rw [el_rep]; kernel_rfl) | (rw [el_len]; kernel_rfl) | (rw [byts_len]; kernel_rfl) | (rw [us_len]; kernel_rfl) | kernel_rfl)) rfl ⟨rfl, below_setRow kb (by omega) _⟩

set_option maxHeartbeats 1000000 in
set_option maxRecDepth 100000 in
theorem fcanon_any (a : Nat) (ha : a < 256 ^ 32) (w : World) :
    Calls Tryd.prog 19 #[.agg (byts a).toArray] w fun e w' => e = .returned (.agg (byts (a % pN)).toArray) ∧ Below w.heap.size w w' := by
  have c0 := Lib.hid (fun w => fof_any a ha w)
  have c1 := Lib.hid (fun w => limNum_any (a % pN) w)
  clear ha
  go_enter Tryd.func19, Tryd.ntmps19
  go_upto_region 1 with fail
  refine wp_new2 (fun W hsz k1 k2 kb => ?_)
  have k2 : Arr W (w.heap.size + 1) (byts 0) := k2
  go_wp2_with (first | (refine wpList_load_arr2 rfl _ _ rfl _ rfl (by kernel_rfl) _ (by assumption) (by first | (rw [lims_len]; kernel_rfl) | (rw [el_rep]; kernel_rfl) | (rw [el_len]; kernel_rfl) | (rw [byts_len]; kernel_rfl) | (rw [us_len]; kernel_rfl) | kernel_rfl) ?_) | (refine wpList_store_arr rfl _ _ _ rfl _ _ rfl rfl _ (by first | assumption | exact Arr.new _ _ _) (by first | (rw [lims_len]; kernel_rfl) | (rw [el_rep]; kernel_rfl) | (rw [el_len]; kernel_rfl) | (rw [byts_len]; kernel_rfl) | (rw [us_len]; kernel_rfl) | kernel_rfl) (by first | (rw [lims_len, lims_len]) | (rw [el_rep, el_rep]) | (rw [el_rep, el_len]; rfl) | (rw [el_len, el_rep]; rfl) | (rw [el_len, el_len]; rfl) | (rw [byts_len, byts_len]) | (rw [lims_len]; rfl) | (rw [byts_len]; rfl) | (rw [us_len, us_len]; rfl) | rfl) (by first | exact lims_one _ _ | exact el_one _ | exact byts_one _ | exact us_one _ | (intro v hv; simp at hv; rcases hv with rfl | rfl | rfl | rfl <;> rfl)) ?_))
  refine (c0.out _).mono ?_
  rintro e w_3 ⟨rfl, hb_3⟩
  have k2 := k2.below hb_3
  have kb := bel kb hb_3
  clear hb_3
  go_wp2_with (first | (refine wpList_load_arr2 rfl _ _ rfl _ rfl (by kernel_rfl) _ (by assumption) (by first | (rw [lims_len]; kernel_rfl) | (rw [el_rep]; kernel_rfl) | (rw [el_len]; kernel_rfl) | (rw [byts_len]; kernel_rfl) | (rw [us_len]; kernel_rfl) | kernel_rfl) ?_) | (refine wpList_store_arr rfl _ _ _ rfl _ _ rfl rfl _ (by first | assumption | exact Arr.new _ _ _) (by first | (rw [lims_len]; kernel_rfl) | (rw [el_rep]; kernel_rfl) | (rw [el_len]; kernel_rfl) | (rw [byts_len]; kernel_rfl) | (rw [us_len]; kernel_rfl) | kernel_rfl) (by first | (rw [lims_len, lims_len]) | (rw [el_rep, el_rep]) | (rw [el_rep, el_len]; rfl) | (rw [el_len, el_rep]; rfl) | (rw [el_len, el_len]; rfl) | (rw [byts_len, byts_len]) | (rw [lims_len]; rfl) | (rw [byts_len]; rfl) | (rw [us_len, us_len]; rfl) | rfl) (by first | exact lims_one _ _ | exact el_one _ | exact byts_one _ | exact us_one _ | (intro v hv; simp at hv; rcases hv with rfl | rfl | rfl | rfl <;> rfl)) ?_))
  refine (c1.out _).mono ?_
  rintro e w_4 ⟨rfl, hb_4⟩
  have k2 := k2.below hb_4
  have kb := bel kb hb_4
  clear hb_4
  go_wp2_with (first | (refine wpList_load_arr2 rfl _ _ rfl _ rfl (by kernel_rfl) _ (by assumption) (by first | (rw [lims_len]; kernel_rfl) | (rw [el_rep]; kernel_rfl) | (rw [el_len]; kernel_rfl) | (rw [byts_len]; kernel_rfl) | (rw [us_len]; kernel_rfl) | kernel_rfl) ?_) | (refine wpList_store_arr rfl _ _ _ rfl _ _ rfl rfl _ (by first | assumption | exact Arr.new _ _ _) (by first | (rw [lims_len]; kernel_rfl) | (rw [el_rep]; kernel_rfl) | (rw [el_len]; kernel_rfl) | (rw [byts_len]; kernel_rfl) | (rw [us_len]; kernel_rfl) | kernel_rfl) (by first | (rw [lims_len, lims_len]) | (rw [el_rep, el_rep]) | (rw [el_rep, el_len]; rfl) | (rw [el_len, el_rep]; rfl) | (rw [el_len, el_len]; rfl) | (rw [byts_len, byts_len]) | (rw [lims_len]; rfl) | (rw [byts_len]; rfl) | (rw [us_len, us_len]; rfl) | rfl) (by first | exact lims_one _ _ | exact el_one _ | exact byts_one _ | exact us_one _ | (intro v hv; simp at hv; rcases hv with rfl | rfl | rfl | rfl <;> rfl)) ?_))
  exact bodyPost_ret (results_arr2 Tryd.results19 _ _ _ rfl (by kernel_rfl) _ (by first | assumption | exact Arr.setRow (by assumption) _) (by first | (rw [lims_len]; kernel_rfl) | (rw [el_rep]; kernel_rfl) | (rw [el_len]; kernel_rfl) | (rw [byts_len]; kernel_rfl) | (rw [us_len]; kernel_rfl) | kernel_rfl)) rfl ⟨rfl, below_setRow kb (by omega) _⟩

set_option maxHeartbeats 1000000 in
set_option maxRecDepth 100000 in
theorem fadd_any (a b : Nat) (ha : a < 256 ^ 32) (hb : b < 256 ^ 32) (w : World) :
    Calls Tryd.prog 29 #[.agg (byts a).toArray, .agg (byts b).toArray] w fun e w' => e = .returned (.agg (byts ((a + b) % pN)).toArray) ∧ Below w.heap.size w w' := by
  obtain ⟨x, hx⟩ : ∃ x, a % pN = x := ⟨_, rfl⟩
  obtain ⟨y, hy⟩ : ∃ y, b % pN = y := ⟨_, rfl⟩
  obtain ⟨r, hr⟩ : ∃ r, (x + y) % pN = r := ⟨_, rfl⟩
  have hres : (a + b) % pN = r := by rw [Nat.add_mod, hx, hy, hr]
  rw [hres]
  have c0 := fun w => fof_any a ha w
  have c1 := fun w => fof_any b hb w
  rw [hx] at c0
  rw [hy] at c1
  have c2 := fun w => plus_any x y (hx ▸ p_lt4 a) (hy ▸ p_lt4 b) w
  rw [hr] at c2
  have c3 := Lib.hid (fun w => limNum_any r w)
  replace c0 := Lib.hid c0
  replace c1 := Lib.hid c1
  replace c2 := Lib.hid c2
  try clear hy
  clear ha hb hx hr hres
  go_enter Tryd.func29, Tryd.ntmps29
  go_upto_region 1 with fail
  refine wp_new3 (fun W hsz k1 k2 k3 kb => ?_)
  have k3 : Arr W (w.heap.size + 1 + 1) (byts 0) := k3
  refine Tx.start (fun w' => Below (W).heap.size (W) w') 6 7 rfl (by kernel_rfl) ?_
  have hS_8 : Below (W).heap.size (W) (World.drew W) := (Below.refl _ _).drew
  refine Tx.seg (A := ?_) 5 5 (by kernel_rfl) (by exact hS_8) [0, 2] (by kernel_rfl) ?_ ?_
  rotate_left
  · intro w' hB
    have e1 := k1.below hB
    have e2 := k2.below hB
    iterate 2 (first | (refine rd_skip rfl rfl ?_; simp only [Act.put, List.setIfInBounds_toArray, List.set_cons_zero, List.set_cons_succ]) | (refine rd_load_arr rfl rfl _ _ rfl _ rfl (by kernel_rfl) _ (by assumption) (by first | (rw [lims_len]; kernel_rfl) | (rw [el_rep]; kernel_rfl) | (rw [el_len]; kernel_rfl) | (rw [byts_len]; kernel_rfl) | (rw [us_len]; kernel_rfl) | kernel_rfl) ?_; simp only [Act.put, List.setIfInBounds_toArray, List.set_cons_zero, List.set_cons_succ]) | (refine rd_take (v := ?_) rfl rfl ?_ ?_; rotate_left; (focus (go_simp; try (with_reducible rfl))); simp only [Act.put, List.setIfInBounds_toArray, List.set_cons_zero, List.set_cons_succ]))
    exact rd_nil
  refine Tx.eff 1 7 rfl (by decide +kernel) (fun K hK => ?_)
  go_simp
  refine (c0.out _).mono ?_
  rintro e w_9 ⟨rfl, hb_9⟩
  have hS_9 := ext_trans hS_8 (Nat.le_refl _) hb_9
  refine hK (fun w' => Below (W).heap.size (W) w') _ _ hS_9 (fun _ h => h) ?_
  clear hK K hb_9 hS_8
  try simp only [Act.put, List.setIfInBounds_toArray, List.set_cons_zero, List.set_cons_succ]
  refine Tx.eff 3 15 rfl (by decide +kernel) (fun K hK => ?_)
  go_simp
  refine (c1.out _).mono ?_
  rintro e w_10 ⟨rfl, hb_10⟩
  have hS_10 := ext_trans hS_9 (Nat.le_refl _) hb_10
  refine hK (fun w' => Below (W).heap.size (W) w') _ _ hS_10 (fun _ h => h) ?_
  clear hK K hb_10 hS_9
  try simp only [Act.put, List.setIfInBounds_toArray, List.set_cons_zero, List.set_cons_succ]
  refine Tx.eff 4 31 rfl (by decide +kernel) (fun K hK => ?_)
  go_simp
  refine (c2.out _).mono ?_
  rintro e w_11 ⟨rfl, hb_11⟩
  have hS_11 := ext_trans hS_10 (Nat.le_refl _) hb_11
  refine hK (fun w' => Below (W).heap.size (W) w') _ _ hS_11 (fun _ h => h) ?_
  clear hK K hb_11 hS_10
  try simp only [Act.put, List.setIfInBounds_toArray, List.set_cons_zero, List.set_cons_succ]
  refine Tx.eff 5 63 rfl (by decide +kernel) (fun K hK => ?_)
  go_simp
  refine (c3.out _).mono ?_
  rintro e w_12 ⟨rfl, hb_12⟩
  have hS_12 := ext_trans hS_11 (Nat.le_refl _) hb_12
  refine hK (fun w' => Below (W).heap.size (W) w') _ _ hS_12 (fun _ h => h) ?_
  clear hK K hb_12 hS_11
  try simp only [Act.put, List.setIfInBounds_toArray, List.set_cons_zero, List.set_cons_succ]
  have k3 := k3.below hS_12
  have kb := bel kb hS_12
  refine Tx.bar 127 rfl (by decide +kernel) (fun K hK => ?_)
  refine step_store_arr rfl _ _ _ rfl _ _ rfl rfl _ (by assumption) (by first | (rw [lims_len]; kernel_rfl) | (rw [el_rep]; kernel_rfl) | (rw [el_len]; kernel_rfl) | (rw [byts_len]; kernel_rfl) | (rw [us_len]; kernel_rfl) | kernel_rfl) (by first | (rw [lims_len, lims_len]) | (rw [el_rep, el_rep]) | (rw [el_rep, el_len]; rfl) | (rw [el_len, el_rep]; rfl) | (rw [el_len, el_len]; rfl) | (rw [byts_len, byts_len]) | (rw [lims_len]; rfl) | (rw [byts_len]; rfl) | (rw [us_len, us_len]; rfl) | rfl) (by first | exact lims_one _ _ | exact el_one _ | exact byts_one _ | exact us_one _ | (intro v hv; simp at hv; rcases hv with rfl | rfl | rfl | rfl <;> rfl)) ?_
  refine hK (fun _ => True) 9999 _ _ ?_
  clear hK K
  try simp only [Act.put]
  try simp only [List.setIfInBounds_toArray, List.set_cons_zero, List.set_cons_succ]
  refine Tx.done (by kernel_rfl) ?_
  refine then_row k3 (fun w_13 k3 hoth hbel => ?_)
  have kb := hbel _ _ (by omega) kb
  clear hoth hbel
  go_wp2_with (first | (refine wpList_load_arr2 rfl _ _ rfl _ rfl (by kernel_rfl) _ (by assumption) (by first | (rw [lims_len]; kernel_rfl) | (rw [el_rep]; kernel_rfl) | (rw [el_len]; kernel_rfl) | (rw [byts_len]; kernel_rfl) | (rw [us_len]; kernel_rfl) | kernel_rfl) ?_) | (refine wpList_store_arr rfl _ _ _ rfl _ _ rfl rfl _ (by first | assumption | exact Arr.new _ _ _) (by first | (rw [lims_len]; kernel_rfl) | (rw [el_rep]; kernel_rfl) | (rw [el_len]; kernel_rfl) | (rw [byts_len]; kernel_rfl) | (rw [us_len]; kernel_rfl) | kernel_rfl) (by first | (rw [lims_len, lims_len]) | (rw [el_rep, el_rep]) | (rw [el_rep, el_len]; rfl) | (rw [el_len, el_rep]; rfl) | (rw [el_len, el_len]; rfl) | (rw [byts_len, byts_len]) | (rw [lims_len]; rfl) | (rw [byts_len]; rfl) | (rw [us_len, us_len]; rfl) | rfl) (by first | exact lims_one _ _ | exact el_one _ | exact byts_one _ | exact us_one _ | (intro v hv; simp at hv; rcases hv with rfl | rfl | rfl | rfl <;> rfl)) ?_))
  exact bodyPost_ret (results_arr2 Tryd.results29 _ _ _ rfl (by kernel_rfl) _ (by first | assumption | exact Arr.setRow (by assumption) _) (by first | (rw [lims_len]; kernel_rfl) | (rw [el_rep]; kernel_rfl) | (rw [el_len]; kernel_rfl) | (rw [byts_len]; kernel_rfl) | (rw [us_len]; kernel_rfl) | kernel_rfl)) rfl ⟨rfl, kb⟩

set_option maxHeartbeats 1000000 in
set_option maxRecDepth 100000 in
theorem fsub_any (a b : Nat) (ha : a < 256 ^ 32) (hb : b < 256 ^ 32) (w : World) :
    Calls Tryd.prog 20 #[.agg (byts a).toArray, .agg (byts b).toArray] w fun e w' => e = .returned (.agg (byts ((a % pN + pN - b % pN) % pN)).toArray) ∧ Below w.heap.size w w' := by
  obtain ⟨x, hx⟩ : ∃ x, a % pN = x := ⟨_, rfl⟩
  obtain ⟨y, hy⟩ : ∃ y, b % pN = y := ⟨_, rfl⟩
  obtain ⟨r, hr⟩ : ∃ r, (x + pN - y) % pN = r := ⟨_, rfl⟩
  have hres : (a % pN + pN - b % pN) % pN = r := by rw [hx, hy, hr]
  rw [hres]
  have c0 := fun w => fof_any a ha w
  have c1 := fun w => fof_any b hb w
  rw [hx] at c0
  rw [hy] at c1
  have c2 := fun w => minus_any x y (hx ▸ Nat.mod_lt _ pN_pos) (hy ▸ Nat.mod_lt _ pN_pos) w
  rw [hr] at c2
  have c3 := Lib.hid (fun w => limNum_any r w)
  replace c0 := Lib.hid c0
  replace c1 := Lib.hid c1
  replace c2 := Lib.hid c2
  try clear hy
  clear ha hb hx hr hres
  go_enter Tryd.func20, Tryd.ntmps20
  go_upto_region 1 with fail
  refine wp_new3 (fun W hsz k1 k2 k3 kb => ?_)
  have k3 : Arr W (w.heap.size + 1 + 1) (byts 0) := k3
  refine Tx.start (fun w' => Below (W).heap.size (W) w') 6 7 rfl (by kernel_rfl) ?_
  have hS_14 : Below (W).heap.size (W) (World.drew W) := (Below.refl _ _).drew
  refine Tx.seg (A := ?_) 5 5 (by kernel_rfl) (by exact hS_14) [0, 2] (by kernel_rfl) ?_ ?_
  rotate_left
  · intro w' hB
    have e1 := k1.below hB
    have e2 := k2.below hB
    iterate 2 (first | (refine rd_skip rfl rfl ?_; simp only [Act.put, List.setIfInBounds_toArray, List.set_cons_zero, List.set_cons_succ]) | (refine rd_load_arr rfl rfl _ _ rfl _ rfl (by kernel_rfl) _ (by assumption) (by first | (rw [lims_len]; kernel_rfl) | (rw [el_rep]; kernel_rfl) | (rw [el_len]; kernel_rfl) | (rw [byts_len]; kernel_rfl) | (rw [us_len]; kernel_rfl) | kernel_rfl) ?_; simp only [Act.put, List.setIfInBounds_toArray, List.set_cons_zero, List.set_cons_succ]) | (refine rd_take (v := ?_) rfl rfl ?_ ?_; rotate_left; (focus (go_simp; try (with_reducible rfl))); simp only [Act.put, List.setIfInBounds_toArray, List.set_cons_zero, List.set_cons_succ]))
    exact rd_nil
  refine Tx.eff 1 7 rfl (by decide +kernel) (fun K hK => ?_)
  go_simp
  refine (c0.out _).mono ?_
  rintro e w_15 ⟨rfl, hb_15⟩
  have hS_15 := ext_trans hS_14 (Nat.le_refl _) hb_15
  refine hK (fun w' => Below (W).heap.size (W) w') _ _ hS_15 (fun _ h => h) ?_
  clear hK K hb_15 hS_14
  try simp only [Act.put, List.setIfInBounds_toArray, List.set_cons_zero, List.set_cons_succ]
  refine Tx.eff 3 15 rfl (by decide +kernel) (fun K hK => ?_)
  go_simp
  refine (c1.out _).mono ?_
  rintro e w_16 ⟨rfl, hb_16⟩
  have hS_16 := ext_trans hS_15 (Nat.le_refl _) hb_16
  refine hK (fun w' => Below (W).heap.size (W) w') _ _ hS_16 (fun _ h => h) ?_
  clear hK K hb_16 hS_15
  try simp only [Act.put, List.setIfInBounds_toArray, List.set_cons_zero, List.set_cons_succ]
  refine Tx.eff 4 31 rfl (by decide +kernel) (fun K hK => ?_)
  go_simp
  refine (c2.out _).mono ?_
  rintro e w_17 ⟨rfl, hb_17⟩
  have hS_17 := ext_trans hS_16 (Nat.le_refl _) hb_17
  refine hK (fun w' => Below (W).heap.size (W) w') _ _ hS_17 (fun _ h => h) ?_
  clear hK K hb_17 hS_16
  try simp only [Act.put, List.setIfInBounds_toArray, List.set_cons_zero, List.set_cons_succ]
  refine Tx.eff 5 63 rfl (by decide +kernel) (fun K hK => ?_)
  go_simp
  refine (c3.out _).mono ?_
  rintro e w_18 ⟨rfl, hb_18⟩
  have hS_18 := ext_trans hS_17 (Nat.le_refl _) hb_18
  refine hK (fun w' => Below (W).heap.size (W) w') _ _ hS_18 (fun _ h => h) ?_
  clear hK K hb_18 hS_17
  try simp only [Act.put, List.setIfInBounds_toArray, List.set_cons_zero, List.set_cons_succ]
  have k3 := k3.below hS_18
  have kb := bel kb hS_18
  refine Tx.bar 127 rfl (by decide +kernel) (fun K hK => ?_)
  refine step_store_arr rfl _ _ _ rfl _ _ rfl rfl _ (by assumption) (by first | (rw [lims_len]; kernel_rfl) | (rw [el_rep]; kernel_rfl) | (rw [el_len]; kernel_rfl) | (rw [byts_len]; kernel_rfl) | (rw [us_len]; kernel_rfl) | kernel_rfl) (by first | (rw [lims_len, lims_len]) | (rw [el_rep, el_rep]) | (rw [el_rep, el_len]; rfl) | (rw [el_len, el_rep]; rfl) | (rw [el_len, el_len]; rfl) | (rw [byts_len, byts_len]) | (rw [lims_len]; rfl) | (rw [byts_len]; rfl) | (rw [us_len, us_len]; rfl) | rfl) (by first | exact lims_one _ _ | exact el_one _ | exact byts_one _ | exact us_one _ | (intro v hv; simp at hv; rcases hv with rfl | rfl | rfl | rfl <;> rfl)) ?_
  refine hK (fun _ => True) 9999 _ _ ?_
  clear hK K
  try simp only [Act.put]
  try simp only [List.setIfInBounds_toArray, List.set_cons_zero, List.set_cons_succ]
  refine Tx.done (by kernel_rfl) ?_
  refine then_row k3 (fun w_19 k3 hoth hbel => ?_)
  have kb := hbel _ _ (by omega) kb
  clear hoth hbel
  go_wp2_with (first | (refine wpList_load_arr2 rfl _ _ rfl _ rfl (by kernel_rfl) _ (by assumption) (by first | (rw [lims_len]; kernel_rfl) | (rw [el_rep]; kernel_rfl) | (rw [el_len]; kernel_rfl) | (rw [byts_len]; kernel_rfl) | (rw [us_len]; kernel_rfl) | kernel_rfl) ?_) | (refine wpList_store_arr rfl _ _ _ rfl _ _ rfl rfl _ (by first | assumption | exact Arr.new _ _ _) (by first | (rw [lims_len]; kernel_rfl) | (rw [el_rep]; kernel_rfl) | (rw [el_len]; kernel_rfl) | (rw [byts_len]; kernel_rfl) | (rw [us_len]; kernel_rfl) | kernel_rfl) (by first | (rw [lims_len, lims_len]) | (rw [el_rep, el_rep]) | (rw [el_rep, el_len]; rfl) | (rw [el_len, el_rep]; rfl) | (rw [el_len, el_len]; rfl) | (rw [byts_len, byts_len]) | (rw [lims_len]; rfl) | (rw [byts_len]; rfl) | (rw [us_len, us_len]; rfl) | rfl) (by first | exact lims_one _ _ | exact el_one _ | exact byts_one _ | exact us_one _ | (intro v hv; simp at hv; rcases hv with rfl | rfl | rfl | rfl <;> rfl)) ?_))
  exact bodyPost_ret (results_arr2 Tryd.results20 _ _ _ rfl (by kernel_rfl) _ (by first | assumption | exact Arr.setRow (by assumption) _) (by first | (rw [lims_len]; kernel_rfl) | (rw [el_rep]; kernel_rfl) | (rw [el_len]; kernel_rfl) | (rw [byts_len]; kernel_rfl) | (rw [us_len]; kernel_rfl) | kernel_rfl)) rfl ⟨rfl, kb⟩

set_option maxHeartbeats 1000000 in
set_option maxRecDepth 100000 in
theorem fmul_any (a b : Nat) (ha : a < 256 ^ 32) (hb : b < 256 ^ 32) (w : World) :
    Calls Tryd.prog 18 #[.agg (byts a).toArray, .agg (byts b).toArray] w fun e w' => e = .returned (.agg (byts (a * b % pN)).toArray) ∧ Below w.heap.size w w' := by
  obtain ⟨x, hx⟩ : ∃ x, a % pN = x := ⟨_, rfl⟩
  obtain ⟨y, hy⟩ : ∃ y, b % pN = y := ⟨_, rfl⟩
  obtain ⟨r, hr⟩ : ∃ r, x * y % pN = r := ⟨_, rfl⟩
  have hres : a * b % pN = r := by rw [Nat.mul_mod, hx, hy, hr]
  rw [hres]
  have c0 := fun w => fof_any a ha w
  have c1 := fun w => fof_any b hb w
  rw [hx] at c0
  rw [hy] at c1
  have c2 := fun w => times_any x y (hx ▸ p_lt4 a) (hy ▸ p_lt4 b) w
  rw [hr] at c2
  have c3 := Lib.hid (fun w => limNum_any r w)
  replace c0 := Lib.hid c0
  replace c1 := Lib.hid c1
  replace c2 := Lib.hid c2
  try clear hy
  clear ha hb hx hr hres
  go_enter Tryd.func18, Tryd.ntmps18
  go_upto_region 1 with fail
  refine wp_new3 (fun W hsz k1 k2 k3 kb => ?_)
  have k3 : Arr W (w.heap.size + 1 + 1) (byts 0) := k3
  refine Tx.start (fun w' => Below (W).heap.size (W) w') 6 7 rfl (by kernel_rfl) ?_
  have hS_20 : Below (W).heap.size (W) (World.drew W) := (Below.refl _ _).drew
  refine Tx.seg (A := ?_) 5 5 (by kernel_rfl) (by exact hS_20) [0, 2] (by kernel_rfl) ?_ ?_
  rotate_left
  · intro w' hB
    have e1 := k1.below hB
    have e2 := k2.below hB
    iterate 2 (first | (refine rd_skip rfl rfl ?_; simp only [Act.put, List.setIfInBounds_toArray, List.set_cons_zero, List.set_cons_succ]) | (refine rd_load_arr rfl rfl _ _ rfl _ rfl (by kernel_rfl) _ (by assumption) (by first | (rw [lims_len]; kernel_rfl) | (rw [el_rep]; kernel_rfl) | (rw [el_len]; kernel_rfl) | (rw [byts_len]; kernel_rfl) | (rw [us_len]; kernel_rfl) | kernel_rfl) ?_; simp only [Act.put, List.setIfInBounds_toArray, List.set_cons_zero, List.set_cons_succ]) | (refine rd_take (v := ?_) rfl rfl ?_ ?_; rotate_left; (focus (go_simp; try (with_reducible rfl))); simp only [Act.put, List.setIfInBounds_toArray, List.set_cons_zero, List.set_cons_succ]))
    exact rd_nil
  refine Tx.eff 1 7 rfl (by decide +kernel) (fun K hK => ?_)
  go_simp
  refine (c0.out _).mono ?_
  rintro e w_21 ⟨rfl, hb_21⟩
  have hS_21 := ext_trans hS_20 (Nat.le_refl _) hb_21
  refine hK (fun w' => Below (W).heap.size (W) w') _ _ hS_21 (fun _ h => h) ?_
  clear hK K hb_21 hS_20
  try simp only [Act.put, List.setIfInBounds_toArray, List.set_cons_zero, List.set_cons_succ]
  refine Tx.eff 3 15 rfl (by decide +kernel) (fun K hK => ?_)
  go_simp
  refine (c1.out _).mono ?_
  rintro e w_22 ⟨rfl, hb_22⟩
  have hS_22 := ext_trans hS_21 (Nat.le_refl _) hb_22
  refine hK (fun w' => Below (W).heap.size (W) w') _ _ hS_22 (fun _ h => h) ?_
  clear hK K hb_22 hS_21
  try simp only [Act.put, List.setIfInBounds_toArray, List.set_cons_zero, List.set_cons_succ]
  refine Tx.eff 4 31 rfl (by decide +kernel) (fun K hK => ?_)
  go_simp
  refine (c2.out _).mono ?_
  rintro e w_23 ⟨rfl, hb_23⟩
  have hS_23 := ext_trans hS_22 (Nat.le_refl _) hb_23
  refine hK (fun w' => Below (W).heap.size (W) w') _ _ hS_23 (fun _ h => h) ?_
  clear hK K hb_23 hS_22
  try simp only [Act.put, List.setIfInBounds_toArray, List.set_cons_zero, List.set_cons_succ]
  refine Tx.eff 5 63 rfl (by decide +kernel) (fun K hK => ?_)
  go_simp
  refine (c3.out _).mono ?_
  rintro e w_24 ⟨rfl, hb_24⟩
  have hS_24 := ext_trans hS_23 (Nat.le_refl _) hb_24
  refine hK (fun w' => Below (W).heap.size (W) w') _ _ hS_24 (fun _ h => h) ?_
  clear hK K hb_24 hS_23
  try simp only [Act.put, List.setIfInBounds_toArray, List.set_cons_zero, List.set_cons_succ]
  have k3 := k3.below hS_24
  have kb := bel kb hS_24
  refine Tx.bar 127 rfl (by decide +kernel) (fun K hK => ?_)
  refine step_store_arr rfl _ _ _ rfl _ _ rfl rfl _ (by assumption) (by first | (rw [lims_len]; kernel_rfl) | (rw [el_rep]; kernel_rfl) | (rw [el_len]; kernel_rfl) | (rw [byts_len]; kernel_rfl) | (rw [us_len]; kernel_rfl) | kernel_rfl) (by first | (rw [lims_len, lims_len]) | (rw [el_rep, el_rep]) | (rw [el_rep, el_len]; rfl) | (rw [el_len, el_rep]; rfl) | (rw [el_len, el_len]; rfl) | (rw [byts_len, byts_len]) | (rw [lims_len]; rfl) | (rw [byts_len]; rfl) | (rw [us_len, us_len]; rfl) | rfl) (by first | exact lims_one _ _ | exact el_one _ | exact byts_one _ | exact us_one _ | (intro v hv; simp at hv; rcases hv with rfl | rfl | rfl | rfl <;> rfl)) ?_
  refine hK (fun _ => True) 9999 _ _ ?_
  clear hK K
  try simp only [Act.put]
  try simp only [List.setIfInBounds_toArray, List.set_cons_zero, List.set_cons_succ]
  refine Tx.done (by kernel_rfl) ?_
  refine then_row k3 (fun w_25 k3 hoth hbel => ?_)
  have kb := hbel _ _ (by omega) kb
  clear hoth hbel
  go_wp2_with (first | (refine wpList_load_arr2 rfl _ _ rfl _ rfl (by kernel_rfl) _ (by assumption) (by first | (rw [lims_len]; kernel_rfl) | (rw [el_rep]; kernel_rfl) | (rw [el_len]; kernel_rfl) | (rw [byts_len]; kernel_rfl) | (rw [us_len]; kernel_rfl) | kernel_rfl) ?_) | (refine wpList_store_arr rfl _ _ _ rfl _ _ rfl rfl _ (by first | assumption | exact Arr.new _ _ _) (by first | (rw [lims_len]; kernel_rfl) | (rw [el_rep]; kernel_rfl) | (rw [el_len]; kernel_rfl) | (rw [byts_len]; kernel_rfl) | (rw [us_len]; kernel_rfl) | kernel_rfl) (by first | (rw [lims_len, lims_len]) | (rw [el_rep, el_rep]) | (rw [el_rep, el_len]; rfl) | (rw [el_len, el_rep]; rfl) | (rw [el_len, el_len]; rfl) | (rw [byts_len, byts_len]) | (rw [lims_len]; rfl) | (rw [byts_len]; rfl) | (rw [us_len, us_len]; rfl) | rfl) (by first | exact lims_one _ _ | exact el_one _ | exact byts_one _ | exact us_one _ | (intro v hv; simp at hv; rcases hv with rfl | rfl | rfl | rfl <;> rfl)) ?_))
  exact bodyPost_ret (results_arr2 Tryd.results18 _ _ _ rfl (by kernel_rfl) _ (by first | assumption | exact Arr.setRow (by assumption) _) (by first | (rw [lims_len]; kernel_rfl) | (rw [el_rep]; kernel_rfl) | (rw [el_len]; kernel_rfl) | (rw [byts_len]; kernel_rfl) | (rw [us_len]; kernel_rfl) | kernel_rfl)) rfl ⟨rfl, kb⟩

end Go.Proofs.YtdcbpilibaigmaaDoor
