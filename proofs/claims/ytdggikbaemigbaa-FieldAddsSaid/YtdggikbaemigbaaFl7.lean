/- Field laws: the walk of FieldAdds. -/
import Derived.Test.YtdggikbaemigbaaRf7
import Derived.Test.YtdggikbaemigbaaFl1
namespace Go.Proofs.Ytdggikbaemigbaa
open Go.RowKit

set_option maxHeartbeats 4000000 in
set_option maxRecDepth 100000 in
theorem fadds_any (a b : Nat) (w : World) (ha : a < 256 ^ 32) (hb : b < 256 ^ 32) :
    Calls Try.prog 8 #[.agg (byts a).toArray, .agg (byts b).toArray] w fun e w' => e = .returned (.bool true) ∧ Below w.heap.size w w' := by
  obtain ⟨n1, g1⟩ : ∃ r, a % pN = r := ⟨_, rfl⟩
  obtain ⟨n2, g2⟩ : ∃ r, (a + b) % pN = r := ⟨_, rfl⟩
  obtain ⟨n3, g3⟩ : ∃ r, (a % pN + pN - b % pN) % pN = r := ⟨_, rfl⟩
  obtain ⟨n4, g4⟩ : ∃ r, a * b % pN = r := ⟨_, rfl⟩
  have hs : ∀ n, n < 256 ^ 32 → ∀ w, (Op.equalIn 10000 25 (.agg (byts n).toArray) (.agg (byts n).toArray)).run Try.prog w = .ok true w := fun n hn w => eq_num (decide_eq_true rfl) hn hn w
  have q1 := Lib.hid (hs n1 (g1 ▸ p_lt32 _))
  have q2 := Lib.hid (hs n2 (g2 ▸ p_lt32 _))
  have q3 := Lib.hid (hs n3 (g3 ▸ p_lt32 _))
  have q4 := Lib.hid (hs n4 (g4 ▸ p_lt32 _))
  replace g1 := Lib.hid g1
  replace g2 := Lib.hid g2
  replace g3 := Lib.hid g3
  replace g4 := Lib.hid g4
  clear hs
  go_enter Try.func8, Try.ntmps8
  go_upto_region 1 with fail
  refine wp_new2 (fun W hsz k1 k2 kb => ?_)
  go_upto_region 1 with (first | (refine wpList_load_arr2 rfl _ _ rfl _ rfl (by kernel_rfl) _ (by assumption) (by first | (rw [lims_len]; kernel_rfl) | (rw [el_rep]; kernel_rfl) | (rw [el_len]; kernel_rfl) | (rw [byts_len]; kernel_rfl) | (rw [us_len]; kernel_rfl) | kernel_rfl) ?_) | (refine wpList_store_arr rfl _ _ _ rfl _ _ rfl rfl _ (by first | assumption | exact Arr.new _ _ _) (by first | (rw [lims_len]; kernel_rfl) | (rw [el_rep]; kernel_rfl) | (rw [el_len]; kernel_rfl) | (rw [byts_len]; kernel_rfl) | (rw [us_len]; kernel_rfl) | kernel_rfl) (by first | (rw [lims_len, lims_len]) | (rw [el_rep, el_rep]) | (rw [el_rep, el_len]; rfl) | (rw [el_len, el_rep]; rfl) | (rw [el_len, el_len]; rfl) | (rw [byts_len, byts_len]) | (rw [lims_len]; rfl) | (rw [byts_len]; rfl) | (rw [us_len, us_len]; rfl) | rfl) (by first | exact lims_one _ _ | exact el_one _ | exact byts_one _ | exact us_one _ | (intro v hv; simp at hv; rcases hv with rfl | rfl | rfl | rfl <;> rfl)) ?_))
  go_wp2_with (first | (refine wpList_load_arr2 rfl _ _ rfl _ rfl (by kernel_rfl) _ (by assumption) (by first | (rw [lims_len]; kernel_rfl) | (rw [el_rep]; kernel_rfl) | (rw [el_len]; kernel_rfl) | (rw [byts_len]; kernel_rfl) | (rw [us_len]; kernel_rfl) | kernel_rfl) ?_) | (refine wpList_store_arr rfl _ _ _ rfl _ _ rfl rfl _ (by first | assumption | exact Arr.new _ _ _) (by first | (rw [lims_len]; kernel_rfl) | (rw [el_rep]; kernel_rfl) | (rw [el_len]; kernel_rfl) | (rw [byts_len]; kernel_rfl) | (rw [us_len]; kernel_rfl) | kernel_rfl) (by first | (rw [lims_len, lims_len]) | (rw [el_rep, el_rep]) | (rw [el_rep, el_len]; rfl) | (rw [el_len, el_rep]; rfl) | (rw [el_len, el_len]; rfl) | (rw [byts_len, byts_len]) | (rw [lims_len]; rfl) | (rw [byts_len]; rfl) | (rw [us_len, us_len]; rfl) | rfl) (by first | exact lims_one _ _ | exact el_one _ | exact byts_one _ | exact us_one _ | (intro v hv; simp at hv; rcases hv with rfl | rfl | rfl | rfl <;> rfl)) ?_))
  refine (alive3_any _).mono ?_
  rintro e w_1 ⟨rfl, hb_1⟩
  have k1 := k1.below hb_1
  have k2 := k2.below hb_1
  have kb := bel kb hb_1
  clear hb_1
  go_upto_region 2 with (first | (refine wpList_load_arr2 rfl _ _ rfl _ rfl (by kernel_rfl) _ (by assumption) (by first | (rw [lims_len]; kernel_rfl) | (rw [el_rep]; kernel_rfl) | (rw [el_len]; kernel_rfl) | (rw [byts_len]; kernel_rfl) | (rw [us_len]; kernel_rfl) | kernel_rfl) ?_) | (refine wpList_store_arr rfl _ _ _ rfl _ _ rfl rfl _ (by first | assumption | exact Arr.new _ _ _) (by first | (rw [lims_len]; kernel_rfl) | (rw [el_rep]; kernel_rfl) | (rw [el_len]; kernel_rfl) | (rw [byts_len]; kernel_rfl) | (rw [us_len]; kernel_rfl) | kernel_rfl) (by first | (rw [lims_len, lims_len]) | (rw [el_rep, el_rep]) | (rw [el_rep, el_len]; rfl) | (rw [el_len, el_rep]; rfl) | (rw [el_len, el_len]; rfl) | (rw [byts_len, byts_len]) | (rw [lims_len]; rfl) | (rw [byts_len]; rfl) | (rw [us_len, us_len]; rfl) | rfl) (by first | exact lims_one _ _ | exact el_one _ | exact byts_one _ | exact us_one _ | (intro v hv; simp at hv; rcases hv with rfl | rfl | rfl | rfl <;> rfl)) ?_))
  refine Tx.start (fun w' => Below (w_1).heap.size (w_1) w') 9999 36 rfl (by kernel_rfl) ?_
  have hS_2 : Below (w_1).heap.size (w_1) (World.drew w_1) := (Below.refl _ _).drew
  refine Tx.seg (A := ?_) 32 23 (by kernel_rfl) (by exact hS_2) [0, 1, 2, 4] (by kernel_rfl) ?_ ?_
  rotate_left
  · intro w' hB
    have e0 := k1.below hB
    have e1 := k2.below hB
    iterate 4 (first | (refine rd_skip rfl rfl ?_; simp only [Act.put, List.setIfInBounds_toArray, List.set_cons_zero, List.set_cons_succ]) | (refine rd_load_arr rfl rfl _ _ rfl _ rfl (by kernel_rfl) _ (by assumption) (by first | (rw [lims_len]; kernel_rfl) | (rw [el_rep]; kernel_rfl) | (rw [el_len]; kernel_rfl) | (rw [byts_len]; kernel_rfl) | (rw [us_len]; kernel_rfl) | kernel_rfl) ?_; simp only [Act.put, List.setIfInBounds_toArray, List.set_cons_zero, List.set_cons_succ]) | (refine rd_take (v := ?_) rfl rfl ?_ ?_; rotate_left; (focus (go_simp; try (with_reducible rfl))); simp only [Act.put, List.setIfInBounds_toArray, List.set_cons_zero, List.set_cons_succ]))
    exact rd_nil
  refine Tx.eff 3 31 rfl (by decide +kernel) (fun K hK => ?_)
  go_simp
  refine (fcanon_r g1 ha _).mono ?_
  rintro e w_3 ⟨rfl, hb_3⟩
  have hS_3 := ext_trans hS_2 (Nat.le_refl _) hb_3
  refine hK (fun w' => Below (w_1).heap.size (w_1) w') _ _ hS_3 (fun _ h => h) ?_
  clear hK K hb_3 hS_2
  try simp only [Act.put, List.setIfInBounds_toArray, List.set_cons_zero, List.set_cons_succ]
  refine Tx.eff 5 63 rfl (by decide +kernel) (fun K hK => ?_)
  go_simp
  refine (rCanon_r g1 ha _).mono ?_
  rintro e w_4 ⟨rfl, hb_4⟩
  have hS_4 := ext_trans hS_3 (Nat.le_refl _) hb_4
  refine hK (fun w' => Below (w_1).heap.size (w_1) w') _ _ hS_4 (fun _ h => h) ?_
  clear hK K hb_4 hS_3
  try simp only [Act.put, List.setIfInBounds_toArray, List.set_cons_zero, List.set_cons_succ]
  refine Tx.seg (A := ?_) 23 14335 (by kernel_rfl) (by exact hS_4) [6, 7, 8, 9, 10, 12, 13] (by kernel_rfl) ?_ ?_
  rotate_left
  · intro w' hB
    have e0 := k1.below hB
    have e1 := k2.below hB
    have q1 := q1.out w'
    iterate 7 (first | (refine rd_skip rfl rfl ?_; simp only [Act.put, List.setIfInBounds_toArray, List.set_cons_zero, List.set_cons_succ]) | (refine rd_load_arr rfl rfl _ _ rfl _ rfl (by kernel_rfl) _ (by assumption) (by first | (rw [lims_len]; kernel_rfl) | (rw [el_rep]; kernel_rfl) | (rw [el_len]; kernel_rfl) | (rw [byts_len]; kernel_rfl) | (rw [us_len]; kernel_rfl) | kernel_rfl) ?_; simp only [Act.put, List.setIfInBounds_toArray, List.set_cons_zero, List.set_cons_succ]) | (refine rd_take (v := ?_) rfl rfl ?_ ?_; rotate_left; (focus (go_simp; try (with_reducible rfl))); simp only [Act.put, List.setIfInBounds_toArray, List.set_cons_zero, List.set_cons_succ]))
    exact rd_nil
  refine Tx.eff 11 16383 rfl (by decide +kernel) (fun K hK => ?_)
  go_simp
  refine (fadd_r g2 ha hb _).mono ?_
  rintro e w_5 ⟨rfl, hb_5⟩
  have hS_5 := ext_trans hS_4 (Nat.le_refl _) hb_5
  refine hK (fun w' => Below (w_1).heap.size (w_1) w') _ _ hS_5 (fun _ h => h) ?_
  clear hK K hb_5 hS_4
  try simp only [Act.put, List.setIfInBounds_toArray, List.set_cons_zero, List.set_cons_succ]
  refine Tx.eff 14 32767 rfl (by decide +kernel) (fun K hK => ?_)
  go_simp
  refine (rAdd_r g2 ha hb _).mono ?_
  rintro e w_6 ⟨rfl, hb_6⟩
  have hS_6 := ext_trans hS_5 (Nat.le_refl _) hb_6
  refine hK (fun w' => Below (w_1).heap.size (w_1) w') _ _ hS_6 (fun _ h => h) ?_
  clear hK K hb_6 hS_5
  try simp only [Act.put, List.setIfInBounds_toArray, List.set_cons_zero, List.set_cons_succ]
  refine Tx.seg (A := ?_) 14 7340031 (by kernel_rfl) (by exact hS_6) [15, 16, 17, 18, 19, 21, 22] (by kernel_rfl) ?_ ?_
  rotate_left
  · intro w' hB
    have e0 := k1.below hB
    have e1 := k2.below hB
    have q2 := q2.out w'
    iterate 7 (first | (refine rd_skip rfl rfl ?_; simp only [Act.put, List.setIfInBounds_toArray, List.set_cons_zero, List.set_cons_succ]) | (refine rd_load_arr rfl rfl _ _ rfl _ rfl (by kernel_rfl) _ (by assumption) (by first | (rw [lims_len]; kernel_rfl) | (rw [el_rep]; kernel_rfl) | (rw [el_len]; kernel_rfl) | (rw [byts_len]; kernel_rfl) | (rw [us_len]; kernel_rfl) | kernel_rfl) ?_; simp only [Act.put, List.setIfInBounds_toArray, List.set_cons_zero, List.set_cons_succ]) | (refine rd_take (v := ?_) rfl rfl ?_ ?_; rotate_left; (focus (go_simp; try (with_reducible rfl))); simp only [Act.put, List.setIfInBounds_toArray, List.set_cons_zero, List.set_cons_succ]))
    exact rd_nil
  refine Tx.eff 20 8388607 rfl (by decide +kernel) (fun K hK => ?_)
  go_simp
  refine (fsub_r g3 ha hb _).mono ?_
  rintro e w_7 ⟨rfl, hb_7⟩
  have hS_7 := ext_trans hS_6 (Nat.le_refl _) hb_7
  refine hK (fun w' => Below (w_1).heap.size (w_1) w') _ _ hS_7 (fun _ h => h) ?_
  clear hK K hb_7 hS_6
  try simp only [Act.put, List.setIfInBounds_toArray, List.set_cons_zero, List.set_cons_succ]
  refine Tx.eff 23 16777215 rfl (by decide +kernel) (fun K hK => ?_)
  go_simp
  refine (rSub_r g3 ha hb _).mono ?_
  rintro e w_8 ⟨rfl, hb_8⟩
  have hS_8 := ext_trans hS_7 (Nat.le_refl _) hb_8
  refine hK (fun w' => Below (w_1).heap.size (w_1) w') _ _ hS_8 (fun _ h => h) ?_
  clear hK K hb_8 hS_7
  try simp only [Act.put, List.setIfInBounds_toArray, List.set_cons_zero, List.set_cons_succ]
  refine Tx.seg (A := ?_) 5 3758096383 (by kernel_rfl) (by exact hS_8) [24, 25, 26, 27, 28, 30, 31] (by kernel_rfl) ?_ ?_
  rotate_left
  · intro w' hB
    have e0 := k1.below hB
    have e1 := k2.below hB
    have q3 := q3.out w'
    iterate 7 (first | (refine rd_skip rfl rfl ?_; simp only [Act.put, List.setIfInBounds_toArray, List.set_cons_zero, List.set_cons_succ]) | (refine rd_load_arr rfl rfl _ _ rfl _ rfl (by kernel_rfl) _ (by assumption) (by first | (rw [lims_len]; kernel_rfl) | (rw [el_rep]; kernel_rfl) | (rw [el_len]; kernel_rfl) | (rw [byts_len]; kernel_rfl) | (rw [us_len]; kernel_rfl) | kernel_rfl) ?_; simp only [Act.put, List.setIfInBounds_toArray, List.set_cons_zero, List.set_cons_succ]) | (refine rd_take (v := ?_) rfl rfl ?_ ?_; rotate_left; (focus (go_simp; try (with_reducible rfl))); simp only [Act.put, List.setIfInBounds_toArray, List.set_cons_zero, List.set_cons_succ]))
    exact rd_nil
  refine Tx.eff 29 4294967295 rfl (by decide +kernel) (fun K hK => ?_)
  go_simp
  refine (fmul_r g4 ha hb _).mono ?_
  rintro e w_9 ⟨rfl, hb_9⟩
  have hS_9 := ext_trans hS_8 (Nat.le_refl _) hb_9
  refine hK (fun w' => Below (w_1).heap.size (w_1) w') _ _ hS_9 (fun _ h => h) ?_
  clear hK K hb_9 hS_8
  try simp only [Act.put, List.setIfInBounds_toArray, List.set_cons_zero, List.set_cons_succ]
  refine Tx.eff 32 8589934591 rfl (by decide +kernel) (fun K hK => ?_)
  go_simp
  refine (rMul_r g4 ha hb _).mono ?_
  rintro e w_10 ⟨rfl, hb_10⟩
  have hS_10 := ext_trans hS_9 (Nat.le_refl _) hb_10
  refine hK (fun w' => Below (w_1).heap.size (w_1) w') _ _ hS_10 (fun _ h => h) ?_
  clear hK K hb_10 hS_9
  try simp only [Act.put, List.setIfInBounds_toArray, List.set_cons_zero, List.set_cons_succ]
  refine Tx.seg (A := ?_) 0 68719476735 (by kernel_rfl) (by exact hS_10) [33, 34, 35] (by kernel_rfl) ?_ ?_
  rotate_left
  · intro w' hB
    have q4 := q4.out w'
    iterate 3 (first | (refine rd_skip rfl rfl ?_; simp only [Act.put, List.setIfInBounds_toArray, List.set_cons_zero, List.set_cons_succ]) | (refine rd_load_arr rfl rfl _ _ rfl _ rfl (by kernel_rfl) _ (by assumption) (by first | (rw [lims_len]; kernel_rfl) | (rw [el_rep]; kernel_rfl) | (rw [el_len]; kernel_rfl) | (rw [byts_len]; kernel_rfl) | (rw [us_len]; kernel_rfl) | kernel_rfl) ?_; simp only [Act.put, List.setIfInBounds_toArray, List.set_cons_zero, List.set_cons_succ]) | (refine rd_take (v := ?_) rfl rfl ?_ ?_; rotate_left; (focus (go_simp; try (with_reducible rfl))); simp only [Act.put, List.setIfInBounds_toArray, List.set_cons_zero, List.set_cons_succ]))
    exact rd_nil
  refine Tx.done (by kernel_rfl) ?_
  have k1 := k1.below hS_10
  have k2 := k2.below hS_10
  have kb := bel kb hS_10
  clear hS_10
  go_wp2_with fail
  go_ret
  exact ⟨rfl, kb⟩

end Go.Proofs.Ytdggikbaemigbaa
