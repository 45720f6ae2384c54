/- The walk of ScalarSums. -/
import Derived.Test.YtdcbpilibaigmaaDoorSr
import Derived.Test.YtdcbpilibaigmaaDoorRq4
namespace Go.Proofs.YtdcbpilibaigmaaDoor
open Go.RowKit

set_option maxHeartbeats 4000000 in
set_option maxRecDepth 100000 in
theorem ssums_any (a b : Nat) (w : World) (ha : a < 256 ^ 32) (hb : b < 256 ^ 32) (kG : Arr w 0 (el (dgl 32 qN))) :
    Calls Tryd.prog 4 #[.agg (byts a).toArray, .agg (byts b).toArray] w fun e w' => e = .returned (.bool true) ∧ Below w.heap.size w w' := by
  have hG1 := kG.lt
  obtain ⟨s, hs⟩ : ∃ r, (a + b) % qN = r := ⟨_, rfl⟩
  obtain ⟨m, hm⟩ : ∃ r, a * b % qN = r := ⟨_, rfl⟩
  have ls : s < 256 ^ 32 := hs ▸ mod_q_lt _
  have lm : m < 256 ^ 32 := hm ▸ mod_q_lt _
  have c1 := fun w => scAdd_r (Lib.hid hs) ha hb w
  have c2 := fun w kG => rqAdd_any a b ha hb w kG
  have c3 := fun w => scMul_r (Lib.hid hm) ha hb w
  have c4 := fun w kG => rqMul_any a b ha hb w kG
  have c5 := fun w => scLess_any a ha w
  have c6 := fun w kG => rqLess_any a ha w kG
  rw [hs] at c2
  rw [hm] at c4
  obtain ⟨t, ht⟩ : ∃ t, decide (a < qN) = t := ⟨_, rfl⟩
  rw [ht] at c5 c6
  have q1 := eq_true s s rfl ls
  have q2 := eq_true m m rfl lm
  replace c1 := Lib.hid c1
  replace c2 := Lib.hid c2
  replace c3 := Lib.hid c3
  replace c4 := Lib.hid c4
  replace c5 := Lib.hid c5
  replace c6 := Lib.hid c6
  replace q1 := Lib.hid q1
  replace q2 := Lib.hid q2
  clear hs hm ls lm ht ha hb
  go_enter Tryd.func4, Tryd.ntmps4
  go_upto_region 1 with fail
  refine wp_new2 (fun W hsz k1 k2 kb => ?_)
  have kG : Arr W _ (el (dgl 32 qN)) := kG.below kb
  clear hsz
  go_wp2_with fail
  refine (alive4_any _).mono ?_
  rintro e w1 ⟨rfl, hb1⟩
  have k1 := k1.below hb1
  have k2 := k2.below hb1
  have kG := kG.below hb1
  have kb := bel kb hb1
  clear hb1
  go_upto_region 2 with fail
  refine Tx.start (fun w' => Below (w1).heap.size (w1) w') 9999 27 rfl (by kernel_rfl) ?_
  have hS_1 : Below (w1).heap.size (w1) (World.drew w1) := (Below.refl _ _).drew
  refine Tx.seg (A := ?_) 21 111 (by kernel_rfl) (by exact hS_1) [0, 1, 2, 3, 5, 6] (by kernel_rfl) ?_ ?_
  rotate_left
  · intro w' hB
    have e1 := k1.below hB
    have e2 := k2.below hB
    iterate 6 (first | (refine rd_skip rfl rfl ?_; simp only [Act.put, List.setIfInBounds_toArray, List.set_cons_zero, List.set_cons_succ]) | (refine rd_load_arr rfl rfl _ _ rfl _ rfl (by kernel_rfl) _ (by assumption) (by first | (rw [lims_len]; kernel_rfl) | (rw [el_rep]; kernel_rfl) | (rw [el_len]; kernel_rfl) | (rw [byts_len]; kernel_rfl) | (rw [us_len]; kernel_rfl) | kernel_rfl) ?_; simp only [Act.put, List.setIfInBounds_toArray, List.set_cons_zero, List.set_cons_succ]) | (refine rd_take (v := ?_) rfl rfl ?_ ?_; rotate_left; (focus (go_simp; try (with_reducible rfl))); simp only [Act.put, List.setIfInBounds_toArray, List.set_cons_zero, List.set_cons_succ]))
    exact rd_nil
  refine Tx.eff 4 127 rfl (by decide +kernel) (fun K hK => ?_)
  go_simp
  refine (c1.out _).mono ?_
  rintro e w_2 ⟨rfl, hb_2⟩
  have hS_2 := ext_trans hS_1 (Nat.le_refl _) hb_2
  refine hK (fun w' => Below (w1).heap.size (w1) w') _ _ hS_2 (fun _ h => h) ?_
  clear hK K hb_2 hS_1
  try simp only [Act.put, List.setIfInBounds_toArray, List.set_cons_zero, List.set_cons_succ]
  refine Tx.eff 7 255 rfl (by decide +kernel) (fun K hK => ?_)
  go_simp
  refine (c2.out _ (kG.below hS_2)).mono ?_
  rintro e w_3 ⟨rfl, hb_3⟩
  have hS_3 := ext_trans hS_2 (Nat.le_refl _) hb_3
  refine hK (fun w' => Below (w1).heap.size (w1) w') _ _ hS_3 (fun _ h => h) ?_
  clear hK K hb_3 hS_2
  try simp only [Act.put, List.setIfInBounds_toArray, List.set_cons_zero, List.set_cons_succ]
  refine Tx.seg (A := ?_) 12 57343 (by kernel_rfl) (by exact hS_3) [8, 9, 10, 11, 12, 14, 15] (by kernel_rfl) ?_ ?_
  rotate_left
  · intro w' hB
    have e1 := k1.below hB
    have e2 := k2.below hB
    have e3 := q1.out w'
    iterate 7 (first | (refine rd_skip rfl rfl ?_; simp only [Act.put, List.setIfInBounds_toArray, List.set_cons_zero, List.set_cons_succ]) | (refine rd_load_arr rfl rfl _ _ rfl _ rfl (by kernel_rfl) _ (by assumption) (by first | (rw [lims_len]; kernel_rfl) | (rw [el_rep]; kernel_rfl) | (rw [el_len]; kernel_rfl) | (rw [byts_len]; kernel_rfl) | (rw [us_len]; kernel_rfl) | kernel_rfl) ?_; simp only [Act.put, List.setIfInBounds_toArray, List.set_cons_zero, List.set_cons_succ]) | (refine rd_take (v := ?_) rfl rfl ?_ ?_; rotate_left; (focus (go_simp; try (with_reducible rfl))); simp only [Act.put, List.setIfInBounds_toArray, List.set_cons_zero, List.set_cons_succ]))
    exact rd_nil
  refine Tx.eff 13 65535 rfl (by decide +kernel) (fun K hK => ?_)
  go_simp
  refine (c3.out _).mono ?_
  rintro e w_4 ⟨rfl, hb_4⟩
  have hS_4 := ext_trans hS_3 (Nat.le_refl _) hb_4
  refine hK (fun w' => Below (w1).heap.size (w1) w') _ _ hS_4 (fun _ h => h) ?_
  clear hK K hb_4 hS_3
  try simp only [Act.put, List.setIfInBounds_toArray, List.set_cons_zero, List.set_cons_succ]
  refine Tx.eff 16 131071 rfl (by decide +kernel) (fun K hK => ?_)
  go_simp
  refine (c4.out _ (kG.below hS_4)).mono ?_
  rintro e w_5 ⟨rfl, hb_5⟩
  have hS_5 := ext_trans hS_4 (Nat.le_refl _) hb_5
  refine hK (fun w' => Below (w1).heap.size (w1) w') _ _ hS_5 (fun _ h => h) ?_
  clear hK K hb_5 hS_4
  try simp only [Act.put, List.setIfInBounds_toArray, List.set_cons_zero, List.set_cons_succ]
  refine Tx.seg (A := ?_) 5 6291455 (by kernel_rfl) (by exact hS_5) [17, 18, 19, 20, 22] (by kernel_rfl) ?_ ?_
  rotate_left
  · intro w' hB
    have e1 := k1.below hB
    have e2 := k2.below hB
    have e3 := q2.out w'
    iterate 5 (first | (refine rd_skip rfl rfl ?_; simp only [Act.put, List.setIfInBounds_toArray, List.set_cons_zero, List.set_cons_succ]) | (refine rd_load_arr rfl rfl _ _ rfl _ rfl (by kernel_rfl) _ (by assumption) (by first | (rw [lims_len]; kernel_rfl) | (rw [el_rep]; kernel_rfl) | (rw [el_len]; kernel_rfl) | (rw [byts_len]; kernel_rfl) | (rw [us_len]; kernel_rfl) | kernel_rfl) ?_; simp only [Act.put, List.setIfInBounds_toArray, List.set_cons_zero, List.set_cons_succ]) | (refine rd_take (v := ?_) rfl rfl ?_ ?_; rotate_left; (focus (go_simp; try (with_reducible rfl))); simp only [Act.put, List.setIfInBounds_toArray, List.set_cons_zero, List.set_cons_succ]))
    exact rd_nil
  refine Tx.eff 21 8388607 rfl (by decide +kernel) (fun K hK => ?_)
  go_simp
  refine (c5.out _).mono ?_
  rintro e w_6 ⟨rfl, hb_6⟩
  have hS_6 := ext_trans hS_5 (Nat.le_refl _) hb_6
  refine hK (fun w' => Below (w1).heap.size (w1) w') _ _ hS_6 (fun _ h => h) ?_
  clear hK K hb_6 hS_5
  try simp only [Act.put, List.setIfInBounds_toArray, List.set_cons_zero, List.set_cons_succ]
  refine Tx.eff 23 16777215 rfl (by decide +kernel) (fun K hK => ?_)
  go_simp
  refine (c6.out _ (kG.below hS_6)).mono ?_
  rintro e w_7 ⟨rfl, hb_7⟩
  have hS_7 := ext_trans hS_6 (Nat.le_refl _) hb_7
  refine hK (fun w' => Below (w1).heap.size (w1) w') _ _ hS_7 (fun _ h => h) ?_
  clear hK K hb_7 hS_6
  try simp only [Act.put, List.setIfInBounds_toArray, List.set_cons_zero, List.set_cons_succ]
  refine Tx.seg (A := ?_) 0 134217727 (by kernel_rfl) (by exact hS_7) [24, 25, 26] (by kernel_rfl) ?_ ?_
  rotate_left
  · intro w' hB
    iterate 3 (first | (refine rd_skip rfl rfl ?_; simp only [Act.put, List.setIfInBounds_toArray, List.set_cons_zero, List.set_cons_succ]) | (refine rd_load_arr rfl rfl _ _ rfl _ rfl (by kernel_rfl) _ (by assumption) (by first | (rw [lims_len]; kernel_rfl) | (rw [el_rep]; kernel_rfl) | (rw [el_len]; kernel_rfl) | (rw [byts_len]; kernel_rfl) | (rw [us_len]; kernel_rfl) | kernel_rfl) ?_; simp only [Act.put, List.setIfInBounds_toArray, List.set_cons_zero, List.set_cons_succ]) | (refine rd_take (v := ?_) rfl rfl ?_ ?_; rotate_left; (focus (go_simp; try (with_reducible rfl))); simp only [Act.put, List.setIfInBounds_toArray, List.set_cons_zero, List.set_cons_succ]))
    exact rd_nil
  refine Tx.done (by kernel_rfl) ?_
  have kb := bel kb hS_7
  go_wp2_with fail
  go_ret
  exact ⟨rfl, kb⟩

end Go.Proofs.YtdcbpilibaigmaaDoor
