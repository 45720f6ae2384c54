/- Ladder laws: the walk of LadderBits. -/
import Derived.Test.YtdggikbaemigbaaLl1
namespace Go.Proofs.Ytdggikbaemigbaa
open Go.RowKit

set_option maxHeartbeats 4000000 in
set_option maxRecDepth 100000 in
theorem lbits_any (k u : Nat) (z1 z2 z3 : Int) (w : World) (hk : k < 256 ^ 32) (hu : u < 256 ^ 32) (h1 : (Lit.int .u8 z1).wf = true) (h2 : (Lit.int .u8 z2).wf = true) (h3 : (Lit.int .u8 z3).wf = true) :
    Calls Try.prog 21 #[.agg (byts k).toArray, .agg (byts u).toArray, .int .u8 z1, .int .u8 z2, .int .u8 z3] w fun e w' => e = .returned (.bool true) ∧ Below w.heap.size w w' := by
  have h1' := wf_u8 h1
  have h2' := wf_u8 h2
  have h3' := wf_u8 h3
  obtain ⟨lo, rfl⟩ : ∃ n : Nat, z1 = (n : Int) := ⟨z1.toNat, by omega⟩
  obtain ⟨hi, rfl⟩ : ∃ n : Nat, z2 = (n : Int) := ⟨z2.toNat, by omega⟩
  obtain ⟨tp, rfl⟩ : ∃ n : Nat, z3 = (n : Int) := ⟨z3.toNat, by omega⟩
  have llo : lo < 256 := by omega
  have lhi : hi < 256 := by omega
  have ltp : tp < 256 := by omega
  clear h1 h1' h2 h2' h3 h3'
  obtain ⟨d0, hd0⟩ : ∃ d, k / 256 ^ 0 % 256 = d := ⟨_, rfl⟩
  have l0 : d0 < 256 := hd0 ▸ Nat.mod_lt _ (by decide)
  have a1 := and_248 d0 l0
  have a2 := and_7 lo llo
  have a3 := bits_low d0 l0 (lo % 8) (Nat.mod_lt _ (by decide))
  obtain ⟨k1, hk1⟩ : ∃ k1, k - d0 + (d0 - d0 % 8 + lo % 8) = k1 := ⟨_, rfl⟩
  have s1 : (byts k).set 0 (.int .u8 ((d0 - d0 % 8 + lo % 8 : Nat) : Int)) = byts k1 := byts_set (by decide) hk (by omega) (by rw [hd0]; omega)
  have hk1l : k1 < 256 ^ 32 := by omega
  obtain ⟨d31, hd31⟩ : ∃ d, k1 / 256 ^ 31 % 256 = d := ⟨_, rfl⟩
  have l31 : d31 < 256 := hd31 ▸ Nat.mod_lt _ (by decide)
  have a4 := and_63 d31 l31
  have a5 := and_192 hi lhi
  have a6 := or_192 (d31 % 64) (Nat.mod_lt _ (by decide)) (hi / 64) (by omega)
  obtain ⟨k2', hk2⟩ : ∃ k2, k1 % 256 ^ 31 + (d31 % 64 + hi / 64 * 64) * 256 ^ 31 = k2 := ⟨_, rfl⟩
  have hd31' : k1 / 256 ^ 31 = d31 := by omega
  have s2 : (byts k1).set 31 (.int .u8 ((d31 % 64 + hi / 64 * 64 : Nat) : Int)) = byts k2' := byts_set (by decide) hk1l (by omega) (by rw [hd31]; omega)
  have hk2l : k2' < 256 ^ 32 := by omega
  obtain ⟨e31, he31⟩ : ∃ d, u / 256 ^ 31 % 256 = d := ⟨_, rfl⟩
  have m31 : e31 < 256 := he31 ▸ Nat.mod_lt _ (by decide)
  have a7 := and_127 e31 m31
  have a8 := and_128 tp ltp
  have a9 := or_128 (e31 % 128) (Nat.mod_lt _ (by decide)) (tp / 128) (by omega)
  obtain ⟨u1, hu1⟩ : ∃ u1, u % 256 ^ 31 + (e31 % 128 + tp / 128 * 128) * 256 ^ 31 = u1 := ⟨_, rfl⟩
  have he31' : u / 256 ^ 31 = e31 := by omega
  have s3 : (byts u).set 31 (.int .u8 ((e31 % 128 + tp / 128 * 128 : Nat) : Int)) = byts u1 := byts_set (by decide) hu (by omega) (by rw [he31]; omega)
  have hu1l : u1 < 256 ^ 32 := by omega
  have hcl : clampN k2' = clampN k := by
    unfold clampN
    congr 1
    omega
  have hul : u1 % 2 ^ 255 = u % 2 ^ 255 := by omega
  obtain ⟨r, hr⟩ : ∃ r, lmulN k u = r := ⟨_, rfl⟩
  have hr2 : lmulN k2' u1 = r := by rw [← hr]; unfold lmulN; rw [hcl, hul]
  have lr : r < 256 ^ 32 := hr ▸ lmul_lt _ _
  have q1 := Lib.hid (eq_num (m := r) (n := r) (b := true) (decide_eq_true rfl) lr lr)
  have c1 := Lib.hid (fun w => lmul_r (Lib.hid hr2) hk2l hu1l w)
  have c2 := Lib.hid (fun w => lmul_r (Lib.hid hr) hk hu w)
  have g0 := byts_get k 0 (by decide)
  have g31 := byts_get k1 31 (by decide)
  have f31 := byts_get u 31 (by decide)
  rw [hd0] at g0
  rw [hd31] at g31
  rw [he31] at f31
  obtain ⟨v1, hv1⟩ : ∃ v, d0 - d0 % 8 + lo % 8 = v := ⟨_, rfl⟩
  obtain ⟨v2, hv2⟩ : ∃ v, d31 % 64 + hi / 64 * 64 = v := ⟨_, rfl⟩
  obtain ⟨v3, hv3⟩ : ∃ v, e31 % 128 + tp / 128 * 128 = v := ⟨_, rfl⟩
  obtain ⟨x1, hx1⟩ : ∃ v, d0 - d0 % 8 = v := ⟨_, rfl⟩
  obtain ⟨x2, hx2⟩ : ∃ v, lo % 8 = v := ⟨_, rfl⟩
  obtain ⟨x3, hx3⟩ : ∃ v, d31 % 64 = v := ⟨_, rfl⟩
  obtain ⟨x4, hx4⟩ : ∃ v, hi / 64 * 64 = v := ⟨_, rfl⟩
  obtain ⟨x5, hx5⟩ : ∃ v, e31 % 128 = v := ⟨_, rfl⟩
  obtain ⟨x6, hx6⟩ : ∃ v, tp / 128 * 128 = v := ⟨_, rfl⟩
  rw [hv1] at s1 a3
  rw [hv2] at s2 a6
  rw [hv3] at s3 a9
  rw [hx1] at a1 a3
  rw [hx2] at a2 a3
  rw [hx3] at a4 a6
  rw [hx4] at a5 a6
  rw [hx5] at a7 a9
  rw [hx6] at a8 a9
  replace s1 := Lib.hid s1
  replace s2 := Lib.hid s2
  replace s3 := Lib.hid s3
  replace g0 := Lib.hid g0
  replace g31 := Lib.hid g31
  replace f31 := Lib.hid f31
  clear hr hr2 lr hcl hul hu1l hu1 he31' he31 hk2l hk2 hd31' hd31 hk1l hk1 hd0 hk hu hv1 hv2 hv3 hx1 hx2 hx3 hx4 hx5 hx6
  go_enter Try.func21, Try.ntmps21
  go_upto_region 1 with fail
  refine wp_new2 (fun W hsz k5 k6 kb => ?_)
  clear hsz
  go_upto_region 1 with (first | (refine wpList_load_arr2 rfl _ _ rfl _ rfl (by kernel_rfl) _ (by assumption) (by first | (rw [lims_len]; kernel_rfl) | (rw [el_rep]; kernel_rfl) | (rw [el_len]; kernel_rfl) | (rw [byts_len]; kernel_rfl) | (rw [us_len]; kernel_rfl) | kernel_rfl) ?_) | (refine wpList_store_arr rfl _ _ _ rfl _ _ rfl rfl _ (by first | assumption | exact Arr.new _ _ _) (by first | (rw [lims_len]; kernel_rfl) | (rw [el_rep]; kernel_rfl) | (rw [el_len]; kernel_rfl) | (rw [byts_len]; kernel_rfl) | (rw [us_len]; kernel_rfl) | kernel_rfl) (by first | (rw [lims_len, lims_len]) | (rw [el_rep, el_rep]) | (rw [el_rep, el_len]; rfl) | (rw [el_len, el_rep]; rfl) | (rw [el_len, el_len]; rfl) | (rw [byts_len, byts_len]) | (rw [lims_len]; rfl) | (rw [byts_len]; rfl) | (rw [us_len, us_len]; rfl) | rfl) (by first | exact lims_one _ _ | exact el_one _ | exact byts_one _ | exact us_one _ | (intro v hv; simp at hv; rcases hv with rfl | rfl | rfl | rfl <;> rfl)) ?_))
  go_wp2_with (first | (refine wpList_load_arr2 rfl _ _ rfl _ rfl (by kernel_rfl) _ (by assumption) (by first | (rw [lims_len]; kernel_rfl) | (rw [el_rep]; kernel_rfl) | (rw [el_len]; kernel_rfl) | (rw [byts_len]; kernel_rfl) | (rw [us_len]; kernel_rfl) | kernel_rfl) ?_) | (refine wpList_store_arr rfl _ _ _ rfl _ _ rfl rfl _ (by first | assumption | exact Arr.new _ _ _) (by first | (rw [lims_len]; kernel_rfl) | (rw [el_rep]; kernel_rfl) | (rw [el_len]; kernel_rfl) | (rw [byts_len]; kernel_rfl) | (rw [us_len]; kernel_rfl) | kernel_rfl) (by first | (rw [lims_len, lims_len]) | (rw [el_rep, el_rep]) | (rw [el_rep, el_len]; rfl) | (rw [el_len, el_rep]; rfl) | (rw [el_len, el_len]; rfl) | (rw [byts_len, byts_len]) | (rw [lims_len]; rfl) | (rw [byts_len]; rfl) | (rw [us_len, us_len]; rfl) | rfl) (by first | exact lims_one _ _ | exact el_one _ | exact byts_one _ | exact us_one _ | (intro v hv; simp at hv; rcases hv with rfl | rfl | rfl | rfl <;> rfl)) ?_))
  refine (alive12_any _).mono ?_
  rintro e w_1 ⟨rfl, hb_1⟩
  have k5 := k5.below hb_1
  have k6 := k6.below hb_1
  have kb := bel kb hb_1
  clear hb_1
  go_upto_region 3 with (first | (refine wpList_load_arr2 rfl _ _ rfl _ rfl (by kernel_rfl) _ (by assumption) (by first | (rw [lims_len]; kernel_rfl) | (rw [el_rep]; kernel_rfl) | (rw [el_len]; kernel_rfl) | (rw [byts_len]; kernel_rfl) | (rw [us_len]; kernel_rfl) | kernel_rfl) ?_) | (refine wpList_store_arr rfl _ _ _ rfl _ _ rfl rfl _ (by first | assumption | exact Arr.new _ _ _) (by first | (rw [lims_len]; kernel_rfl) | (rw [el_rep]; kernel_rfl) | (rw [el_len]; kernel_rfl) | (rw [byts_len]; kernel_rfl) | (rw [us_len]; kernel_rfl) | kernel_rfl) (by first | (rw [lims_len, lims_len]) | (rw [el_rep, el_rep]) | (rw [el_rep, el_len]; rfl) | (rw [el_len, el_rep]; rfl) | (rw [el_len, el_len]; rfl) | (rw [byts_len, byts_len]) | (rw [lims_len]; rfl) | (rw [byts_len]; rfl) | (rw [us_len, us_len]; rfl) | rfl) (by first | exact lims_one _ _ | exact el_one _ | exact byts_one _ | exact us_one _ | (intro v hv; simp at hv; rcases hv with rfl | rfl | rfl | rfl <;> rfl)) ?_))
  have hg_k12_k5 := k5.lt
  have hg_k12_k6 := k6.lt
  refine code_new (fun w_2 k12 hnew => ?_)
  have k5 := k5.below hnew
  have k6 := k6.below hnew
  have kb := bel kb hnew
  clear hnew
  generalize (w_1).heap.size = g_k12 at k12 hg_k12_k5 hg_k12_k6 ⊢
  have hcel := k12.cell g0.out
  have hfro := k12.frozen 0
  go_upto_region 4 with fail
  refine code_cell k12 (fun w_3 k12 hoth hbel => ?_)
  have k5 := hoth _ _ (by omega) k5
  have k6 := hoth _ _ (by omega) k6
  have kb := hbel _ _ (by omega) kb
  clear hoth hbel
  rw [s1.out] at k12
  clear hcel hfro a1 a2 a3
  have hcel := k12.cell g31.out
  have hfro := k12.frozen 31
  go_upto_region 5 with fail
  refine code_cell k12 (fun w_4 k12 hoth hbel => ?_)
  have k5 := hoth _ _ (by omega) k5
  have k6 := hoth _ _ (by omega) k6
  have kb := hbel _ _ (by omega) kb
  clear hoth hbel
  rw [s2.out] at k12
  clear hcel hfro a4 a5 a6
  go_upto_region 6 with (first | (refine wpList_load_arr2 rfl _ _ rfl _ rfl (by kernel_rfl) _ (by assumption) (by first | (rw [lims_len]; kernel_rfl) | (rw [el_rep]; kernel_rfl) | (rw [el_len]; kernel_rfl) | (rw [byts_len]; kernel_rfl) | (rw [us_len]; kernel_rfl) | kernel_rfl) ?_) | (refine wpList_store_arr rfl _ _ _ rfl _ _ rfl rfl _ (by first | assumption | exact Arr.new _ _ _) (by first | (rw [lims_len]; kernel_rfl) | (rw [el_rep]; kernel_rfl) | (rw [el_len]; kernel_rfl) | (rw [byts_len]; kernel_rfl) | (rw [us_len]; kernel_rfl) | kernel_rfl) (by first | (rw [lims_len, lims_len]) | (rw [el_rep, el_rep]) | (rw [el_rep, el_len]; rfl) | (rw [el_len, el_rep]; rfl) | (rw [el_len, el_len]; rfl) | (rw [byts_len, byts_len]) | (rw [lims_len]; rfl) | (rw [byts_len]; rfl) | (rw [us_len, us_len]; rfl) | rfl) (by first | exact lims_one _ _ | exact el_one _ | exact byts_one _ | exact us_one _ | (intro v hv; simp at hv; rcases hv with rfl | rfl | rfl | rfl <;> rfl)) ?_))
  have hg_k13_k5 := k5.lt
  have hg_k13_k6 := k6.lt
  have hg_k13_k12 := k12.lt
  refine code_new (fun w_5 k13 hnew => ?_)
  have k5 := k5.below hnew
  have k6 := k6.below hnew
  have k12 := k12.below hnew
  have kb := bel kb hnew
  clear hnew
  generalize (w_4).heap.size = g_k13 at k13 hg_k13_k5 hg_k13_k6 hg_k13_k12 ⊢
  have hcel := k13.cell f31.out
  have hfro := k13.frozen 31
  go_upto_region 7 with fail
  refine code_cell k13 (fun w_6 k13 hoth hbel => ?_)
  have k5 := hoth _ _ (by omega) k5
  have k6 := hoth _ _ (by omega) k6
  have k12 := hoth _ _ (by omega) k12
  have kb := hbel _ _ (by omega) kb
  clear hoth hbel
  rw [s3.out] at k13
  clear hcel hfro a7 a8 a9
  go_upto_region 7 with (first | (refine wpList_load_arr2 rfl _ _ rfl _ rfl (by kernel_rfl) _ (by assumption) (by first | (rw [lims_len]; kernel_rfl) | (rw [el_rep]; kernel_rfl) | (rw [el_len]; kernel_rfl) | (rw [byts_len]; kernel_rfl) | (rw [us_len]; kernel_rfl) | kernel_rfl) ?_) | (refine wpList_store_arr rfl _ _ _ rfl _ _ rfl rfl _ (by first | assumption | exact Arr.new _ _ _) (by first | (rw [lims_len]; kernel_rfl) | (rw [el_rep]; kernel_rfl) | (rw [el_len]; kernel_rfl) | (rw [byts_len]; kernel_rfl) | (rw [us_len]; kernel_rfl) | kernel_rfl) (by first | (rw [lims_len, lims_len]) | (rw [el_rep, el_rep]) | (rw [el_rep, el_len]; rfl) | (rw [el_len, el_rep]; rfl) | (rw [el_len, el_len]; rfl) | (rw [byts_len, byts_len]) | (rw [lims_len]; rfl) | (rw [byts_len]; rfl) | (rw [us_len, us_len]; rfl) | rfl) (by first | exact lims_one _ _ | exact el_one _ | exact byts_one _ | exact us_one _ | (intro v hv; simp at hv; rcases hv with rfl | rfl | rfl | rfl <;> rfl)) ?_))
  refine Tx.start (fun w' => Below (w_6).heap.size (w_6) w') 9999 11 rfl (by kernel_rfl) ?_
  have hS_7 : Below (w_6).heap.size (w_6) (World.drew w_6) := (Below.refl _ _).drew
  refine Tx.seg (A := ?_) 5 111 (by kernel_rfl) (by exact hS_7) [0, 1, 2, 3, 5, 6] (by kernel_rfl) ?_ ?_
  rotate_left
  · intro w' hB
    have e0 := k5.below hB
    have e1 := k6.below hB
    have e2 := k12.below hB
    have e3 := k13.below hB
    iterate 6 (first | (refine rd_skip rfl rfl ?_; simp only [Act.put, List.setIfInBounds_toArray, List.set_cons_zero, List.set_cons_succ]) | (refine rd_load_arr rfl rfl _ _ rfl _ rfl (by kernel_rfl) _ (by assumption) (by first | (rw [lims_len]; kernel_rfl) | (rw [el_rep]; kernel_rfl) | (rw [el_len]; kernel_rfl) | (rw [byts_len]; kernel_rfl) | (rw [us_len]; kernel_rfl) | kernel_rfl) ?_; simp only [Act.put, List.setIfInBounds_toArray, List.set_cons_zero, List.set_cons_succ]) | (refine rd_take (v := ?_) rfl rfl ?_ ?_; rotate_left; (focus (go_simp; try (with_reducible rfl))); simp only [Act.put, List.setIfInBounds_toArray, List.set_cons_zero, List.set_cons_succ]))
    exact rd_nil
  refine Tx.eff 4 127 rfl (by decide +kernel) (fun K hK => ?_)
  go_simp
  refine (c1.out _).mono ?_
  rintro e w_8 ⟨rfl, hb_8⟩
  have hS_8 := ext_trans hS_7 (Nat.le_refl _) hb_8
  refine hK (fun w' => Below (w_6).heap.size (w_6) w') _ _ hS_8 (fun _ h => h) ?_
  clear hK K hb_8 hS_7
  try simp only [Act.put, List.setIfInBounds_toArray, List.set_cons_zero, List.set_cons_succ]
  refine Tx.eff 7 255 rfl (by decide +kernel) (fun K hK => ?_)
  go_simp
  refine (c2.out _).mono ?_
  rintro e w_9 ⟨rfl, hb_9⟩
  have hS_9 := ext_trans hS_8 (Nat.le_refl _) hb_9
  refine hK (fun w' => Below (w_6).heap.size (w_6) w') _ _ hS_9 (fun _ h => h) ?_
  clear hK K hb_9 hS_8
  try simp only [Act.put, List.setIfInBounds_toArray, List.set_cons_zero, List.set_cons_succ]
  refine Tx.seg (A := ?_) 0 2047 (by kernel_rfl) (by exact hS_9) [8, 9, 10] (by kernel_rfl) ?_ ?_
  rotate_left
  · intro w' hB
    have q1 := q1.out w'
    iterate 3 (first | (refine rd_skip rfl rfl ?_; simp only [Act.put, List.setIfInBounds_toArray, List.set_cons_zero, List.set_cons_succ]) | (refine rd_load_arr rfl rfl _ _ rfl _ rfl (by kernel_rfl) _ (by assumption) (by first | (rw [lims_len]; kernel_rfl) | (rw [el_rep]; kernel_rfl) | (rw [el_len]; kernel_rfl) | (rw [byts_len]; kernel_rfl) | (rw [us_len]; kernel_rfl) | kernel_rfl) ?_; simp only [Act.put, List.setIfInBounds_toArray, List.set_cons_zero, List.set_cons_succ]) | (refine rd_take (v := ?_) rfl rfl ?_ ?_; rotate_left; (focus (go_simp; try (with_reducible rfl))); simp only [Act.put, List.setIfInBounds_toArray, List.set_cons_zero, List.set_cons_succ]))
    exact rd_nil
  refine Tx.done (by kernel_rfl) ?_
  have k5 := k5.below hS_9
  have k6 := k6.below hS_9
  have k12 := k12.below hS_9
  have k13 := k13.below hS_9
  have kb := bel kb hS_9
  clear hS_9
  go_wp2_with fail
  go_ret
  exact ⟨rfl, kb⟩

end Go.Proofs.Ytdggikbaemigbaa
