/- Field laws: the walk of FieldSums. -/
import Derived.Test.YtdggikbaemigbaaFl2
namespace Go.Proofs.Ytdggikbaemigbaa
open Go.RowKit

theorem sums_step (k a : Nat) : (k * a % pN + a) % pN = (k + 1) * a % pN := by rw [Nat.mod_add_mod, Nat.add_mul, Nat.one_mul]
theorem diff_step (k a : Nat) : ((k + 1) * a % pN % pN + pN - a % pN) % pN = k * a % pN := by
  rw [Nat.add_mul, Nat.one_mul, sub_back']

set_option maxHeartbeats 4000000 in
set_option maxRecDepth 100000 in
theorem fsums_any (a : Nat) (z : Int) (w : World) (ha : a < 256 ^ 32) (hz : (Lit.int .u8 z).wf = true) :
    Calls Try.prog 9 #[.agg (byts a).toArray, .int .u8 z] w fun e w' => e = .returned (.bool true) ∧ Below w.heap.size w w' := by
  have hz' := wf_u8 hz
  obtain ⟨n, rfl⟩ : ∃ n : Nat, z = (n : Int) := ⟨z.toNat, by omega⟩
  have hn : n < 256 := by omega
  clear hz hz'
  obtain ⟨r, hr⟩ : ∃ r, a * n % pN = r := ⟨_, rfl⟩
  have hr' : n * a % pN = r := by rw [Nat.mul_comm]; exact hr
  have lr : r < 256 ^ 32 := hr ▸ p_lt32 _
  have q1 := Lib.hid (eq_num (m := r) (n := r) (b := true) (decide_eq_true rfl) lr lr)
  have q2 := Lib.hid (eq_num0 (m := 0) (b := true) (decide_eq_true rfl) (by decide))
  have b0 := Lib.hid byts_0
  replace hr := Lib.hid hr
  replace hr' := Lib.hid hr'
  have cs := Lib.hid (fun w => fsmall_any n hn w)
  go_enter Try.func9, Try.ntmps9
  go_upto_region 1 with fail
  refine wp_new1 (fun W hsz k1 kb => ?_)
  go_upto_region 1 with (first | (refine wpList_load_arr2 rfl _ _ rfl _ rfl (by kernel_rfl) _ (by assumption) (by first | (rw [lims_len]; kernel_rfl) | (rw [byts_len]; kernel_rfl) | (rw [us_len]; kernel_rfl) | kernel_rfl) ?_) | (refine wpList_store_arr rfl _ _ _ rfl _ _ rfl rfl _ (by first | assumption | exact Arr.new _ _ _) (by first | (rw [lims_len]; kernel_rfl) | (rw [byts_len]; kernel_rfl) | (rw [us_len]; kernel_rfl) | kernel_rfl) (by first | (rw [lims_len, lims_len]) | (rw [byts_len, byts_len]) | (rw [lims_len]; rfl) | (rw [byts_len]; rfl) | (rw [us_len, us_len]; rfl) | rfl) (by first | exact lims_one _ _ | exact byts_one _ | exact us_one _ | (intro v hv; simp at hv; rcases hv with rfl | rfl | rfl | rfl <;> rfl)) ?_))
  go_wp2_with (first | (refine wpList_load_arr2 rfl _ _ rfl _ rfl (by kernel_rfl) _ (by assumption) (by first | (rw [lims_len]; kernel_rfl) | (rw [byts_len]; kernel_rfl) | (rw [us_len]; kernel_rfl) | kernel_rfl) ?_) | (refine wpList_store_arr rfl _ _ _ rfl _ _ rfl rfl _ (by first | assumption | exact Arr.new _ _ _) (by first | (rw [lims_len]; kernel_rfl) | (rw [byts_len]; kernel_rfl) | (rw [us_len]; kernel_rfl) | kernel_rfl) (by first | (rw [lims_len, lims_len]) | (rw [byts_len, byts_len]) | (rw [lims_len]; rfl) | (rw [byts_len]; rfl) | (rw [us_len, us_len]; rfl) | rfl) (by first | exact lims_one _ _ | exact byts_one _ | exact us_one _ | (intro v hv; simp at hv; rcases hv with rfl | rfl | rfl | rfl <;> rfl)) ?_))
  refine (alive3_any _).mono ?_
  rintro e w_1 ⟨rfl, hb_1⟩
  have k1 := k1.below hb_1
  have kb := bel kb hb_1
  clear hb_1
  go_upto_region 3 with (first | (refine wpList_load_arr2 rfl _ _ rfl _ rfl (by kernel_rfl) _ (by assumption) (by first | (rw [lims_len]; kernel_rfl) | (rw [byts_len]; kernel_rfl) | (rw [us_len]; kernel_rfl) | kernel_rfl) ?_) | (refine wpList_store_arr rfl _ _ _ rfl _ _ rfl rfl _ (by first | assumption | exact Arr.new _ _ _) (by first | (rw [lims_len]; kernel_rfl) | (rw [byts_len]; kernel_rfl) | (rw [us_len]; kernel_rfl) | kernel_rfl) (by first | (rw [lims_len, lims_len]) | (rw [byts_len, byts_len]) | (rw [lims_len]; rfl) | (rw [byts_len]; rfl) | (rw [us_len, us_len]; rfl) | rfl) (by first | exact lims_one _ _ | exact byts_one _ | exact us_one _ | (intro v hv; simp at hv; rcases hv with rfl | rfl | rfl | rfl <;> rfl)) ?_))
  have hg_k6_k1 := k1.lt
  refine code_new (fun w_2 k6 hnew => ?_)
  have k1 := k1.below hnew
  have kb := bel kb hnew
  clear hnew
  generalize (w_1).heap.size = g_k6 at k6 hg_k6_k1 ⊢
  have k6 : Arr w_2 g_k6 (byts 0) := k6
  generalize g_k6 = g at k6 hg_k6_k1 ⊢
  go_wp2_with fail
  go_loopw [7] (fun kv wr => ∃ (k m : Nat), k ≤ n ∧ kv = .int .i64 k ∧ k * a % pN = m ∧ Arr wr w.heap.size (byts a) ∧ Arr wr g (byts m) ∧ Below w.heap.size w wr) (fun kv _ => n - (intOf kv).toNat)
  case atStart => exact ⟨0, 0, Nat.zero_le _, rfl, by rw [Nat.zero_mul, Nat.zero_mod], k1, k6, kb⟩
  case round =>
    clear k1 k6 kb
    obtain ⟨k, m, hk, rfl, hm, k1, k6, kb⟩ := hrel
    by_cases hlt : k < n
    · obtain ⟨t, ht⟩ : ∃ t, (m + a) % pN = t := ⟨_, rfl⟩
      have hstep : (k + 1) * a % pN = t := by rw [← sums_step, hm, ht]
      have lm : m < 256 ^ 32 := hm ▸ p_lt32 _
      have c1 := Lib.hid (fun w => fadd_r (Lib.hid ht) lm ha w)
      replace hstep := Lib.hid hstep
      clear ht hm
      go_upto_region 6 with (first | (refine wpList_load_arr2 rfl _ _ rfl _ rfl (by kernel_rfl) _ (by assumption) (by first | (rw [lims_len]; kernel_rfl) | (rw [byts_len]; kernel_rfl) | (rw [us_len]; kernel_rfl) | kernel_rfl) ?_) | (refine wpList_store_arr rfl _ _ _ rfl _ _ rfl rfl _ (by first | assumption | exact Arr.new _ _ _) (by first | (rw [lims_len]; kernel_rfl) | (rw [byts_len]; kernel_rfl) | (rw [us_len]; kernel_rfl) | kernel_rfl) (by first | (rw [lims_len, lims_len]) | (rw [byts_len, byts_len]) | (rw [lims_len]; rfl) | (rw [byts_len]; rfl) | (rw [us_len, us_len]; rfl) | rfl) (by first | exact lims_one _ _ | exact byts_one _ | exact us_one _ | (intro v hv; simp at hv; rcases hv with rfl | rfl | rfl | rfl <;> rfl)) ?_))
      go_wp2_with (first | (refine wpList_load_arr2 rfl _ _ rfl _ rfl (by kernel_rfl) _ (by assumption) (by first | (rw [lims_len]; kernel_rfl) | (rw [byts_len]; kernel_rfl) | (rw [us_len]; kernel_rfl) | kernel_rfl) ?_) | (refine wpList_store_arr rfl _ _ _ rfl _ _ rfl rfl _ (by first | assumption | exact Arr.new _ _ _) (by first | (rw [lims_len]; kernel_rfl) | (rw [byts_len]; kernel_rfl) | (rw [us_len]; kernel_rfl) | kernel_rfl) (by first | (rw [lims_len, lims_len]) | (rw [byts_len, byts_len]) | (rw [lims_len]; rfl) | (rw [byts_len]; rfl) | (rw [us_len, us_len]; rfl) | rfl) (by first | exact lims_one _ _ | exact byts_one _ | exact us_one _ | (intro v hv; simp at hv; rcases hv with rfl | rfl | rfl | rfl <;> rfl)) ?_))
      refine (c1.out _).mono ?_
      rintro e w_3 ⟨rfl, hb_3⟩
      have k1 := k1.below hb_3
      have k6 := k6.below hb_3
      have kb := bel kb hb_3
      clear hb_3
      go_wp2_with (first | (refine wpList_store_arr rfl _ _ _ rfl _ _ rfl rfl _ (by first | assumption | exact Arr.new _ _ _) (by first | (rw [lims_len]; kernel_rfl) | (rw [byts_len]; kernel_rfl) | (rw [us_len]; kernel_rfl) | kernel_rfl) (by first | (rw [lims_len, lims_len]) | (rw [byts_len, byts_len]) | (rw [lims_len]; rfl) | (rw [byts_len]; rfl) | (rw [us_len, us_len]; rfl) | rfl) (by first | exact lims_one _ _ | exact byts_one _ | exact us_one _ | (intro v hv; simp at hv; rcases hv with rfl | rfl | rfl | rfl <;> rfl)) ?_))
      refine ⟨⟨k + 1, t, by omega, by go_num, hstep.out, k1.row_other (by omega) _, k6.setRow _, below_setRow kb (by omega) _⟩, by simp [intOf]; omega⟩
    · obtain rfl : k = n := by omega
      have hmr : m = r := by rw [← hm, hr'.out]
      subst hmr
      replace hm := Lib.hid hm
      go_upto_region 8 with (first | (refine wpList_load_arr2 rfl _ _ rfl _ rfl (by kernel_rfl) _ (by assumption) (by first | (rw [lims_len]; kernel_rfl) | (rw [byts_len]; kernel_rfl) | (rw [us_len]; kernel_rfl) | kernel_rfl) ?_) | (refine wpList_store_arr rfl _ _ _ rfl _ _ rfl rfl _ (by first | assumption | exact Arr.new _ _ _) (by first | (rw [lims_len]; kernel_rfl) | (rw [byts_len]; kernel_rfl) | (rw [us_len]; kernel_rfl) | kernel_rfl) (by first | (rw [lims_len, lims_len]) | (rw [byts_len, byts_len]) | (rw [lims_len]; rfl) | (rw [byts_len]; rfl) | (rw [us_len, us_len]; rfl) | rfl) (by first | exact lims_one _ _ | exact byts_one _ | exact us_one _ | (intro v hv; simp at hv; rcases hv with rfl | rfl | rfl | rfl <;> rfl)) ?_))
      have hg1' := k1.lt
      have hg6 := k6.lt
      refine code_new (fun w8 k8 hb8 => ?_)
      have k1 := k1.below hb8
      have k6 := k6.below hb8
      have kb := bel kb hb8
      generalize wr.heap.size = h at k8 hg1' hg6 ⊢
      clear hb8
      go_wp2_with fail
      go_loopw [9] (fun kv ws => ∃ (j d : Nat), j ≤ k ∧ kv = .int .i64 j ∧ (k - j) * a % pN = d ∧ Arr ws w.heap.size (byts a) ∧ Arr ws g (byts m) ∧ Arr ws h (byts d) ∧ Below w.heap.size w ws) (fun kv _ => k - (intOf kv).toNat)
      case atStart => exact ⟨0, m, Nat.zero_le _, rfl, by rw [Nat.sub_zero, hr'.out], k1, k6, k8, kb⟩
      case round =>
        clear k1 k6 k8 kb
        obtain ⟨j, d, hj, rfl, hd, k1, k6, k8, kb⟩ := hrel
        by_cases hlt : j < k
        · obtain ⟨i, hi⟩ : ∃ i, k - j = i + 1 := ⟨k - j - 1, by omega⟩
          obtain ⟨t, ht⟩ : ∃ t, (d % pN + pN - a % pN) % pN = t := ⟨_, rfl⟩
          have hstep : (k - (j + 1)) * a % pN = t := by
            rw [← ht, ← hd, hi, diff_step, show k - (j + 1) = i by omega]
          have ld : d < 256 ^ 32 := hd ▸ p_lt32 _
          have c1 := Lib.hid (fun w => fsub_r (Lib.hid ht) ld ha w)
          replace hstep := Lib.hid hstep
          clear ht hd hi
          go_upto_region 11 with (first | (refine wpList_load_arr2 rfl _ _ rfl _ rfl (by kernel_rfl) _ (by assumption) (by first | (rw [lims_len]; kernel_rfl) | (rw [byts_len]; kernel_rfl) | (rw [us_len]; kernel_rfl) | kernel_rfl) ?_) | (refine wpList_store_arr rfl _ _ _ rfl _ _ rfl rfl _ (by first | assumption | exact Arr.new _ _ _) (by first | (rw [lims_len]; kernel_rfl) | (rw [byts_len]; kernel_rfl) | (rw [us_len]; kernel_rfl) | kernel_rfl) (by first | (rw [lims_len, lims_len]) | (rw [byts_len, byts_len]) | (rw [lims_len]; rfl) | (rw [byts_len]; rfl) | (rw [us_len, us_len]; rfl) | rfl) (by first | exact lims_one _ _ | exact byts_one _ | exact us_one _ | (intro v hv; simp at hv; rcases hv with rfl | rfl | rfl | rfl <;> rfl)) ?_))
          go_wp2_with (first | (refine wpList_load_arr2 rfl _ _ rfl _ rfl (by kernel_rfl) _ (by assumption) (by first | (rw [lims_len]; kernel_rfl) | (rw [byts_len]; kernel_rfl) | (rw [us_len]; kernel_rfl) | kernel_rfl) ?_) | (refine wpList_store_arr rfl _ _ _ rfl _ _ rfl rfl _ (by first | assumption | exact Arr.new _ _ _) (by first | (rw [lims_len]; kernel_rfl) | (rw [byts_len]; kernel_rfl) | (rw [us_len]; kernel_rfl) | kernel_rfl) (by first | (rw [lims_len, lims_len]) | (rw [byts_len, byts_len]) | (rw [lims_len]; rfl) | (rw [byts_len]; rfl) | (rw [us_len, us_len]; rfl) | rfl) (by first | exact lims_one _ _ | exact byts_one _ | exact us_one _ | (intro v hv; simp at hv; rcases hv with rfl | rfl | rfl | rfl <;> rfl)) ?_))
          refine (c1.out _).mono ?_
          rintro e w_4 ⟨rfl, hb_4⟩
          have k1 := k1.below hb_4
          have k6 := k6.below hb_4
          have k8 := k8.below hb_4
          have kb := bel kb hb_4
          clear hb_4
          go_wp2_with (first | (refine wpList_store_arr rfl _ _ _ rfl _ _ rfl rfl _ (by first | assumption | exact Arr.new _ _ _) (by first | (rw [lims_len]; kernel_rfl) | (rw [byts_len]; kernel_rfl) | (rw [us_len]; kernel_rfl) | kernel_rfl) (by first | (rw [lims_len, lims_len]) | (rw [byts_len, byts_len]) | (rw [lims_len]; rfl) | (rw [byts_len]; rfl) | (rw [us_len, us_len]; rfl) | rfl) (by first | exact lims_one _ _ | exact byts_one _ | exact us_one _ | (intro v hv; simp at hv; rcases hv with rfl | rfl | rfl | rfl <;> rfl)) ?_))
          refine ⟨⟨j + 1, t, by omega, by go_num, hstep.out, k1.row_other (by omega) _, k6.row_other (by omega) _, k8.setRow _, below_setRow kb (by omega) _⟩, by simp [intOf]; omega⟩
        · obtain rfl : j = k := by omega
          have hd0 : d = 0 := by rw [← hd, Nat.sub_self, Nat.zero_mul, Nat.zero_mod]
          subst hd0
          clear hd
          go_upto_region 12 with fail
          go_upto_region 12 with (first | (refine wpList_load_arr2 rfl _ _ rfl _ rfl (by kernel_rfl) _ (by assumption) (by first | (rw [lims_len]; kernel_rfl) | (rw [byts_len]; kernel_rfl) | (rw [us_len]; kernel_rfl) | kernel_rfl) ?_) | (refine wpList_store_arr rfl _ _ _ rfl _ _ rfl rfl _ (by first | assumption | exact Arr.new _ _ _) (by first | (rw [lims_len]; kernel_rfl) | (rw [byts_len]; kernel_rfl) | (rw [us_len]; kernel_rfl) | kernel_rfl) (by first | (rw [lims_len, lims_len]) | (rw [byts_len, byts_len]) | (rw [lims_len]; rfl) | (rw [byts_len]; rfl) | (rw [us_len, us_len]; rfl) | rfl) (by first | exact lims_one _ _ | exact byts_one _ | exact us_one _ | (intro v hv; simp at hv; rcases hv with rfl | rfl | rfl | rfl <;> rfl)) ?_))
          refine Tx.start (fun w' => Below (wr).heap.size (wr) w') 9999 15 rfl (by kernel_rfl) ?_
          have hS_5 : Below (wr).heap.size (wr) (World.drew wr) := (Below.refl _ _).drew
          refine Tx.seg (A := ?_) 10 31 (by kernel_rfl) (by exact hS_5) [0, 1, 2, 3, 4] (by kernel_rfl) ?_ ?_
          rotate_left
          · intro w' hB
            have e0 := k1.below hB
            have e1 := k6.below hB
            have e2 := k8.below hB
            iterate 5 (first | (refine rd_skip rfl rfl ?_; simp only [Act.put, List.setIfInBounds_toArray, List.set_cons_zero, List.set_cons_succ]) | (refine rd_load_arr rfl rfl _ _ rfl _ rfl (by kernel_rfl) _ (by assumption) (by first | (rw [lims_len]; kernel_rfl) | (rw [byts_len]; kernel_rfl) | (rw [us_len]; kernel_rfl) | kernel_rfl) ?_; simp only [Act.put, List.setIfInBounds_toArray, List.set_cons_zero, List.set_cons_succ]) | (refine rd_take (v := ?_) rfl rfl ?_ ?_; rotate_left; (focus (go_simp; try (with_reducible rfl))); simp only [Act.put, List.setIfInBounds_toArray, List.set_cons_zero, List.set_cons_succ]))
            exact rd_nil
          refine Tx.eff 5 63 rfl (by decide +kernel) (fun K hK => ?_)
          go_simp
          refine (cs.out _).mono ?_
          rintro e w_6 ⟨rfl, hb_6⟩
          have hS_6 := ext_trans hS_5 (Nat.le_refl _) hb_6
          refine hK (fun w' => Below (wr).heap.size (wr) w') _ _ hS_6 (fun _ h => h) ?_
          clear hK K hb_6 hS_5
          try simp only [Act.put, List.setIfInBounds_toArray, List.set_cons_zero, List.set_cons_succ]
          refine Tx.eff 6 127 rfl (by decide +kernel) (fun K hK => ?_)
          go_simp
          refine (fmul_r hr ha (by omega) _).mono ?_
          rintro e w_7 ⟨rfl, hb_7⟩
          have hS_7 := ext_trans hS_6 (Nat.le_refl _) hb_7
          refine hK (fun w' => Below (wr).heap.size (wr) w') _ _ hS_7 (fun _ h => h) ?_
          clear hK K hb_7 hS_6
          try simp only [Act.put, List.setIfInBounds_toArray, List.set_cons_zero, List.set_cons_succ]
          refine Tx.seg (A := ?_) 0 32767 (by kernel_rfl) (by exact hS_7) [7, 8, 9, 10, 11, 12, 13, 14] (by kernel_rfl) ?_ ?_
          rotate_left
          · intro w' hB
            have e0 := k1.below hB
            have e1 := k6.below hB
            have e2 := k8.below hB
            have q1 := q1.out w'
            have q2 := q2.out w'
            iterate 8 (first | (refine rd_skip rfl rfl ?_; simp only [Act.put, List.setIfInBounds_toArray, List.set_cons_zero, List.set_cons_succ]) | (refine rd_load_arr rfl rfl _ _ rfl _ rfl (by kernel_rfl) _ (by assumption) (by first | (rw [lims_len]; kernel_rfl) | (rw [byts_len]; kernel_rfl) | (rw [us_len]; kernel_rfl) | kernel_rfl) ?_; simp only [Act.put, List.setIfInBounds_toArray, List.set_cons_zero, List.set_cons_succ]) | (refine rd_take (v := ?_) rfl rfl ?_ ?_; rotate_left; (focus (go_simp; try (with_reducible rfl))); simp only [Act.put, List.setIfInBounds_toArray, List.set_cons_zero, List.set_cons_succ]))
            exact rd_nil
          refine Tx.done (by kernel_rfl) ?_
          have k1 := k1.below hS_7
          have k6 := k6.below hS_7
          have k8 := k8.below hS_7
          have kb := bel kb hS_7
          clear hS_7
          go_wp2_with fail
          go_ret
          exact ⟨rfl, kb⟩

end Go.Proofs.Ytdggikbaemigbaa
