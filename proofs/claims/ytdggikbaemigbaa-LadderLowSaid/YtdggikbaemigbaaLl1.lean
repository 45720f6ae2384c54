/- Ladder laws: the walks of LadderCanon and LadderBits. -/
import Derived.Test.YtdggikbaemigbaaLd3
import Derived.Test.YtdggikbaemigbaaFl6
namespace Go.Proofs.Ytdggikbaemigbaa
open Go.RowKit

theorem fill_from (d k : Nat) (hd : d < 256) (h1 : 1 ≤ k) (hk : k < 32) : (byts (d + (256 ^ k - 256))).set k (.int .u8 255) = byts (d + (256 ^ (k + 1) - 256)) := by
  have hp : 256 ≤ 256 ^ k := by
    calc 256 = 256 ^ 1 := rfl
      _ ≤ 256 ^ k := Nat.pow_le_pow_right (by decide) h1
  have hle : 256 ^ k ≤ 256 ^ 31 := Nat.pow_le_pow_right (by decide) (by omega)
  have h31 : (256 : Nat) ^ 31 < 256 ^ 32 := by decide
  refine byts_set (v := 255) hk (by omega) (by decide) ?_
  rw [Nat.div_eq_of_lt (by omega), Nat.pow_succ]
  omega
theorem canon_last (n : Nat) (hn : n ≤ 18) : (byts (237 + n + (256 ^ 32 - 256))).set 31 (.int .u8 127) = byts (pN + n) := by
  have e : 237 + n + (256 ^ 32 - 256) = pN + n + 128 * 256 ^ 31 := by
    rw [show pN = 57896044618658097711785492504343953926634992332820282019728792003956564819949 from rfl]; omega
  have hp : pN = 57896044618658097711785492504343953926634992332820282019728792003956564819949 := rfl
  refine byts_set (v := 127) (by decide) (by omega) (by decide) ?_
  omega
theorem lmul_canon (k n : Nat) (hn : n ≤ 18) : lmulN k (pN + n) = lmulN k n := by
  have e : (pN + n) % 2 ^ 255 % pN = n % 2 ^ 255 % pN := by
    rw [Nat.mod_eq_of_lt (a := pN + n) (by have : pN + 18 < 2 ^ 255 := by decide
                                           omega), Nat.add_mod_left, Nat.mod_eq_of_lt (a := n) (b := 2 ^ 255) (by omega)]
  unfold lmulN
  rw [e]
theorem lmulV_r {k v r : Nat} (hr : Hid (lmulN k v = r)) (hk : k < 256 ^ 32) (hv : v < 256) (w : World) :
    Calls Try.prog 55 #[.agg (byts k).toArray, .agg #[.int .u8 (v : Int), .int .u8 0, .int .u8 0, .int .u8 0, .int .u8 0, .int .u8 0, .int .u8 0, .int .u8 0, .int .u8 0, .int .u8 0, .int .u8 0, .int .u8 0, .int .u8 0, .int .u8 0, .int .u8 0, .int .u8 0, .int .u8 0, .int .u8 0, .int .u8 0, .int .u8 0, .int .u8 0, .int .u8 0, .int .u8 0, .int .u8 0, .int .u8 0, .int .u8 0, .int .u8 0, .int .u8 0, .int .u8 0, .int .u8 0, .int .u8 0, .int .u8 0]] w fun e w' => e = .returned (.agg (byts r).toArray) ∧ Below w.heap.size w w' := by
  have := lmul_any k v hk (Nat.lt_trans hv (by decide)) w
  rw [byts_lit v hv, hr.out] at this
  exact this

set_option maxHeartbeats 4000000 in
set_option maxRecDepth 100000 in
theorem lcanon_any (k : Nat) (z : Int) (w : World) (hk : k < 256 ^ 32) (hz : (Lit.int .u8 z).wf = true) :
    Calls Try.prog 25 #[.agg (byts k).toArray, .int .u8 z] w fun e w' => e = .returned (.bool true) ∧ Below w.heap.size w w' := by
  have hz' := wf_u8 hz
  obtain ⟨n, rfl⟩ : ∃ n : Nat, z = (n : Int) := ⟨z.toNat, by omega⟩
  have hn : n < 256 := by omega
  clear hz hz'
  obtain ⟨r, hr⟩ : ∃ r, lmulN k n = r := ⟨_, rfl⟩
  have lr : r < 256 ^ 32 := hr ▸ lmul_lt _ _
  have q1 := Lib.hid (eq_num (m := r) (n := r) (b := true) (decide_eq_true rfl) lr lr)
  by_cases h18 : n ≤ 18
  · have hr2 : lmulN k (pN + n) = r := by rw [lmul_canon k n h18, hr]
    have c1 := Lib.hid (fun w => lmul_r (Lib.hid hr2) hk (by have : pN + 18 < 256 ^ 32 := by decide
                                                             omega) w)
    have c2 := Lib.hid (fun w => lmulV_r (Lib.hid hr) hk hn w)
    have hlast := Lib.hid (canon_last n h18)
    have hbl := byts_lit (237 + n) (by omega)
    rw [show (((237 + n : Nat) : Int)) = 237 + (n : Int) by omega] at hbl
    replace hbl := Lib.hid hbl
    clear hr hr2
    go_enter Try.func25, Try.ntmps25
    go_upto_region 1 with fail
    refine wp_new1 (fun W hsz k2 kb => ?_)
    clear hsz
    go_upto_region 1 with (first | (refine wpList_load_arr2 rfl _ _ rfl _ rfl (by kernel_rfl) _ (by assumption) (by first | (rw [lims_len]; kernel_rfl) | (rw [el_rep]; kernel_rfl) | (rw [el_len]; kernel_rfl) | (rw [byts_len]; kernel_rfl) | (rw [us_len]; kernel_rfl) | kernel_rfl) ?_) | (refine wpList_store_arr rfl _ _ _ rfl _ _ rfl rfl _ (by first | assumption | exact Arr.new _ _ _) (by first | (rw [lims_len]; kernel_rfl) | (rw [el_rep]; kernel_rfl) | (rw [el_len]; kernel_rfl) | (rw [byts_len]; kernel_rfl) | (rw [us_len]; kernel_rfl) | kernel_rfl) (by first | (rw [lims_len, lims_len]) | (rw [el_rep, el_rep]) | (rw [el_rep, el_len]; rfl) | (rw [el_len, el_rep]; rfl) | (rw [el_len, el_len]; rfl) | (rw [byts_len, byts_len]) | (rw [lims_len]; rfl) | (rw [byts_len]; rfl) | (rw [us_len, us_len]; rfl) | rfl) (by first | exact lims_one _ _ | exact el_one _ | exact byts_one _ | exact us_one _ | (intro v hv; simp at hv; rcases hv with rfl | rfl | rfl | rfl <;> rfl)) ?_))
    go_wp2_with (first | (refine wpList_load_arr2 rfl _ _ rfl _ rfl (by kernel_rfl) _ (by assumption) (by first | (rw [lims_len]; kernel_rfl) | (rw [el_rep]; kernel_rfl) | (rw [el_len]; kernel_rfl) | (rw [byts_len]; kernel_rfl) | (rw [us_len]; kernel_rfl) | kernel_rfl) ?_) | (refine wpList_store_arr rfl _ _ _ rfl _ _ rfl rfl _ (by first | assumption | exact Arr.new _ _ _) (by first | (rw [lims_len]; kernel_rfl) | (rw [el_rep]; kernel_rfl) | (rw [el_len]; kernel_rfl) | (rw [byts_len]; kernel_rfl) | (rw [us_len]; kernel_rfl) | kernel_rfl) (by first | (rw [lims_len, lims_len]) | (rw [el_rep, el_rep]) | (rw [el_rep, el_len]; rfl) | (rw [el_len, el_rep]; rfl) | (rw [el_len, el_len]; rfl) | (rw [byts_len, byts_len]) | (rw [lims_len]; rfl) | (rw [byts_len]; rfl) | (rw [us_len, us_len]; rfl) | rfl) (by first | exact lims_one _ _ | exact el_one _ | exact byts_one _ | exact us_one _ | (intro v hv; simp at hv; rcases hv with rfl | rfl | rfl | rfl <;> rfl)) ?_))
    refine (alive12_any _).mono ?_
    rintro e w_1 ⟨rfl, hb_1⟩
    have k2 := k2.below hb_1
    have kb := bel kb hb_1
    clear hb_1
    go_upto_region 5 with (first | (refine wpList_load_arr2 rfl _ _ rfl _ rfl (by kernel_rfl) _ (by assumption) (by first | (rw [lims_len]; kernel_rfl) | (rw [el_rep]; kernel_rfl) | (rw [el_len]; kernel_rfl) | (rw [byts_len]; kernel_rfl) | (rw [us_len]; kernel_rfl) | kernel_rfl) ?_) | (refine wpList_store_arr rfl _ _ _ rfl _ (byts (237 + n)) rfl (by rw [hbl.out]; rfl) _ (Arr.new _ _ _) (by rw [byts_len]; kernel_rfl) (by rw [byts_len]; rfl) (byts_one _) ?_))
    have hg_k6_k2 := k2.lt
    refine code_new (fun w_2 k6 hnew => ?_)
    have k2 := k2.below hnew
    have kb := bel kb hnew
    clear hnew
    generalize (w_1).heap.size = g_k6 at k6 hg_k6_k2 ⊢
    have k6 : Arr w_2 g_k6 (byts (237 + n + (256 ^ 1 - 256))) := k6
    go_wp2_with fail
    go_loopw [7] (fun kv wr => ∃ j : Nat, 1 ≤ j ∧ j ≤ 32 ∧ kv = .int .i64 j ∧ Arr wr w.heap.size (byts k) ∧ Arr wr g_k6 (byts (237 + n + (256 ^ j - 256))) ∧ Below w.heap.size w wr) (fun kv _ => 32 - (intOf kv).toNat)
    case atStart => exact ⟨1, Nat.le_refl _, by decide, rfl, k2, k6, kb⟩
    case round =>
      clear k2 k6 kb
      obtain ⟨j, hj1, hj, rfl, k2, k6, kb⟩ := hrel
      by_cases hlt : j < 32
      · have hcell := k6.cell (byts_get _ j hlt)
        have hfr := k6.frozen j
        go_wp2_with fail
        refine ⟨⟨j + 1, by omega, by omega, by go_num, k2.other (by simp; omega) _, ?_, kb.setCell (by simp; omega) _⟩, by simp [intOf]; omega⟩
        rw [← fill_from (237 + n) j (by omega) hj1 hlt]
        exact k6.set j _
      · obtain rfl : j = 32 := by omega
        have hcell := k6.cell (byts_get _ 31 (by decide))
        have hfr := k6.frozen 31
        go_upto_region 10 with fail
        refine code_cell k6 (fun w_3 k6 hoth hbel => ?_)
        have k2 := hoth _ _ (by omega) k2
        have kb := hbel _ _ (by omega) kb
        clear hoth hbel
        rw [hlast.out] at k6
        clear hcell hfr
        go_upto_region 10 with (first | (refine wpList_load_arr2 rfl _ _ rfl _ rfl (by kernel_rfl) _ (by assumption) (by first | (rw [lims_len]; kernel_rfl) | (rw [el_rep]; kernel_rfl) | (rw [el_len]; kernel_rfl) | (rw [byts_len]; kernel_rfl) | (rw [us_len]; kernel_rfl) | kernel_rfl) ?_) | (refine wpList_store_arr rfl _ _ _ rfl _ _ rfl rfl _ (by first | assumption | exact Arr.new _ _ _) (by first | (rw [lims_len]; kernel_rfl) | (rw [el_rep]; kernel_rfl) | (rw [el_len]; kernel_rfl) | (rw [byts_len]; kernel_rfl) | (rw [us_len]; kernel_rfl) | kernel_rfl) (by first | (rw [lims_len, lims_len]) | (rw [el_rep, el_rep]) | (rw [el_rep, el_len]; rfl) | (rw [el_len, el_rep]; rfl) | (rw [el_len, el_len]; rfl) | (rw [byts_len, byts_len]) | (rw [lims_len]; rfl) | (rw [byts_len]; rfl) | (rw [us_len, us_len]; rfl) | rfl) (by first | exact lims_one _ _ | exact el_one _ | exact byts_one _ | exact us_one _ | (intro v hv; simp at hv; rcases hv with rfl | rfl | rfl | rfl <;> rfl)) ?_))
        refine Tx.start (fun w' => Below (w_3).heap.size (w_3) w') 9999 9 rfl (by kernel_rfl) ?_
        have hS_4 : Below (w_3).heap.size (w_3) (World.drew w_3) := (Below.refl _ _).drew
        refine Tx.seg (A := ?_) 4 59 (by kernel_rfl) (by exact hS_4) [0, 1, 3, 4, 5] (by kernel_rfl) ?_ ?_
        rotate_left
        · intro w' hB
          have e0 := k2.below hB
          have e1 := k6.below hB
          iterate 5 (first | (refine rd_skip rfl rfl ?_; simp only [Act.put, List.setIfInBounds_toArray, List.set_cons_zero, List.set_cons_succ]) | (refine rd_load_arr rfl rfl _ _ rfl _ rfl (by kernel_rfl) _ (by assumption) (by first | (rw [lims_len]; kernel_rfl) | (rw [el_rep]; kernel_rfl) | (rw [el_len]; kernel_rfl) | (rw [byts_len]; kernel_rfl) | (rw [us_len]; kernel_rfl) | kernel_rfl) ?_; simp only [Act.put, List.setIfInBounds_toArray, List.set_cons_zero, List.set_cons_succ]) | (refine rd_take (v := ?_) rfl rfl ?_ ?_; rotate_left; (focus (go_simp; try (with_reducible rfl))); simp only [Act.put, List.setIfInBounds_toArray, List.set_cons_zero, List.set_cons_succ]))
          exact rd_nil
        refine Tx.eff 2 63 rfl (by decide +kernel) (fun K hK => ?_)
        go_simp
        refine (c1.out _).mono ?_
        rintro e w_5 ⟨rfl, hb_5⟩
        have hS_5 := ext_trans hS_4 (Nat.le_refl _) hb_5
        refine hK (fun w' => Below (w_3).heap.size (w_3) w') _ _ hS_5 (fun _ h => h) ?_
        clear hK K hb_5 hS_4
        try simp only [Act.put, List.setIfInBounds_toArray, List.set_cons_zero, List.set_cons_succ]
        refine Tx.eff 6 127 rfl (by decide +kernel) (fun K hK => ?_)
        go_simp
        refine (c2.out _).mono ?_
        rintro e w_6 ⟨rfl, hb_6⟩
        have hS_6 := ext_trans hS_5 (Nat.le_refl _) hb_6
        refine hK (fun w' => Below (w_3).heap.size (w_3) w') _ _ hS_6 (fun _ h => h) ?_
        clear hK K hb_6 hS_5
        try simp only [Act.put, List.setIfInBounds_toArray, List.set_cons_zero, List.set_cons_succ]
        refine Tx.seg (A := ?_) 0 511 (by kernel_rfl) (by exact hS_6) [7, 8] (by kernel_rfl) ?_ ?_
        rotate_left
        · intro w' hB
          have q1 := q1.out w'
          iterate 2 (first | (refine rd_skip rfl rfl ?_; simp only [Act.put, List.setIfInBounds_toArray, List.set_cons_zero, List.set_cons_succ]) | (refine rd_load_arr rfl rfl _ _ rfl _ rfl (by kernel_rfl) _ (by assumption) (by first | (rw [lims_len]; kernel_rfl) | (rw [el_rep]; kernel_rfl) | (rw [el_len]; kernel_rfl) | (rw [byts_len]; kernel_rfl) | (rw [us_len]; kernel_rfl) | kernel_rfl) ?_; simp only [Act.put, List.setIfInBounds_toArray, List.set_cons_zero, List.set_cons_succ]) | (refine rd_take (v := ?_) rfl rfl ?_ ?_; rotate_left; (focus (go_simp; try (with_reducible rfl))); simp only [Act.put, List.setIfInBounds_toArray, List.set_cons_zero, List.set_cons_succ]))
          exact rd_nil
        refine Tx.done (by kernel_rfl) ?_
        have k2 := k2.below hS_6
        have k6 := k6.below hS_6
        have kb := bel kb hS_6
        clear hS_6
        go_wp2_with fail
        go_ret
        exact ⟨rfl, kb⟩
  · go_enter Try.func25, Try.ntmps25
    go_upto_region 1 with fail
    refine wp_new1 (fun W hsz k2 kb => ?_)
    clear hsz hr
    go_upto_region 1 with (first | (refine wpList_load_arr2 rfl _ _ rfl _ rfl (by kernel_rfl) _ (by assumption) (by first | (rw [lims_len]; kernel_rfl) | (rw [el_rep]; kernel_rfl) | (rw [el_len]; kernel_rfl) | (rw [byts_len]; kernel_rfl) | (rw [us_len]; kernel_rfl) | kernel_rfl) ?_) | (refine wpList_store_arr rfl _ _ _ rfl _ _ rfl rfl _ (by first | assumption | exact Arr.new _ _ _) (by first | (rw [lims_len]; kernel_rfl) | (rw [el_rep]; kernel_rfl) | (rw [el_len]; kernel_rfl) | (rw [byts_len]; kernel_rfl) | (rw [us_len]; kernel_rfl) | kernel_rfl) (by first | (rw [lims_len, lims_len]) | (rw [el_rep, el_rep]) | (rw [el_rep, el_len]; rfl) | (rw [el_len, el_rep]; rfl) | (rw [el_len, el_len]; rfl) | (rw [byts_len, byts_len]) | (rw [lims_len]; rfl) | (rw [byts_len]; rfl) | (rw [us_len, us_len]; rfl) | rfl) (by first | exact lims_one _ _ | exact el_one _ | exact byts_one _ | exact us_one _ | (intro v hv; simp at hv; rcases hv with rfl | rfl | rfl | rfl <;> rfl)) ?_))
    go_wp2_with (first | (refine wpList_load_arr2 rfl _ _ rfl _ rfl (by kernel_rfl) _ (by assumption) (by first | (rw [lims_len]; kernel_rfl) | (rw [el_rep]; kernel_rfl) | (rw [el_len]; kernel_rfl) | (rw [byts_len]; kernel_rfl) | (rw [us_len]; kernel_rfl) | kernel_rfl) ?_) | (refine wpList_store_arr rfl _ _ _ rfl _ _ rfl rfl _ (by first | assumption | exact Arr.new _ _ _) (by first | (rw [lims_len]; kernel_rfl) | (rw [el_rep]; kernel_rfl) | (rw [el_len]; kernel_rfl) | (rw [byts_len]; kernel_rfl) | (rw [us_len]; kernel_rfl) | kernel_rfl) (by first | (rw [lims_len, lims_len]) | (rw [el_rep, el_rep]) | (rw [el_rep, el_len]; rfl) | (rw [el_len, el_rep]; rfl) | (rw [el_len, el_len]; rfl) | (rw [byts_len, byts_len]) | (rw [lims_len]; rfl) | (rw [byts_len]; rfl) | (rw [us_len, us_len]; rfl) | rfl) (by first | exact lims_one _ _ | exact el_one _ | exact byts_one _ | exact us_one _ | (intro v hv; simp at hv; rcases hv with rfl | rfl | rfl | rfl <;> rfl)) ?_))
    refine (alive12_any _).mono ?_
    rintro e w_7 ⟨rfl, hb_7⟩
    have k2 := k2.below hb_7
    have kb := bel kb hb_7
    clear hb_7
    go_wp2_with fail
    go_ret
    exact ⟨rfl, kb⟩

theorem bits_low : ∀ x : Nat, x < 256 → ∀ y : Nat, y < 8 → bits .or .u8 ((x - x % 8 : Nat) : Int) (y : Int) = ((x - x % 8 + y : Nat) : Int) := by decide +kernel
theorem and_7 : ∀ x : Nat, x < 256 → bits .and .u8 (x : Int) 7 = ((x % 8 : Nat) : Int) := by decide +kernel
theorem and_63 : ∀ x : Nat, x < 256 → bits .and .u8 (x : Int) 63 = ((x % 64 : Nat) : Int) := by decide +kernel
theorem and_192 : ∀ x : Nat, x < 256 → bits .and .u8 (x : Int) 192 = ((x / 64 * 64 : Nat) : Int) := by decide +kernel
theorem and_128 : ∀ x : Nat, x < 256 → bits .and .u8 (x : Int) 128 = ((x / 128 * 128 : Nat) : Int) := by decide +kernel
theorem or_192 : ∀ x : Nat, x < 64 → ∀ y : Nat, y < 4 → bits .or .u8 (x : Int) ((y * 64 : Nat) : Int) = ((x + y * 64 : Nat) : Int) := by decide +kernel
theorem or_128 : ∀ x : Nat, x < 128 → ∀ y : Nat, y < 2 → bits .or .u8 (x : Int) ((y * 128 : Nat) : Int) = ((x + y * 128 : Nat) : Int) := by decide +kernel

end Go.Proofs.Ytdggikbaemigbaa
