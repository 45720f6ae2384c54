/- The law PolyNought: its walk. -/
import Derived.Test.YtfljonglibpgcaaPl1
namespace Go.Proofs.Ytfljonglibpgcaa
open Go.RowKit

theorem polyR_low (K : Nat) : polyR (K % 2 ^ 128) = polyR K := by unfold polyR; rw [Nat.mod_mod]

set_option maxHeartbeats 4000000 in
set_option maxRecDepth 100000 in
theorem polyNought_walk (K : Nat) (d : Option Addr) (cap : Nat) (bs : List UInt8) (w : World) (hK : K < 256 ^ 32) (hs : Sl w (.slice d bs.length cap) (u8s bs)) :
    Calls Try.prog 7 #[.agg (byts K).toArray, .slice d bs.length cap] w fun e w' => e = .returned (.bool true) ∧ Below w.heap.size w w' := by
  have hlen := hs.len
  rw [u8s_len] at hlen
  obtain ⟨-, hlc, hcm⟩ := hlen
  unfold maxLen at hcm
  replace hs := Lib.hid hs
  by_cases hbig : 500 < bs.length
  · have iw : (500 : Int) < (bs.length : Int) := by omega
    go_enter Try.func7, Try.ntmps7
    go_upto_region 1 with fail
    refine wp_new1 (fun W hsz k2 kb => ?_)
    clear hsz
    go_wp2_with fail
    refine (alive10_any _).mono ?_
    rintro e w1 ⟨rfl, hb1⟩
    have kb := bel kb hb1
    go_wp2_with fail
    go_ret
    exact ⟨rfl, kb⟩
  have iw : ¬ (500 : Int) < (bs.length : Int) := by omega
  obtain ⟨M, hM⟩ : ∃ M, K / 2 ^ 128 * 2 ^ 128 = M := ⟨_, rfl⟩
  have hMl : M < 256 ^ 32 := by omega
  have hM0 : polyR M = 0 := by rw [← polyR_low, ← hM, Nat.mul_mod_left]; rfl
  have c1 := fun d cap w (h : Sls w (.slice d 1 cap) [bs]) => psum_any M hMl d cap [bs] w h
  rw [show [bs].flatten = bs by simp, hM0, polyT_zero _ (by omega)] at c1
  have hll : (byts M).length = (byts K).length := by rw [byts_len, byts_len]
  have hdz : ∀ i, i < 16 → (byts M)[i]? = some (.int .u8 0) := by
    intro i hi
    have e : (2 : Nat) ^ 128 = 256 ^ i * (256 * 256 ^ (15 - i)) := by
      rw [← Nat.mul_assoc, ← Nat.pow_succ, ← Nat.pow_add, show i + 1 + (15 - i) = 16 by omega]
    rw [byts_get _ _ (by omega), ← hM, e, Nat.mul_left_comm, Nat.mul_div_cancel_left _ (Nat.pow_pos (by decide)), Nat.mul_left_comm, Nat.mul_mod_right]; rfl
  have hm0 := mixl_zero (byts M) (byts K)
  have hall : mixl 16 (byts M) (byts K) = byts M := by
    apply List.ext_getElem?
    intro j
    by_cases hj : j < 32
    · rw [mixl_get hll (by rw [byts_len]; exact hj)]
      split
      · rfl
      · rw [byts_get _ _ hj, byts_get _ _ hj]
        obtain ⟨t, rfl⟩ : ∃ t, j = 16 + t := ⟨j - 16, by omega⟩
        rw [Nat.pow_add, ← Nat.div_div_eq_div_mul, ← Nat.div_div_eq_div_mul, show (256 : Nat) ^ 16 = 2 ^ 128 by decide, ← hM, Nat.mul_div_cancel _ (by decide)]
    · have h1 : (mixl 16 (byts M) (byts K)).length = 32 := by rw [mixl_len hll, byts_len]
      rw [List.getElem?_eq_none (by omega), List.getElem?_eq_none (by rw [byts_len]; omega)]
  have hK0 : ∀ i, i < 16 → (mixl i (byts M) (byts K))[i]? = some (.int .u8 ((K / 256 ^ i % 256 : Nat) : Int)) := by
    intro i hi
    rw [mixl_get hll (by rw [byts_len]; omega), if_neg (Nat.lt_irrefl i), byts_get _ _ (by omega)]
  clear hMl hM0 hK hbig hM
  replace c1 := Lib.hid c1
  replace hll := Lib.hid hll
  replace hdz := Lib.hid hdz
  replace hm0 := Lib.hid hm0
  replace hall := Lib.hid hall
  replace hK0 := Lib.hid hK0
  go_enter Try.func7, Try.ntmps7
  go_upto_region 1 with fail
  refine wp_new1 (fun W hsz k2 kb => ?_)
  clear hsz
  have k2 : Arr W w.heap.size (byts K) := k2
  go_wp2_with fail
  refine (alive10_any _).mono ?_
  rintro e w1 ⟨rfl, hb1⟩
  have k2 := k2.below hb1
  have kb := bel kb hb1
  clear hb1
  have k2 : Arr w1 w.heap.size (mixl 0 (byts M) (byts K)) := by rw [hm0.out]; exact k2
  go_wp2_with fail
  go_loopw [6] (fun iv wr => ∃ i : Nat, i ≤ 16 ∧ iv = .int .i64 i ∧ Arr wr w.heap.size (mixl i (byts M) (byts K)) ∧ Below w.heap.size w wr) (fun iv _ => 16 - (intOf iv).toNat)
  case atStart => exact ⟨0, by omega, rfl, k2, kb⟩
  case round =>
    clear k2 kb
    obtain ⟨i, hi, rfl, k2, kb⟩ := hrel
    by_cases hlt : i < 16
    · have g1 := hK0.out i hlt
      have hset := mixl_set hll.out (hdz.out i hlt)
      have hcel := k2.cell g1
      have hfro := k2.frozen i
      have iw3 : (i : Int) < 32 := by omega
      replace g1 := Lib.hid g1
      replace hset := Lib.hid hset
      go_wp2_with fail
      refine ⟨⟨i + 1, by omega, by go_num, ?_, kb.setCell (by simp) _⟩, by simp [intOf]; omega⟩
      have := k2.set i (.int .u8 0)
      rw [hset.out] at this
      exact this
    · have hi16 : i = 16 := by omega
      rw [hi16, hall.out] at k2
      clear hi hdz hm0 hall hK0
      have hs1 := Lib.hid (Sls.new1 (hs.out.below kb))
      go_upto_region 8 with fail
      clear hi16 hlt
      go_wp2_with (refine wpList_load_arr2 rfl _ _ rfl _ rfl (by kernel_rfl) _ (by assumption) (by first | (rw [lims_len]; kernel_rfl) | (rw [el_rep]; kernel_rfl) | (rw [el_len]; kernel_rfl) | (rw [byts_len]; kernel_rfl) | (rw [us_len]; kernel_rfl) | (rw [bytn_len]; kernel_rfl) | (rw [ens_len, digs_len]; kernel_rfl) | kernel_rfl) ?_)
      refine (c1.out _ _ _ (hs1.out _)).mono ?_
      rintro e w2 ⟨rfl, hb2⟩
      have hb3 := bel (below_alloc wr _) hb2
      have k2 := k2.below hb3
      have kb := bel kb hb3
      clear hb2 hb3
      go_upto_region 9 with (refine wpList_store_arr rfl _ _ _ rfl _ _ rfl rfl _ (by first | assumption | exact Arr.new _ _ _) (by first | (rw [lims_len]; kernel_rfl) | (rw [el_rep]; kernel_rfl) | (rw [el_len]; kernel_rfl) | (rw [byts_len]; kernel_rfl) | (rw [us_len]; kernel_rfl) | (rw [bytn_len]; kernel_rfl) | (rw [ens_len, digs_len]; kernel_rfl) | kernel_rfl) (by first | (rw [lims_len, lims_len]) | (rw [el_rep, el_rep]) | (rw [el_rep, el_len]; rfl) | (rw [el_len, el_rep]; rfl) | (rw [el_len, el_len]; rfl) | (rw [byts_len, byts_len]) | (rw [lims_len]; rfl) | (rw [byts_len]; rfl) | (rw [us_len, us_len]; rfl) | (rw [bytn_len, bytn_len]) | (rw [bytn_len]; rfl) | (rw [ens_len, ens_len, digs_len, digs_len]) | rfl) (by first | exact lims_one _ _ | exact el_one _ | exact byts_one _ | exact us_one _ | exact bytn_one _ _ | exact ens_one _ | (intro v hv; simp at hv; rcases hv with rfl | rfl | rfl | rfl <;> rfl)) ?_)
      refine code_new (fun w3 k7 hnew => ?_)
      have k2 := k2.below hnew
      have kb := bel kb hnew
      clear hnew
      refine Tx.start (fun w' => Below (w3).heap.size (w3) w') 9999 6 rfl (by kernel_rfl) ?_
      have hS_1 : Below (w3).heap.size (w3) (World.drew w3) := (Below.refl _ _).drew
      refine Tx.seg (A := ?_) 0 63 (by kernel_rfl) (by exact hS_1) [0, 1, 2, 3, 4, 5] (by kernel_rfl) ?_ ?_
      rotate_left
      · intro w' hB
        have e1 := str_tag (k7.below hB)
        have e2 := str_hi (k2.below hB)
        iterate 6 (first | (refine rd_skip rfl rfl ?_; simp only [Act.put, List.setIfInBounds_toArray, List.set_cons_zero, List.set_cons_succ]) | (refine rd_load_arr rfl rfl _ _ rfl _ rfl (by kernel_rfl) _ (by assumption) (by first | (rw [lims_len]; kernel_rfl) | (rw [el_rep]; kernel_rfl) | (rw [el_len]; kernel_rfl) | (rw [byts_len]; kernel_rfl) | (rw [us_len]; kernel_rfl) | (rw [bytn_len]; kernel_rfl) | (rw [ens_len, digs_len]; kernel_rfl) | kernel_rfl) ?_; simp only [Act.put, List.setIfInBounds_toArray, List.set_cons_zero, List.set_cons_succ]) | (refine rd_take (v := ?_) rfl rfl ?_ ?_; rotate_left; (focus (go_simp; try (with_reducible rfl))); simp only [Act.put, List.setIfInBounds_toArray, List.set_cons_zero, List.set_cons_succ]) | (refine rd_take (v := ?_) rfl rfl ?_ ?_; rotate_left; (focus (try go_simp); fail)))
        exact rd_nil
      refine Tx.done (by kernel_rfl) ?_
      have kb := bel kb hS_1
      clear hS_1
      go_wp2_with fail
      go_ret
      exact ⟨rfl, kb⟩

end Go.Proofs.Ytfljonglibpgcaa
