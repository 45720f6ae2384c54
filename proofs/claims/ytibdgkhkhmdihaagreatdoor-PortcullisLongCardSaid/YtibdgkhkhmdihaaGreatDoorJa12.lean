import Derived.Test.YtibdgkhkhmdihaaGreatDoorJa07
import Derived.Test.YtibdgkhkhmdihaaGreatDoorJa03
import Derived.Test.YtibdgkhkhmdihaaGreatDoorJa08

namespace Go.Proofs.YtibdgkhkhmdihaaGreatDoor
open Go.RowKit
/-- 2^255 - 19. -/
def pN : Nat := 57896044618658097711785492504343953926634992332820282019728792003956564819949
theorem pN_pos : 0 < pN := by decide
theorem two256_p : 18446744073709551616 ^ 4 = 2 * pN + 38 := by decide
theorem lims_p : (lims 4 pN).toArray = #[.int .u64 18446744073709551597, .int .u64 18446744073709551615, .int .u64 18446744073709551615, .int .u64 9223372036854775807] := by kernel_rfl
theorem prime_any (w : World) : Calls Tryz.prog 183 #[] w fun e w' => e = .returned (.agg (lims 4 pN).toArray) ∧ Below w.heap.size w w' := by
  go_enter Tryz.func183, Tryz.ntmps183
  go_wp2_with fail
  refine bodyPost_ret (v := .agg (lims 4 pN).toArray) (by rw [lims_p]; simp [results, Tryz.results183, go_sem]) rfl ⟨rfl, ?_⟩
  exact ((below_alloc _ _))
theorem lims_small (x : Nat) (hx : x < 18446744073709551616) : (lims 4 x).toArray = #[.int .u64 (x : Int), .int .u64 0, .int .u64 0, .int .u64 0] := by
  have e : ∀ i, 0 < i → x / 18446744073709551616 ^ i % 18446744073709551616 = 0 := by
    intro i hi
    obtain ⟨j, rfl⟩ : ∃ j, i = j + 1 := ⟨i - 1, by omega⟩
    rw [Nat.pow_succ, Nat.mul_comm, ← Nat.div_div_eq_div_mul, Nat.div_eq_of_lt hx, Nat.zero_div]
  simp only [lims, digs, show List.range 4 = [0, 1, 2, 3] from by decide, List.map_cons, List.map_nil, Nat.pow_zero, Nat.div_one, Nat.mod_eq_of_lt hx]
  simp only [e 1 (by decide), e 2 (by decide), e 3 (by decide)]
  rfl
set_option maxHeartbeats 1000000 in
set_option maxRecDepth 100000 in
theorem lessen_any (n : Nat) (hn : n < 18446744073709551616 ^ 4) (w : World) :
    Calls Tryz.prog 200 #[.agg (lims 4 n).toArray] w fun e w' => e = .returned (.agg (lims 4 (n % pN)).toArray) ∧ Below w.heap.size w w' := by
  go_enter Tryz.func200, Tryz.ntmps200
  go_upto_region 1 with fail
  refine wp_new2 (fun W hsz h1 h2 hb0 => ?_)
  go_wp2_with fail
  go_loopw [5] (fun kv wr => ∃ (k m : Nat), k ≤ 2 ∧ kv = .int .i64 k ∧ m % pN = n % pN ∧ m < pN * (3 - k) ∧ m ≤ n ∧ Arr wr w.heap.size (lims 4 m) ∧ Arr wr (w.heap.size + 1) (lims 4 0) ∧ Below w.heap.size w wr) (fun kv _ => 2 - (intOf kv).toNat)
  case atStart => exact ⟨0, n, by omega, rfl, rfl, by have := two256_p; have : 38 < pN := by decide
                                                      omega, Nat.le_refl _, h1, h2, hb0⟩
  case round =>
    obtain ⟨k, m, hk, rfl, hm, hlt, hmn, k1, k2, kb⟩ := hrel
    have hm' := Lib.hid hm
    clear h1 h2 hb0 hsz hm
    by_cases hk2 : k < 2
    · have hpl : pN < 18446744073709551616 ^ 4 := by decide
      have hlt' := Lib.hid hlt
      clear hlt
      have hdk : decide ((k : Int) < 2) = true := by simp; omega
      go_upto_region 3 with fail
      refine Tx.start (fun w' => Below (wr).heap.size (wr) w') 7 9 rfl (by kernel_rfl) ?_
      have hS_1 : Below (wr).heap.size (wr) (World.drew wr) := (Below.refl _ _).drew
      refine Tx.seg (A := ?_) 8 1 (by kernel_rfl) (by exact hS_1) [0] (by kernel_rfl) ?_ ?_
      rotate_left
      · intro w' hB
        have e1 := k1.below hB
        iterate 1 (first | (refine rd_skip rfl rfl ?_; simp only [Act.put, List.setIfInBounds_toArray, List.set_cons_zero, List.set_cons_succ]) | (refine rd_load_arr rfl rfl _ _ rfl _ rfl (by decide +kernel) _ (by assumption) (by first | (rw [lims_len]; kernel_rfl) | (rw [el_rep]; kernel_rfl) | (rw [el_len]; kernel_rfl) | (rw [byts_len]; kernel_rfl) | (rw [us_len]; kernel_rfl) | (rw [bytn_len]; kernel_rfl) | (rw [ens_len, digs_len]; kernel_rfl) | (rw [ptL_len]; kernel_rfl) | (rw [pcs_len]; kernel_rfl) | kernel_rfl) ?_; simp only [Act.put, List.setIfInBounds_toArray, List.set_cons_zero, List.set_cons_succ]) | (refine rd_take (v := ?_) rfl rfl ?_ ?_; rotate_left; (focus (go_simp; try (with_reducible rfl))); simp only [Act.put, List.setIfInBounds_toArray, List.set_cons_zero, List.set_cons_succ]))
        exact rd_nil
      refine Tx.poolB 2 127 [(1, 9), (2, 10), (3, 7), (4, 11), (5, 12), (6, 3)] [(false, []), (false, [(1, 9)]), (true, [(2, 10)]), (true, [(3, 7)]), (true, [(3, 7)]), (false, [])] [(1, Ph.is (.agg (lims 4 pN).toArray)), (2, Ph.is (.tuple #[.agg (lims 4 (m + 18446744073709551616 ^ 4 - pN)).toArray, .int .u64 (borrow 18446744073709551616 4 m pN : Nat)])), (3, Ph.is (.tuple #[.agg (lims 4 (m + 18446744073709551616 ^ 4 - pN)).toArray, .int .u64 (borrow 18446744073709551616 4 m pN : Nat)])), (4, Ph.is (.agg (lims 4 (m + 18446744073709551616 ^ 4 - pN)).toArray)), (5, Ph.is (.int .u64 (borrow 18446744073709551616 4 m pN : Nat))), (6, Ph.arr wr.heap.size (lims 4 0))] (by kernel_rfl) (by kernel_rfl) (by first | assumption | exact (Below.refl _ _).drew) ?_ ?_
      · refine ⟨⟨_, rfl, ?_⟩, ⟨_, rfl, ?_⟩, ⟨_, rfl, ?_⟩, ⟨_, rfl, ?_⟩, ⟨_, rfl, ?_⟩, ⟨_, rfl, ?_⟩, trivial⟩
        · intro vs w1 hS hE hD K hK
          clear hD
          simp only [fillL, Act.put, List.setIfInBounds_toArray, List.set_cons_zero, List.set_cons_succ] at hK ⊢
          go_simp
          refine (prime_any _).mono ?_
          rintro e w2 ⟨rfl, hb2⟩
          exact hK _ _ rfl hb2 nofun
        · intro vs w1 hS hE hD K hK
          obtain ⟨q1, -⟩ := hD
          simp only [fillL, Act.put, List.setIfInBounds_toArray, List.set_cons_zero, List.set_cons_succ] at hK ⊢
          rw [show vs 1 = _ from q1] at hK ⊢
          clear q1
          go_simp
          refine (limSub_any m pN (by omega) _).mono ?_
          rintro e w2 ⟨rfl, hb2⟩
          exact hK _ _ rfl hb2 nofun
        · intro vs w1 hS hE hD
          obtain ⟨q2, -⟩ := hD
          simp only [fillL, Act.put, List.setIfInBounds_toArray, List.set_cons_zero, List.set_cons_succ] at ⊢
          rw [show vs 2 = _ from q2] at ⊢
          clear q2
          refine ⟨_, rfl, fun w' => (by first | (go_simp; done) | (go_simp; rfl)), rfl, nofun⟩
        · intro vs w1 hS hE hD
          obtain ⟨q3, -⟩ := hD
          simp only [fillL, Act.put, List.setIfInBounds_toArray, List.set_cons_zero, List.set_cons_succ] at ⊢
          rw [show vs 3 = _ from q3] at ⊢
          clear q3
          refine ⟨_, rfl, fun w' => (by first | (go_simp; done) | (go_simp; rfl)), rfl, nofun⟩
        · intro vs w1 hS hE hD
          obtain ⟨q3, -⟩ := hD
          simp only [fillL, Act.put, List.setIfInBounds_toArray, List.set_cons_zero, List.set_cons_succ] at ⊢
          rw [show vs 3 = _ from q3] at ⊢
          clear q3
          refine ⟨_, rfl, fun w' => (by first | (go_simp; done) | (go_simp; rfl)), rfl, nofun⟩
        · intro vs w1 hS hE hD K hK
          clear hD
          simp only [fillL, Act.put, List.setIfInBounds_toArray, List.set_cons_zero, List.set_cons_succ] at hK ⊢
          go_simp
          exact hK _ _ ⟨_, rfl, Nat.le_trans (by first | exact Nat.le_refl _ | omega | (simp; omega)) hE.size, Arr.new _ _ _⟩ (below_alloc _ _) (fun _ => ⟨_, rfl, Nat.le_refl _⟩)
      intro vs w_p hS_p hE_p hP hD
      obtain ⟨q1, q2, q3, q4, q5, q6, -⟩ := hP
      simp only [fillL, Act.put, List.setIfInBounds_toArray, List.set_cons_zero, List.set_cons_succ]
      rw [show vs 1 = _ from q1]
      clear q1
      rw [show vs 2 = _ from q2]
      clear q2
      rw [show vs 3 = _ from q3]
      clear q3
      rw [show vs 4 = _ from q4]
      clear q4
      rw [show vs 5 = _ from q5]
      clear q5
      obtain ⟨g6, e6, hg6, ha6⟩ := q6
      rw [e6]
      clear e6 hD vs
      refine Tx.bar 255 rfl (by decide +kernel) (fun K hK => ?_)
      refine step_store_arr rfl _ _ _ rfl _ _ rfl rfl _ (by assumption) (by first | (rw [lims_len]; kernel_rfl) | (rw [el_rep]; kernel_rfl) | (rw [el_len]; kernel_rfl) | (rw [byts_len]; kernel_rfl) | (rw [us_len]; kernel_rfl) | (rw [bytn_len]; kernel_rfl) | (rw [ens_len, digs_len]; kernel_rfl) | (rw [ptL_len]; kernel_rfl) | (rw [pcs_len]; kernel_rfl) | kernel_rfl) (by first | (rw [lims_len, lims_len]) | (rw [el_rep, el_rep]) | (rw [el_rep, el_len]; rfl) | (rw [el_len, el_rep]; rfl) | (rw [el_len, el_len]; rfl) | (rw [byts_len, byts_len]) | (rw [lims_len]; rfl) | (rw [byts_len]; rfl) | (rw [us_len, us_len]; rfl) | (rw [bytn_len, bytn_len]) | (rw [bytn_len]; rfl) | (rw [ptL_len, ptL_len]) | (rw [pcs_len, pcs_len]) | (rw [ptL_len, pcs_len]) | (rw [pcs_len, ptL_len]) | (rw [ens_len, ens_len, digs_len, digs_len]) | rfl) (by first | exact lims_one _ _ | exact el_one _ | exact byts_one _ | exact us_one _ | exact bytn_one _ _ | exact ens_one _ | exact ptL_one _ _ _ _ | exact pcs_one _ | (intro v hv; simp at hv; rcases hv with rfl | rfl | rfl | rfl <;> rfl)) ?_
      refine hK (fun _ => True) 9999 _ _ ?_
      clear hK K
      try simp only [Act.put]
      try simp only [List.setIfInBounds_toArray, List.set_cons_zero, List.set_cons_succ]
      refine Tx.seg (A := ?_) 0 511 (by kernel_rfl) (by exact trivial) [8] (by kernel_rfl) ?_ ?_
      rotate_left
      · intro w' hB
        iterate 1 (first | (refine rd_skip rfl rfl ?_; simp only [Act.put, List.setIfInBounds_toArray, List.set_cons_zero, List.set_cons_succ]) | (refine rd_load_arr rfl rfl _ _ rfl _ rfl (by decide +kernel) _ (by assumption) (by first | (rw [lims_len]; kernel_rfl) | (rw [el_rep]; kernel_rfl) | (rw [el_len]; kernel_rfl) | (rw [byts_len]; kernel_rfl) | (rw [us_len]; kernel_rfl) | (rw [bytn_len]; kernel_rfl) | (rw [ens_len, digs_len]; kernel_rfl) | (rw [ptL_len]; kernel_rfl) | (rw [pcs_len]; kernel_rfl) | kernel_rfl) ?_; simp only [Act.put, List.setIfInBounds_toArray, List.set_cons_zero, List.set_cons_succ]) | (refine rd_take (v := ?_) rfl rfl ?_ ?_; rotate_left; (focus (go_simp; try (with_reducible rfl))); simp only [Act.put, List.setIfInBounds_toArray, List.set_cons_zero, List.set_cons_succ]))
        exact rd_nil
      refine Tx.done (by kernel_rfl) ?_
      have hn5 : w.heap.size + 1 < g6 := Nat.lt_of_lt_of_le k2.lt hg6
      refine then_row ha6 (fun w5 k6 hoth hbel => ?_)
      have k1 := hoth _ _ (by omega) (k1.below hS_p)
      have k2 := hoth _ _ (by omega) (k2.below hS_p)
      have kb := hbel _ _ (by omega) (bel kb hS_p)
      clear hoth hbel ha6 hg6 hE_p hS_p
      rw [borrow_all (a := m) (b := pN) (by omega) hpl]
      have hpp := pN_pos
      by_cases hlq : m < pN
      · rw [if_pos hlq]
        go_wp2_with fail
        refine ⟨⟨k + 1, m, by omega, by go_num, hm'.out, ?_, hmn, k1, k2, kb⟩, by simp [intOf]; omega⟩
        exact Nat.lt_of_lt_of_le hlq (Nat.le_mul_of_pos_right _ (by omega))
      · rw [if_neg hlq]
        go_wp2_with (first | (refine wpList_load_arr2 rfl _ _ rfl _ rfl (by decide +kernel) _ (by assumption) (by first | (rw [lims_len]; kernel_rfl) | (rw [el_rep]; kernel_rfl) | (rw [el_len]; kernel_rfl) | (rw [byts_len]; kernel_rfl) | (rw [us_len]; kernel_rfl) | (rw [bytn_len]; kernel_rfl) | (rw [ens_len, digs_len]; kernel_rfl) | (rw [ptL_len]; kernel_rfl) | (rw [pcs_len]; kernel_rfl) | kernel_rfl) ?_) | (refine wpList_store_arr rfl _ _ _ rfl _ _ rfl rfl _ (by first | assumption | exact Arr.new _ _ _) (by first | (rw [lims_len]; kernel_rfl) | (rw [el_rep]; kernel_rfl) | (rw [el_len]; kernel_rfl) | (rw [byts_len]; kernel_rfl) | (rw [us_len]; kernel_rfl) | (rw [bytn_len]; kernel_rfl) | (rw [ens_len, digs_len]; kernel_rfl) | (rw [ptL_len]; kernel_rfl) | (rw [pcs_len]; kernel_rfl) | kernel_rfl) (by first | (rw [lims_len, lims_len]) | (rw [el_rep, el_rep]) | (rw [el_rep, el_len]; rfl) | (rw [el_len, el_rep]; rfl) | (rw [el_len, el_len]; rfl) | (rw [byts_len, byts_len]) | (rw [lims_len]; rfl) | (rw [byts_len]; rfl) | (rw [us_len, us_len]; rfl) | (rw [bytn_len, bytn_len]) | (rw [bytn_len]; rfl) | (rw [ptL_len, ptL_len]) | (rw [pcs_len, pcs_len]) | (rw [ptL_len, pcs_len]) | (rw [pcs_len, ptL_len]) | (rw [ens_len, ens_len, digs_len, digs_len]) | rfl) (by first | exact lims_one _ _ | exact el_one _ | exact byts_one _ | exact us_one _ | exact bytn_one _ _ | exact ens_one _ | exact ptL_one _ _ _ _ | exact pcs_one _ | (intro v hv; simp at hv; rcases hv with rfl | rfl | rfl | rfl <;> rfl)) ?_))
        have e : lims 4 (m + 18446744073709551616 ^ 4 - pN) = lims 4 (m - pN) := lims_mod _ _ ⟨1, by omega⟩
        refine ⟨⟨k + 1, m - pN, by omega, by go_num, ?_, ?_, by omega, ?_, k2.row_other (by omega) _, below_setRow kb (by omega) _⟩, by simp [intOf]; omega⟩
        · rw [← hm'.out]; exact (Nat.mod_eq_sub_mod (by omega)).symm
        · have h7 := hlt'.out
          have e2 : pN * (3 - k) = pN * (3 - (k + 1)) + pN := by rw [show 3 - k = (3 - (k + 1)) + 1 by omega, Nat.mul_add, Nat.mul_one]
          omega
        · rw [← e]
          exact k1.setRow _
    · obtain rfl : k = 2 := by omega
      have e : m = n % pN := by rw [← hm'.out, Nat.mod_eq_of_lt (by omega)]
      clear hlt
      subst e
      go_wp2_with (first | (refine wpList_load_arr2 rfl _ _ rfl _ rfl (by decide +kernel) _ (by assumption) (by first | (rw [lims_len]; kernel_rfl) | (rw [el_rep]; kernel_rfl) | (rw [el_len]; kernel_rfl) | (rw [byts_len]; kernel_rfl) | (rw [us_len]; kernel_rfl) | (rw [bytn_len]; kernel_rfl) | (rw [ens_len, digs_len]; kernel_rfl) | (rw [ptL_len]; kernel_rfl) | (rw [pcs_len]; kernel_rfl) | kernel_rfl) ?_) | (refine wpList_store_arr rfl _ _ _ rfl _ _ rfl rfl _ (by first | assumption | exact Arr.new _ _ _) (by first | (rw [lims_len]; kernel_rfl) | (rw [el_rep]; kernel_rfl) | (rw [el_len]; kernel_rfl) | (rw [byts_len]; kernel_rfl) | (rw [us_len]; kernel_rfl) | (rw [bytn_len]; kernel_rfl) | (rw [ens_len, digs_len]; kernel_rfl) | (rw [ptL_len]; kernel_rfl) | (rw [pcs_len]; kernel_rfl) | kernel_rfl) (by first | (rw [lims_len, lims_len]) | (rw [el_rep, el_rep]) | (rw [el_rep, el_len]; rfl) | (rw [el_len, el_rep]; rfl) | (rw [el_len, el_len]; rfl) | (rw [byts_len, byts_len]) | (rw [lims_len]; rfl) | (rw [byts_len]; rfl) | (rw [us_len, us_len]; rfl) | (rw [bytn_len, bytn_len]) | (rw [bytn_len]; rfl) | (rw [ptL_len, ptL_len]) | (rw [pcs_len, pcs_len]) | (rw [ptL_len, pcs_len]) | (rw [pcs_len, ptL_len]) | (rw [ens_len, ens_len, digs_len, digs_len]) | rfl) (by first | exact lims_one _ _ | exact el_one _ | exact byts_one _ | exact us_one _ | exact bytn_one _ _ | exact ens_one _ | exact ptL_one _ _ _ _ | exact pcs_one _ | (intro v hv; simp at hv; rcases hv with rfl | rfl | rfl | rfl <;> rfl)) ?_))
      exact bodyPost_ret (results_arr2 Tryz.results200 _ _ _ rfl (by kernel_rfl) _ (by first | assumption | exact Arr.setRow (by assumption) _) (by first | (rw [lims_len]; kernel_rfl) | (rw [el_rep]; kernel_rfl) | (rw [el_len]; kernel_rfl) | (rw [byts_len]; kernel_rfl) | (rw [us_len]; kernel_rfl) | (rw [bytn_len]; kernel_rfl) | (rw [ens_len, digs_len]; kernel_rfl) | (rw [ptL_len]; kernel_rfl) | (rw [pcs_len]; kernel_rfl) | kernel_rfl)) rfl ⟨rfl, below_setRow kb (by omega) _⟩
end Go.Proofs.YtibdgkhkhmdihaaGreatDoor

