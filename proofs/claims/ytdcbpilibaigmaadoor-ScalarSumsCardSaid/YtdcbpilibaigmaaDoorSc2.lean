/- scalar: Less, Mul, Add. -/
import Derived.Test.YtdcbpilibaigmaaDoorSc1
import Derived.Test.YtdcbpilibaigmaaDoorAp
namespace Go.Proofs.YtdcbpilibaigmaaDoor
open Go.RowKit

set_option maxHeartbeats 1000000 in
set_option maxRecDepth 100000 in
theorem scLess_any (a : Nat) (ha : a < 256 ^ 32) (w : World) :
    Calls Tryd.prog 9 #[.agg (byts a).toArray] w fun e w' => e = .returned (.bool (decide (a < qN))) ∧ Below w.heap.size w w' := by
  go_enter Tryd.func9, Tryd.ntmps9
  go_upto_region 1 with fail
  refine wp_new1 (fun W hsz h1 hb0 => ?_)
  go_wp2_with (first | (refine wpList_load_arr2 rfl _ _ rfl _ rfl (by kernel_rfl) _ (by assumption) (by first | (rw [lims_len]; kernel_rfl) | (rw [el_rep]; kernel_rfl) | (rw [el_len]; kernel_rfl) | (rw [byts_len]; kernel_rfl) | (rw [us_len]; kernel_rfl) | kernel_rfl) ?_))
  refine (limOf_any a ha _).mono ?_
  rintro e w2 ⟨rfl, hb2⟩
  have kb := bel hb0 hb2
  clear hb0 hb2
  go_wp2_with fail
  refine (order_any _).mono ?_
  rintro e w3 ⟨rfl, hb3⟩
  have kb := bel kb hb3
  go_wp2_with fail
  refine (limLess_any a qN (by omega) (by decide) _).mono ?_
  rintro e w4 ⟨rfl, hb4⟩
  have kb := bel kb hb4
  go_wp2_with fail
  go_ret
  exact ⟨rfl, kb⟩

set_option maxHeartbeats 1000000 in
set_option maxRecDepth 100000 in
theorem scMul_any (a b : Nat) (ha : a < 256 ^ 32) (hb : b < 256 ^ 32) (w : World) :
    Calls Tryd.prog 12 #[.agg (byts a).toArray, .agg (byts b).toArray] w fun e w' => e = .returned (.agg (byts (a * b % qN)).toArray) ∧ Below w.heap.size w w' := by
  go_enter Tryd.func12, Tryd.ntmps12
  go_upto_region 1 with fail
  refine wp_new3 (fun W hsz h1 h2 h3 hb0 => ?_)
  refine Tx.start (fun w' => Below (W).heap.size (W) w') 6 7 rfl (by kernel_rfl) ?_
  have hS_1 : Below (W).heap.size (W) (World.drew W) := (Below.refl _ _).drew
  refine Tx.seg (A := ?_) 5 5 (by kernel_rfl) (by exact (Below.refl _ _).drew) [0, 2] (by kernel_rfl) ?_ ?_
  rotate_left
  · intro w' hB
    have e1 := h1.below hB
    have e2 := h2.below hB
    iterate 2 (first | (refine rd_skip rfl rfl ?_; simp only [Act.put, List.setIfInBounds_toArray, List.set_cons_zero, List.set_cons_succ]) | (refine rd_load_arr rfl rfl _ _ rfl _ rfl (by kernel_rfl) _ (by assumption) (by first | (rw [lims_len]; kernel_rfl) | (rw [el_rep]; kernel_rfl) | (rw [el_len]; kernel_rfl) | (rw [byts_len]; kernel_rfl) | (rw [us_len]; kernel_rfl) | kernel_rfl) ?_; simp only [Act.put, List.setIfInBounds_toArray, List.set_cons_zero, List.set_cons_succ]) | (refine rd_take (v := ?_) rfl rfl ?_ ?_; rotate_left; (focus (go_simp; try (with_reducible rfl))); simp only [Act.put, List.setIfInBounds_toArray, List.set_cons_zero, List.set_cons_succ]))
    exact rd_nil
  refine Tx.poolB 1 63 [(1, 7), (3, 9), (4, 10), (5, 5)] [(false, []), (false, []), (false, [(1, 7), (3, 9)]), (false, [])] [(1, Ph.is (.agg (lims 4 a).toArray)), (3, Ph.is (.agg (lims 4 b).toArray)), (4, Ph.is (.agg (lims 8 (a * b)).toArray)), (5, Ph.arr W.heap.size (List.replicate 8 (.int .u64 0)))] (by kernel_rfl) (by kernel_rfl) (by first | assumption | exact (Below.refl _ _).drew) ?_ ?_
  · refine ⟨⟨_, rfl, ?_⟩, ⟨_, rfl, ?_⟩, ⟨_, rfl, ?_⟩, ⟨_, rfl, ?_⟩, trivial⟩
    · intro vs w1 hS hE hD K hK
      clear hD
      simp only [fillL, Act.put, List.setIfInBounds_toArray, List.set_cons_zero, List.set_cons_succ] at hK ⊢
      go_simp
      refine (limOf_any a ha _).mono ?_
      rintro e w2 ⟨rfl, hb2⟩
      exact hK _ _ rfl hb2 nofun
    · intro vs w1 hS hE hD K hK
      clear hD
      simp only [fillL, Act.put, List.setIfInBounds_toArray, List.set_cons_zero, List.set_cons_succ] at hK ⊢
      go_simp
      refine (limOf_any b hb _).mono ?_
      rintro e w2 ⟨rfl, hb2⟩
      exact hK _ _ rfl hb2 nofun
    · intro vs w1 hS hE hD K hK
      obtain ⟨q1, q3, -⟩ := hD
      simp only [fillL, Act.put, List.setIfInBounds_toArray, List.set_cons_zero, List.set_cons_succ] at hK ⊢
      rw [show vs 1 = _ from q1] at hK ⊢
      clear q1
      rw [show vs 3 = _ from q3] at hK ⊢
      clear q3
      go_simp
      have := limMul_any a b (by omega) w1
      rw [Nat.mod_eq_of_lt (by omega)] at this
      refine this.mono ?_
      rintro e w2 ⟨rfl, hb2⟩
      exact hK _ _ rfl hb2 nofun
    · intro vs w1 hS hE hD K hK
      clear hD
      simp only [fillL, Act.put, List.setIfInBounds_toArray, List.set_cons_zero, List.set_cons_succ] at hK ⊢
      go_simp
      exact hK _ _ ⟨_, rfl, Nat.le_trans (by first | exact Nat.le_refl _ | omega | (simp; omega)) hE.size, Arr.new _ _ _⟩ (below_alloc _ _) (fun _ => ⟨_, rfl, Nat.le_refl _⟩)
  intro vs w_p hS_p hE_p hP hD
  obtain ⟨q1, q3, q4, q5, -⟩ := hP
  simp only [fillL, Act.put, List.setIfInBounds_toArray, List.set_cons_zero, List.set_cons_succ]
  rw [show vs 1 = _ from q1]
  clear q1
  rw [show vs 3 = _ from q3]
  clear q3
  rw [show vs 4 = _ from q4]
  clear q4
  obtain ⟨g5, e5, hg5, ha5⟩ := q5
  rw [e5]
  clear e5 hD vs
  refine Tx.bar 127 rfl (by decide +kernel) (fun K hK => ?_)
  refine step_store_arr rfl _ _ _ rfl _ _ rfl rfl _ (by assumption) (by first | (rw [lims_len]; kernel_rfl) | (rw [el_rep]; kernel_rfl) | (rw [el_len]; kernel_rfl) | (rw [byts_len]; kernel_rfl) | (rw [us_len]; kernel_rfl) | kernel_rfl) (by first | (rw [lims_len, lims_len]) | (rw [el_rep, el_rep]) | (rw [el_rep, el_len]; rfl) | (rw [el_len, el_rep]; rfl) | (rw [el_len, el_len]; rfl) | (rw [byts_len, byts_len]) | (rw [lims_len]; rfl) | (rw [byts_len]; rfl) | (rw [us_len, us_len]; rfl) | rfl) (by first | exact lims_one _ _ | exact el_one _ | exact byts_one _ | exact us_one _ | (intro v hv; simp at hv; rcases hv with rfl | rfl | rfl | rfl <;> rfl)) ?_
  refine hK (fun _ => True) 9999 _ _ ?_
  clear hK K
  try simp only [Act.put]
  try simp only [List.setIfInBounds_toArray, List.set_cons_zero, List.set_cons_succ]
  refine Tx.done (by kernel_rfl) ?_
  have k3 : Arr W (w.heap.size + 1 + 1) (byts 0) := h3
  have hn3 := k3.lt
  have k3 := (k3.below hS_p).row_other (k := g5) (by omega) (lims 8 (a * b)).toArray
  have k5 := ha5.setRow (lims 8 (a * b))
  have kb := below_setRow (bel hb0 hS_p) (g := g5) (by omega) (lims 8 (a * b)).toArray
  generalize w_p.setRow g5 (lims 8 (a * b)).toArray = w5 at *
  clear ha5 hE_p hS_p h1 h2 h3
  have hr := reduce_any (digs 18446744073709551616 8 (a * b)) g5 0 8 w5 (by rw [digs_len]; decide) (by rw [digs_len]; decide) (digs_lt _ _ _ (by decide)) (fun j x hj => by rw [Nat.zero_add]; exact k5.cell (us_get _ j x hj))
  rw [digs_len, val_digs, Nat.mod_eq_of_lt (Nat.lt_of_lt_of_le (Nat.mul_lt_mul'' ha hb) (by decide))] at hr
  have hr := Lib.hid hr
  clear ha hb
  go_wp2_with fail
  refine hr.out.mono ?_
  rintro e w6 ⟨rfl, hb6⟩
  have k3 := k3.below hb6
  have kb := bel kb hb6
  clear hr hb6 k5
  go_wp2_with fail
  refine (limNum_any _ _).mono ?_
  rintro e w7 ⟨rfl, hb7⟩
  have k3 := k3.below hb7
  have kb := bel kb hb7
  clear hb7
  go_wp2_with (first | (refine wpList_store_arr rfl _ _ _ rfl _ _ rfl rfl _ (by first | assumption | exact Arr.new _ _ _) (by first | (rw [lims_len]; kernel_rfl) | (rw [el_rep]; kernel_rfl) | (rw [el_len]; kernel_rfl) | (rw [byts_len]; kernel_rfl) | (rw [us_len]; kernel_rfl) | kernel_rfl) (by first | (rw [lims_len, lims_len]) | (rw [el_rep, el_rep]) | (rw [el_rep, el_len]; rfl) | (rw [el_len, el_rep]; rfl) | (rw [el_len, el_len]; rfl) | (rw [byts_len, byts_len]) | (rw [lims_len]; rfl) | (rw [byts_len]; rfl) | (rw [us_len, us_len]; rfl) | rfl) (by first | exact lims_one _ _ | exact el_one _ | exact byts_one _ | exact us_one _ | (intro v hv; simp at hv; rcases hv with rfl | rfl | rfl | rfl <;> rfl)) ?_))
  exact bodyPost_ret (results_arr2 Tryd.results12 _ _ _ rfl (by kernel_rfl) _ (by first | assumption | exact Arr.setRow (by assumption) _) (by first | (rw [lims_len]; kernel_rfl) | (rw [el_rep]; kernel_rfl) | (rw [el_len]; kernel_rfl) | (rw [byts_len]; kernel_rfl) | (rw [us_len]; kernel_rfl) | kernel_rfl)) rfl ⟨rfl, below_setRow kb (by omega) _⟩
theorem info_u64 : (Tryd.prog.info? 35).map (fun i => (i.zero, i.size, i.bytes)) = some (some (.int .u64 0), 1, 8) := by kernel_rfl

/-- A slice over a whole array. -/
theorem Sl.of_arr {w : World} {g : Nat} {xs : List Value} (h : Arr w g xs) (hm : xs.length ≤ maxLen) : Sl w (.slice (some ⟨g, 0, none⟩) xs.length xs.length) xs :=
  ⟨some ⟨g, 0, none⟩, xs.length, rfl, Nat.le_refl _, hm, fun h => (by cases h), fun x hx => by
    cases hx
    intro j u hu
    rw [Addr.add_lit, Nat.zero_add]
    exact h.cell hu⟩

theorem val_append (b : Nat) : ∀ (xs ys : List Nat), val b (xs ++ ys) = val b xs + b ^ xs.length * val b ys
  | [], ys => by simp [val]
  | x :: xs, ys => by
    rw [List.cons_append, val, val, val_append b xs ys, List.length_cons, Nat.pow_succ, Nat.mul_comm (b ^ xs.length) b, Nat.mul_add, Nat.mul_assoc]
    omega

theorem sum_val (a b : Nat) (ha : a < 18446744073709551616 ^ 4) (hb : b < 18446744073709551616 ^ 4) : val 18446744073709551616 (digs 18446744073709551616 4 (a + b) ++ [carry 18446744073709551616 4 a b]) = a + b := by
  rw [val_append, val_digs, digs_len]
  unfold carry
  rw [Nat.mod_eq_of_lt ha, Nat.mod_eq_of_lt hb]
  simp only [val, Nat.mul_zero, Nat.add_zero]
  exact Nat.mod_add_div _ _

set_option maxHeartbeats 1000000 in
set_option maxRecDepth 100000 in
theorem scAdd_any (a b : Nat) (ha : a < 256 ^ 32) (hb : b < 256 ^ 32) (w : World) :
    Calls Tryd.prog 10 #[.agg (byts a).toArray, .agg (byts b).toArray] w fun e w' => e = .returned (.agg (byts ((a + b) % qN)).toArray) ∧ Below w.heap.size w w' := by
  go_enter Tryd.func10, Tryd.ntmps10
  go_upto_region 1 with fail
  refine wp_new3 (fun W hsz h1 h2 h3 hb0 => ?_)
  refine Tx.start (fun w' => Below (W).heap.size (W) w') 9 11 rfl (by kernel_rfl) ?_
  have hS_2 : Below (W).heap.size (W) (World.drew W) := (Below.refl _ _).drew
  refine Tx.seg (A := ?_) 9 5 (by kernel_rfl) (by exact (Below.refl _ _).drew) [0, 2] (by kernel_rfl) ?_ ?_
  rotate_left
  · intro w' hB
    have e1 := h1.below hB
    have e2 := h2.below hB
    iterate 2 (first | (refine rd_skip rfl rfl ?_; simp only [Act.put, List.setIfInBounds_toArray, List.set_cons_zero, List.set_cons_succ]) | (refine rd_load_arr rfl rfl _ _ rfl _ rfl (by kernel_rfl) _ (by assumption) (by first | (rw [lims_len]; kernel_rfl) | (rw [el_rep]; kernel_rfl) | (rw [el_len]; kernel_rfl) | (rw [byts_len]; kernel_rfl) | (rw [us_len]; kernel_rfl) | kernel_rfl) ?_; simp only [Act.put, List.setIfInBounds_toArray, List.set_cons_zero, List.set_cons_succ]) | (refine rd_take (v := ?_) rfl rfl ?_ ?_; rotate_left; (focus (go_simp; try (with_reducible rfl))); simp only [Act.put, List.setIfInBounds_toArray, List.set_cons_zero, List.set_cons_succ]))
    exact rd_nil
  refine Tx.poolB 2 511 [(1, 9), (3, 11), (4, 12), (5, 7), (6, 13), (7, 14), (8, 5)] [(false, []), (false, []), (false, [(1, 9), (3, 11)]), (true, [(4, 12)]), (true, [(5, 7)]), (true, [(5, 7)]), (false, [])] [(1, Ph.is (.agg (lims 4 a).toArray)), (3, Ph.is (.agg (lims 4 b).toArray)), (4, Ph.is (.tuple #[.agg (lims 4 (a + b)).toArray, .int .u64 (carry 18446744073709551616 4 a b : Nat)])), (5, Ph.is (.tuple #[.agg (lims 4 (a + b)).toArray, .int .u64 (carry 18446744073709551616 4 a b : Nat)])), (6, Ph.is (.agg (lims 4 (a + b)).toArray)), (7, Ph.is (.int .u64 (carry 18446744073709551616 4 a b : Nat))), (8, Ph.arr W.heap.size (lims 4 0))] (by kernel_rfl) (by kernel_rfl) (by first | assumption | exact (Below.refl _ _).drew) ?_ ?_
  · refine ⟨⟨_, rfl, ?_⟩, ⟨_, rfl, ?_⟩, ⟨_, rfl, ?_⟩, ⟨_, rfl, ?_⟩, ⟨_, rfl, ?_⟩, ⟨_, rfl, ?_⟩, ⟨_, rfl, ?_⟩, trivial⟩
    · intro vs w1 hS hE hD K hK
      clear hD
      simp only [fillL, Act.put, List.setIfInBounds_toArray, List.set_cons_zero, List.set_cons_succ] at hK ⊢
      go_simp
      refine (limOf_any a ha _).mono ?_
      rintro e w2 ⟨rfl, hb2⟩
      exact hK _ _ rfl hb2 nofun
    · intro vs w1 hS hE hD K hK
      clear hD
      simp only [fillL, Act.put, List.setIfInBounds_toArray, List.set_cons_zero, List.set_cons_succ] at hK ⊢
      go_simp
      refine (limOf_any b hb _).mono ?_
      rintro e w2 ⟨rfl, hb2⟩
      exact hK _ _ rfl hb2 nofun
    · intro vs w1 hS hE hD K hK
      obtain ⟨q1, q3, -⟩ := hD
      simp only [fillL, Act.put, List.setIfInBounds_toArray, List.set_cons_zero, List.set_cons_succ] at hK ⊢
      rw [show vs 1 = _ from q1] at hK ⊢
      clear q1
      rw [show vs 3 = _ from q3] at hK ⊢
      clear q3
      go_simp
      refine (limAdd_any a b _).mono ?_
      rintro e w2 ⟨rfl, hb2⟩
      exact hK _ _ rfl hb2 nofun
    · intro vs w1 hS hE hD
      obtain ⟨q4, -⟩ := hD
      simp only [fillL, Act.put, List.setIfInBounds_toArray, List.set_cons_zero, List.set_cons_succ] at ⊢
      rw [show vs 4 = _ from q4] at ⊢
      clear q4
      refine ⟨_, rfl, fun w' => (by first | (go_simp; done) | (go_simp; rfl)), rfl, nofun⟩
    · intro vs w1 hS hE hD
      obtain ⟨q5, -⟩ := hD
      simp only [fillL, Act.put, List.setIfInBounds_toArray, List.set_cons_zero, List.set_cons_succ] at ⊢
      rw [show vs 5 = _ from q5] at ⊢
      clear q5
      refine ⟨_, rfl, fun w' => (by first | (go_simp; done) | (go_simp; rfl)), rfl, nofun⟩
    · intro vs w1 hS hE hD
      obtain ⟨q5, -⟩ := hD
      simp only [fillL, Act.put, List.setIfInBounds_toArray, List.set_cons_zero, List.set_cons_succ] at ⊢
      rw [show vs 5 = _ from q5] at ⊢
      clear q5
      refine ⟨_, rfl, fun w' => (by first | (go_simp; done) | (go_simp; rfl)), rfl, nofun⟩
    · intro vs w1 hS hE hD K hK
      clear hD
      simp only [fillL, Act.put, List.setIfInBounds_toArray, List.set_cons_zero, List.set_cons_succ] at hK ⊢
      go_simp
      exact hK _ _ ⟨_, rfl, Nat.le_trans (by first | exact Nat.le_refl _ | omega | (simp; omega)) hE.size, Arr.new _ _ _⟩ (below_alloc _ _) (fun _ => ⟨_, rfl, Nat.le_refl _⟩)
  intro vs w_p hS_p hE_p hP hD
  obtain ⟨q1, q3, q4, q5, q6, q7, q8, -⟩ := hP
  simp only [fillL, Act.put, List.setIfInBounds_toArray, List.set_cons_zero, List.set_cons_succ]
  rw [show vs 1 = _ from q1]
  clear q1
  rw [show vs 3 = _ from q3]
  clear q3
  rw [show vs 4 = _ from q4]
  clear q4
  rw [show vs 5 = _ from q5]
  clear q5
  rw [show vs 6 = _ from q6]
  clear q6
  rw [show vs 7 = _ from q7]
  clear q7
  obtain ⟨g8, e8, hg8, ha8⟩ := q8
  rw [e8]
  clear e8 hD vs
  refine Tx.bar 1023 rfl (by decide +kernel) (fun K hK => ?_)
  refine step_store_arr rfl _ _ _ rfl _ _ rfl rfl _ (by assumption) (by first | (rw [lims_len]; kernel_rfl) | (rw [el_rep]; kernel_rfl) | (rw [el_len]; kernel_rfl) | (rw [byts_len]; kernel_rfl) | (rw [us_len]; kernel_rfl) | kernel_rfl) (by first | (rw [lims_len, lims_len]) | (rw [el_rep, el_rep]) | (rw [el_rep, el_len]; rfl) | (rw [el_len, el_rep]; rfl) | (rw [el_len, el_len]; rfl) | (rw [byts_len, byts_len]) | (rw [lims_len]; rfl) | (rw [byts_len]; rfl) | (rw [us_len, us_len]; rfl) | rfl) (by first | exact lims_one _ _ | exact el_one _ | exact byts_one _ | exact us_one _ | (intro v hv; simp at hv; rcases hv with rfl | rfl | rfl | rfl <;> rfl)) ?_
  refine hK (fun _ => True) 9999 _ _ ?_
  clear hK K
  try simp only [Act.put]
  try simp only [List.setIfInBounds_toArray, List.set_cons_zero, List.set_cons_succ]
  refine Tx.seg (A := ?_) 0 2047 (by kernel_rfl) (by exact trivial) [10] (by kernel_rfl) ?_ ?_
  rotate_left
  · intro w' hB
    iterate 1 (first | (refine rd_skip rfl rfl ?_; simp only [Act.put, List.setIfInBounds_toArray, List.set_cons_zero, List.set_cons_succ]) | (refine rd_load_arr rfl rfl _ _ rfl _ rfl (by kernel_rfl) _ (by assumption) (by first | (rw [lims_len]; kernel_rfl) | (rw [el_rep]; kernel_rfl) | (rw [el_len]; kernel_rfl) | (rw [byts_len]; kernel_rfl) | (rw [us_len]; kernel_rfl) | kernel_rfl) ?_; simp only [Act.put, List.setIfInBounds_toArray, List.set_cons_zero, List.set_cons_succ]) | (refine rd_take (v := ?_) rfl rfl ?_ ?_; rotate_left; (focus (go_simp; try (with_reducible rfl))); simp only [Act.put, List.setIfInBounds_toArray, List.set_cons_zero, List.set_cons_succ]))
    exact rd_nil
  refine Tx.done (by kernel_rfl) ?_
  have k3 : Arr W (w.heap.size + 1 + 1) (byts 0) := h3
  have hn3 := k3.lt
  have k3 := (k3.below hS_p).row_other (k := g8) (by omega) (lims 4 (a + b)).toArray
  have k5 := ha8.setRow (lims 4 (a + b))
  have kb := below_setRow (bel hb0 hS_p) (g := g8) (by omega) (lims 4 (a + b)).toArray
  generalize w_p.setRow g8 (lims 4 (a + b)).toArray = w5 at *
  clear ha8 hE_p hS_p h1 h2 h3
  have hc1 := carry_le 18446744073709551616 4 a b (by decide)
  have hv := sum_val a b (by omega) (by omega)
  obtain ⟨c, hc⟩ : ∃ c, carry 18446744073709551616 4 a b = c := ⟨_, rfl⟩
  rw [hc] at hc1 hv ⊢
  have hv := Lib.hid hv
  clear ha hb hc
  obtain ⟨i, hi, hz0, hz1, hz2⟩ := info_parts info_u64
  have hS4 : ∀ o : Obj, Sl (w5.alloc o) (.slice (some ⟨g8, 0, none⟩) 4 4) (lims 4 (a + b)) := fun o => by
    have := Sl.of_arr (k5.alloc o) (by rw [lims_len]; decide)
    rwa [lims_len] at this
  have hlv := lims_len 4 (a + b)
  go_wp2_with (at_builtin; refine wpList_append_new rfl _ _ 34 rfl 35 Tryd.underlying34 hi hz0 hz1 hz2 rfl rfl (hS4 _) rfl (Sl.new1 _ _ _) ?c1 ?c2 ?c3 ?c4 ?_)
  case c1 => rw [hlv]; simp
  case c2 => intro u hu; simp at hu; rw [hu]; rfl
  case c3 => simp [maxLen]
  case c4 => simp
  intro v' w6 hown hb6
  have hus : lims 4 (a + b) ++ [Value.int .u64 (c : Int)] = us (digs 18446744073709551616 4 (a + b) ++ [c]) := by simp [lims_us, us]
  have hsl := Sl.of_own hown
  rw [hus] at hsl
  have kb := bel1 kb hb6
  have k3 := k3.below1 hb6
  obtain ⟨d, cap, rfl, hl1, hl2, hl3, hl4⟩ := id hsl
  have hlen5 : (us (digs 18446744073709551616 4 (a + b) ++ [c])).length = 5 := by simp [us_len, digs_len]
  obtain ⟨bb, oo, rfl, -, -, -, hcc⟩ := hsl.at (by rw [hlen5]; decide)
  rw [hlen5]
  have hr := reduce_any (digs 18446744073709551616 4 (a + b) ++ [c]) bb oo cap w6 (by simp) (by simp [digs_len]) (by
    intro x hx
    rcases List.mem_append.1 hx with hx | hx
    · exact digs_lt _ _ _ (by decide) x hx
    · simp at hx; omega) (fun j x hj => hcc j _ (us_get _ _ _ hj))
  have hlen6 : (digs 18446744073709551616 4 (a + b) ++ [c]).length = 5 := by simp [digs_len]
  rw [hlen6, hv.out] at hr
  have hr := Lib.hid hr
  clear hsl hl1 hl2 hl3 hl4 hown hus hcc hlen5 hlen6 hv hS4 hlv
  go_wp2_with fail
  refine hr.out.mono ?_
  rintro e w7 ⟨rfl, hb7⟩
  have k3 := k3.below hb7
  have kb := bel kb hb7
  clear hr hb7
  go_wp2_with fail
  refine (limNum_any _ _).mono ?_
  rintro e w8 ⟨rfl, hb8⟩
  have k3 := k3.below hb8
  have kb := bel kb hb8
  go_wp2_with (first | (refine wpList_store_arr rfl _ _ _ rfl _ _ rfl rfl _ (by first | assumption | exact Arr.new _ _ _) (by first | (rw [lims_len]; kernel_rfl) | (rw [el_rep]; kernel_rfl) | (rw [el_len]; kernel_rfl) | (rw [byts_len]; kernel_rfl) | (rw [us_len]; kernel_rfl) | kernel_rfl) (by first | (rw [lims_len, lims_len]) | (rw [el_rep, el_rep]) | (rw [el_rep, el_len]; rfl) | (rw [el_len, el_rep]; rfl) | (rw [el_len, el_len]; rfl) | (rw [byts_len, byts_len]) | (rw [lims_len]; rfl) | (rw [byts_len]; rfl) | (rw [us_len, us_len]; rfl) | rfl) (by first | exact lims_one _ _ | exact el_one _ | exact byts_one _ | exact us_one _ | (intro v hv; simp at hv; rcases hv with rfl | rfl | rfl | rfl <;> rfl)) ?_))
  exact bodyPost_ret (results_arr2 Tryd.results10 _ _ _ rfl (by kernel_rfl) _ (by first | assumption | exact Arr.setRow (by assumption) _) (by first | (rw [lims_len]; kernel_rfl) | (rw [el_rep]; kernel_rfl) | (rw [el_len]; kernel_rfl) | (rw [byts_len]; kernel_rfl) | (rw [us_len]; kernel_rfl) | kernel_rfl)) rfl ⟨rfl, below_setRow kb (by omega) _⟩

end Go.Proofs.YtdcbpilibaigmaaDoor
