/- field: Square, Root. -/
import Derived.Test.YtdcbpilibaigmaaDoorFd5
import Derived.Test.YtdcbpilibaigmaaDoorEq
import Derived.Test.YtdcbpilibaigmaaDoorNq
namespace Go.Proofs.YtdcbpilibaigmaaDoor
open Go.RowKit

def eN : Nat := 7237005577332262213973186563042994240829374041602535252466099000494570602494
def hN : Nat := 28948022309329048855892746252171976963317496166410141009864396001978282409974
def iN : Nat := 19681161376707505956807079304988542015446066515923890162744021073123829784752
theorem hN_two : 2 * hN = pN - 1 := by decide
theorem eN_four : 4 * eN = hN + 2 := by decide
theorem iN_sq : iN * iN % pN = pN - 1 := by decide
theorem pN_odd : pN % 2 = 1 := by decide
theorem pN_prime : Nt.Prime pN := Nt.prime_p
theorem lims_e : (lims 4 eN).toArray = #[.int .u64 18446744073709551614, .int .u64 18446744073709551615, .int .u64 18446744073709551615, .int .u64 1152921504606846975] := by kernel_rfl
theorem lims_i : (lims 4 iN).toArray = #[.int .u64 14190309331451158704, .int .u64 3405592160176694392, .int .u64 3120150775007532967, .int .u64 3135389899092516619] := by kernel_rfl

theorem eq_lims (m n : Nat) (hm : m < 18446744073709551616 ^ 4) (hn : n < 18446744073709551616 ^ 4) (w : World) :
    (Op.equalIn 10000 37 (.agg (lims 4 m).toArray) (.agg (lims 4 n).toArray)).run Tryd.prog w = .ok (decide (m = n)) w := by
  have h := run_eq_ints (P := Tryd.prog) (t := 37) (e := 35) (k := .u64) (n := 4) Tryd.underlying37 Tryd.underlying35 (by kernel_rfl) (by kernel_rfl) ((digs 18446744073709551616 4 m).map Int.ofNat) ((digs 18446744073709551616 4 n).map Int.ofNat) (by simp [digs_len]) (by simp [digs_len]) w
  have e : ∀ k, ((digs 18446744073709551616 4 k).map Int.ofNat).map (Value.int .u64) = lims 4 k := by intro k; simp only [lims, List.map_map]; rfl
  rw [e, e] at h
  have e2 : ((digs 18446744073709551616 4 m).map Int.ofNat = (digs 18446744073709551616 4 n).map Int.ofNat) = (m = n) := by
    refine propext ⟨fun h1 => digs_inj ((List.map_inj_right (fun a b h => Int.ofNat.inj h)).1 h1) hm hn, ?_⟩
    rintro rfl; rfl
  rw [h]
  simp only [e2]

theorem rtok_def (a : Nat) : Nt.rtok pN eN iN a = decide (Nt.rtx pN eN iN a * Nt.rtx pN eN iN a % pN = a) := by
  unfold Nt.rtok
  rw [Bool.eq_iff_iff]
  simp

set_option maxHeartbeats 4000000 in
set_option maxRecDepth 100000 in
theorem square_any (a : Nat) (ha : a < pN) (w : World) :
    Calls Tryd.prog 31 #[.agg (lims 4 a).toArray] w fun e w' =>
      e = .returned (.tuple #[.agg (lims 4 (Nt.rtv pN eN iN a)).toArray, .bool (Nt.rtok pN eN iN a)]) ∧ Below w.heap.size w w' := by
  have hp4 : pN < 18446744073709551616 ^ 4 := by decide
  have ha4 : a < 18446744073709551616 ^ 4 := Nat.lt_trans ha hp4
  obtain ⟨x, hx⟩ : ∃ x, a ^ eN % pN = x := ⟨_, rfl⟩
  obtain ⟨s, hs⟩ : ∃ s, x * x % pN = s := ⟨_, rfl⟩
  obtain ⟨X, hX⟩ : ∃ X, Nt.rtx pN eN iN a = X := ⟨_, rfl⟩
  obtain ⟨q, hq⟩ : ∃ q, X * X % pN = q := ⟨_, rfl⟩
  have hok := rtok_def a
  rw [hX, hq] at hok
  have hv : Nt.rtv pN eN iN a = if Nt.rtok pN eN iN a then (if X % 2 = 1 then pN - X else X) else 0 := by unfold Nt.rtv; rw [hX]
  have hxl : x < 18446744073709551616 ^ 4 := hx ▸ p_lt4 _
  have hsl : s < 18446744073709551616 ^ 4 := hs ▸ p_lt4 _
  have hXp : X < pN := hX ▸ Nt.rtx_lt pN_pos a
  have hXl : X < 18446744073709551616 ^ 4 := Nat.lt_trans hXp hp4
  have hql : q < 18446744073709551616 ^ 4 := hq ▸ p_lt4 _
  have c0 := fun w => power_any a eN ha4 (by decide) w
  rw [hx] at c0
  have c1 := fun w => times_any x x hxl hxl w
  rw [hs] at c1
  have c2 := fun w => times_any X X hXl hXl w
  rw [hq] at c2
  have c3 := fun w => limBit_any X 0 (by decide) w
  rw [Nat.pow_zero, Nat.div_one] at c3
  have c4 : X % 2 = 1 → ∀ w, _ := fun hodd w => minus_any 0 X (by decide) hXp w
  have q1 := eq_lims s a hsl ha4
  have q2 := eq_lims q a hql ha4
  have l0 : (lims 4 0).toArray = #[.int .u64 0, .int .u64 0, .int .u64 0, .int .u64 0] := lims_small 0 (by decide)
  have hm : X % 2 = 1 → (0 + pN - X) % pN = pN - X := fun h => by rw [Nat.zero_add]; exact Nat.mod_eq_of_lt (by omega)
  have hXs : s = a → X = x := by
    intro h; rw [← hX]; unfold Nt.rtx; dsimp only; rw [hx, hs, if_pos h]
  have hXn : s ≠ a → x * iN % pN = X := by
    intro h; rw [← hX]; unfold Nt.rtx; dsimp only; rw [hx, hs, if_neg h]
  have c5 := fun w => times_any x iN hxl (by decide) w
  replace c0 := Lib.hid c0
  replace c1 := Lib.hid c1
  replace c2 := Lib.hid c2
  replace c3 := Lib.hid c3
  replace c4 := Lib.hid c4
  replace q1 := Lib.hid q1
  replace q2 := Lib.hid q2
  replace hm := Lib.hid hm
  replace l0 := Lib.hid l0
  replace hok := Lib.hid hok
  replace hv := Lib.hid hv
  clear hX hx hs hq
  generalize Nt.rtv pN eN iN a = R at hv ⊢
  generalize Nt.rtok pN eN iN a = B at hv hok ⊢
  go_enter Tryd.func31, Tryd.ntmps31
  go_upto_region 1 with fail
  refine wp_new2 (fun W hsz k1 k2 kb => ?_)
  have k2 : Arr W (w.heap.size + 1) (lims 4 0) := k2
  go_upto_region 3 with (first | (refine wpList_load_arr2 rfl _ _ rfl _ rfl (by kernel_rfl) _ (by assumption) (by first | (rw [lims_len]; kernel_rfl) | (rw [el_rep]; kernel_rfl) | (rw [el_len]; kernel_rfl) | (rw [byts_len]; kernel_rfl) | (rw [us_len]; kernel_rfl) | kernel_rfl) ?_) | (refine wpList_store_arr rfl _ _ _ rfl _ _ rfl rfl _ (by first | assumption | exact Arr.new _ _ _) (by first | (rw [lims_len]; kernel_rfl) | (rw [el_rep]; kernel_rfl) | (rw [el_len]; kernel_rfl) | (rw [byts_len]; kernel_rfl) | (rw [us_len]; kernel_rfl) | kernel_rfl) (by first | (rw [lims_len, lims_len]) | (rw [el_rep, el_rep]) | (rw [el_rep, el_len]; rfl) | (rw [el_len, el_rep]; rfl) | (rw [el_len, el_len]; rfl) | (rw [byts_len, byts_len]) | (rw [lims_len]; rfl) | (rw [byts_len]; rfl) | (rw [us_len, us_len]; rfl) | rfl) (by first | exact lims_one _ _ | exact el_one _ | exact byts_one _ | exact us_one _ | (intro v hv; simp at hv; rcases hv with rfl | rfl | rfl | rfl <;> rfl)) ?_))
  refine wp_new2 (fun W9 hsz9 k4 k5 hb9 => ?_)
  rw [← lims_e, hsz] at k4
  rw [← lims_i, hsz] at k5
  have k4 : Arr W9 (w.heap.size + 2) (lims 4 eN) := k4
  have k5 : Arr W9 (w.heap.size + 2 + 1) (lims 4 iN) := k5
  have k1 := k1.below hb9
  have k2 := k2.below hb9
  have kb := bel kb hb9
  clear hb9 hsz9
  go_wp2_with (first | (refine wpList_load_arr2 rfl _ _ rfl _ rfl (by kernel_rfl) _ (by assumption) (by first | (rw [lims_len]; kernel_rfl) | (rw [el_rep]; kernel_rfl) | (rw [el_len]; kernel_rfl) | (rw [byts_len]; kernel_rfl) | (rw [us_len]; kernel_rfl) | kernel_rfl) ?_) | (refine wpList_store_arr rfl _ _ _ rfl _ _ rfl rfl _ (by first | assumption | exact Arr.new _ _ _) (by first | (rw [lims_len]; kernel_rfl) | (rw [el_rep]; kernel_rfl) | (rw [el_len]; kernel_rfl) | (rw [byts_len]; kernel_rfl) | (rw [us_len]; kernel_rfl) | kernel_rfl) (by first | (rw [lims_len, lims_len]) | (rw [el_rep, el_rep]) | (rw [el_rep, el_len]; rfl) | (rw [el_len, el_rep]; rfl) | (rw [el_len, el_len]; rfl) | (rw [byts_len, byts_len]) | (rw [lims_len]; rfl) | (rw [byts_len]; rfl) | (rw [us_len, us_len]; rfl) | rfl) (by first | exact lims_one _ _ | exact el_one _ | exact byts_one _ | exact us_one _ | (intro v hv; simp at hv; rcases hv with rfl | rfl | rfl | rfl <;> rfl)) ?_))
  refine (c0.out _).mono ?_
  rintro e w_1 ⟨rfl, hb_1⟩
  have k1 := k1.below hb_1
  have k2 := k2.below hb_1
  have k4 := k4.below hb_1
  have k5 := k5.below hb_1
  have kb := bel kb hb_1
  clear hb_1
  go_upto_region 4 with (first | (refine wpList_load_arr2 rfl _ _ rfl _ rfl (by kernel_rfl) _ (by assumption) (by first | (rw [lims_len]; kernel_rfl) | (rw [el_rep]; kernel_rfl) | (rw [el_len]; kernel_rfl) | (rw [byts_len]; kernel_rfl) | (rw [us_len]; kernel_rfl) | kernel_rfl) ?_) | (refine wpList_store_arr rfl _ _ _ rfl _ _ rfl rfl _ (by first | assumption | exact Arr.new _ _ _) (by first | (rw [lims_len]; kernel_rfl) | (rw [el_rep]; kernel_rfl) | (rw [el_len]; kernel_rfl) | (rw [byts_len]; kernel_rfl) | (rw [us_len]; kernel_rfl) | kernel_rfl) (by first | (rw [lims_len, lims_len]) | (rw [el_rep, el_rep]) | (rw [el_rep, el_len]; rfl) | (rw [el_len, el_rep]; rfl) | (rw [el_len, el_len]; rfl) | (rw [byts_len, byts_len]) | (rw [lims_len]; rfl) | (rw [byts_len]; rfl) | (rw [us_len, us_len]; rfl) | rfl) (by first | exact lims_one _ _ | exact el_one _ | exact byts_one _ | exact us_one _ | (intro v hv; simp at hv; rcases hv with rfl | rfl | rfl | rfl <;> rfl)) ?_))
  have hg_k6_k1 := k1.lt
  have hg_k6_k2 := k2.lt
  have hg_k6_k4 := k4.lt
  have hg_k6_k5 := k5.lt
  refine code_new (fun w_2 k6 hnew => ?_)
  have k1 := k1.below hnew
  have k2 := k2.below hnew
  have k4 := k4.below hnew
  have k5 := k5.below hnew
  have kb := bel kb hnew
  clear hnew
  generalize (w_1).heap.size = g_k6 at k6 hg_k6_k1 hg_k6_k2 hg_k6_k4 hg_k6_k5 ⊢
  refine Tx.start (fun w' => Below (w_2).heap.size (w_2) w') 9999 5 rfl (by kernel_rfl) ?_
  have hS_3 : Below (w_2).heap.size (w_2) (World.drew w_2) := (Below.refl _ _).drew
  refine Tx.seg (A := ?_) 2 11 (by kernel_rfl) (by exact hS_3) [0, 1, 3] (by kernel_rfl) ?_ ?_
  rotate_left
  · intro w' hB
    have e1 := k6.below hB
    have e2 := k1.below hB
    iterate 3 (first | (refine rd_skip rfl rfl ?_; simp only [Act.put, List.setIfInBounds_toArray, List.set_cons_zero, List.set_cons_succ]) | (refine rd_load_arr rfl rfl _ _ rfl _ rfl (by kernel_rfl) _ (by assumption) (by first | (rw [lims_len]; kernel_rfl) | (rw [el_rep]; kernel_rfl) | (rw [el_len]; kernel_rfl) | (rw [byts_len]; kernel_rfl) | (rw [us_len]; kernel_rfl) | kernel_rfl) ?_; simp only [Act.put, List.setIfInBounds_toArray, List.set_cons_zero, List.set_cons_succ]) | (refine rd_take (v := ?_) rfl rfl ?_ ?_; rotate_left; (focus (go_simp; try (with_reducible rfl))); simp only [Act.put, List.setIfInBounds_toArray, List.set_cons_zero, List.set_cons_succ]))
    exact rd_nil
  refine Tx.eff 2 15 rfl (by decide +kernel) (fun K hK => ?_)
  go_simp
  refine (c1.out _).mono ?_
  rintro e w_4 ⟨rfl, hb_4⟩
  have hS_4 := ext_trans hS_3 (Nat.le_refl _) hb_4
  refine hK (fun w' => Below (w_2).heap.size (w_2) w') _ _ hS_4 (fun _ h => h) ?_
  clear hK K hb_4 hS_3
  try simp only [Act.put, List.setIfInBounds_toArray, List.set_cons_zero, List.set_cons_succ]
  refine Tx.seg (A := ?_) 0 31 (by kernel_rfl) (by exact hS_4) [4] (by kernel_rfl) ?_ ?_
  rotate_left
  · intro w' hB
    have e1 := q1.out w'
    iterate 1 (first | (refine rd_skip rfl rfl ?_; simp only [Act.put, List.setIfInBounds_toArray, List.set_cons_zero, List.set_cons_succ]) | (refine rd_load_arr rfl rfl _ _ rfl _ rfl (by kernel_rfl) _ (by assumption) (by first | (rw [lims_len]; kernel_rfl) | (rw [el_rep]; kernel_rfl) | (rw [el_len]; kernel_rfl) | (rw [byts_len]; kernel_rfl) | (rw [us_len]; kernel_rfl) | kernel_rfl) ?_; simp only [Act.put, List.setIfInBounds_toArray, List.set_cons_zero, List.set_cons_succ]) | (refine rd_take (v := ?_) rfl rfl ?_ ?_; rotate_left; (focus (go_simp; try (with_reducible rfl))); simp only [Act.put, List.setIfInBounds_toArray, List.set_cons_zero, List.set_cons_succ]))
    exact rd_nil
  refine Tx.done (by kernel_rfl) ?_
  have k1 := k1.below hS_4
  have k2 := k2.below hS_4
  have k4 := k4.below hS_4
  have k5 := k5.below hS_4
  have k6 := k6.below hS_4
  have kb := bel kb hS_4
  clear hS_4
  by_cases hsa : s = a
  · have hds : decide (s = a) = true := decide_eq_true hsa
    have hXs := hXs hsa
    rw [hds]
    replace hsa := Lib.hid hsa
    clear hds hXn
    subst hXs
    go_upto_region 6 with fail
    refine Tx.start (fun w' => Below (w_4).heap.size (w_4) w') 9999 5 rfl (by kernel_rfl) ?_
    have hS_5 : Below (w_4).heap.size (w_4) (World.drew w_4) := (Below.refl _ _).drew
    refine Tx.seg (A := ?_) 2 11 (by kernel_rfl) (by exact hS_5) [0, 1, 3] (by kernel_rfl) ?_ ?_
    rotate_left
    · intro w' hB
      have e1 := k6.below hB
      have e2 := k1.below hB
      iterate 3 (first | (refine rd_skip rfl rfl ?_; simp only [Act.put, List.setIfInBounds_toArray, List.set_cons_zero, List.set_cons_succ]) | (refine rd_load_arr rfl rfl _ _ rfl _ rfl (by kernel_rfl) _ (by assumption) (by first | (rw [lims_len]; kernel_rfl) | (rw [el_rep]; kernel_rfl) | (rw [el_len]; kernel_rfl) | (rw [byts_len]; kernel_rfl) | (rw [us_len]; kernel_rfl) | kernel_rfl) ?_; simp only [Act.put, List.setIfInBounds_toArray, List.set_cons_zero, List.set_cons_succ]) | (refine rd_take (v := ?_) rfl rfl ?_ ?_; rotate_left; (focus (go_simp; try (with_reducible rfl))); simp only [Act.put, List.setIfInBounds_toArray, List.set_cons_zero, List.set_cons_succ]))
      exact rd_nil
    refine Tx.eff 2 15 rfl (by decide +kernel) (fun K hK => ?_)
    go_simp
    refine (c2.out _).mono ?_
    rintro e w_6 ⟨rfl, hb_6⟩
    have hS_6 := ext_trans hS_5 (Nat.le_refl _) hb_6
    refine hK (fun w' => Below (w_4).heap.size (w_4) w') _ _ hS_6 (fun _ h => h) ?_
    clear hK K hb_6 hS_5
    try simp only [Act.put, List.setIfInBounds_toArray, List.set_cons_zero, List.set_cons_succ]
    refine Tx.seg (A := ?_) 0 31 (by kernel_rfl) (by exact hS_6) [4] (by kernel_rfl) ?_ ?_
    rotate_left
    · intro w' hB
      have e1 := q2.out w'
      iterate 1 (first | (refine rd_skip rfl rfl ?_; simp only [Act.put, List.setIfInBounds_toArray, List.set_cons_zero, List.set_cons_succ]) | (refine rd_load_arr rfl rfl _ _ rfl _ rfl (by kernel_rfl) _ (by assumption) (by first | (rw [lims_len]; kernel_rfl) | (rw [el_rep]; kernel_rfl) | (rw [el_len]; kernel_rfl) | (rw [byts_len]; kernel_rfl) | (rw [us_len]; kernel_rfl) | kernel_rfl) ?_; simp only [Act.put, List.setIfInBounds_toArray, List.set_cons_zero, List.set_cons_succ]) | (refine rd_take (v := ?_) rfl rfl ?_ ?_; rotate_left; (focus (go_simp; try (with_reducible rfl))); simp only [Act.put, List.setIfInBounds_toArray, List.set_cons_zero, List.set_cons_succ]))
      exact rd_nil
    refine Tx.done (by kernel_rfl) ?_
    have k1 := k1.below hS_6
    have k2 := k2.below hS_6
    have k6 := k6.below hS_6
    have kb := bel kb hS_6
    clear hS_6
    by_cases hqa : q = a
    · have hdq : decide (q = a) = true := decide_eq_true hqa
      rw [hdq]
      replace hqa := Lib.hid hqa
      clear hdq
      go_wp2_with (first | (refine wpList_load_arr2 rfl _ _ rfl _ rfl (by kernel_rfl) _ (by assumption) (by first | (rw [lims_len]; kernel_rfl) | (rw [el_rep]; kernel_rfl) | (rw [el_len]; kernel_rfl) | (rw [byts_len]; kernel_rfl) | (rw [us_len]; kernel_rfl) | kernel_rfl) ?_))
      refine (c3.out _).mono ?_
      rintro e w_7 ⟨rfl, hb_7⟩
      have k1 := k1.below hb_7
      have k2 := k2.below hb_7
      have k6 := k6.below hb_7
      have kb := bel kb hb_7
      clear hb_7
      by_cases hodd : X % 2 = 1
      · have c4 := c4.out hodd
        have hm := hm.out hodd
        rw [hm, l0.out] at c4
        rw [hodd]
        replace c4 := Lib.hid c4
        have hodd' := Lib.hid hodd
        clear hm hodd
        go_wp2_with (first | (refine wpList_load_arr2 rfl _ _ rfl _ rfl (by kernel_rfl) _ (by assumption) (by first | (rw [lims_len]; kernel_rfl) | (rw [el_rep]; kernel_rfl) | (rw [el_len]; kernel_rfl) | (rw [byts_len]; kernel_rfl) | (rw [us_len]; kernel_rfl) | kernel_rfl) ?_))
        refine (c4.out _).mono ?_
        rintro e w_8 ⟨rfl, hb_8⟩
        have k1 := k1.below hb_8
        have k2 := k2.below hb_8
        have k6 := k6.below hb_8
        have kb := bel kb hb_8
        clear hb_8
        go_upto_region 10 with (first | (refine wpList_store_arr rfl _ _ _ rfl _ _ rfl rfl _ (by first | assumption | exact Arr.new _ _ _) (by first | (rw [lims_len]; kernel_rfl) | (rw [el_rep]; kernel_rfl) | (rw [el_len]; kernel_rfl) | (rw [byts_len]; kernel_rfl) | (rw [us_len]; kernel_rfl) | kernel_rfl) (by first | (rw [lims_len, lims_len]) | (rw [el_rep, el_rep]) | (rw [el_rep, el_len]; rfl) | (rw [el_len, el_rep]; rfl) | (rw [el_len, el_len]; rfl) | (rw [byts_len, byts_len]) | (rw [lims_len]; rfl) | (rw [byts_len]; rfl) | (rw [us_len, us_len]; rfl) | rfl) (by first | exact lims_one _ _ | exact el_one _ | exact byts_one _ | exact us_one _ | (intro v hv; simp at hv; rcases hv with rfl | rfl | rfl | rfl <;> rfl)) ?_))
        refine code_row k6 (fun w_9 k6 hoth hbel => ?_)
        have k2 := hoth _ _ (by omega) k2
        have kb := hbel _ _ (by omega) kb
        clear hoth hbel
        go_wp2_with (first | (refine wpList_load_arr2 rfl _ _ rfl _ rfl (by kernel_rfl) _ (by assumption) (by first | (rw [lims_len]; kernel_rfl) | (rw [el_rep]; kernel_rfl) | (rw [el_len]; kernel_rfl) | (rw [byts_len]; kernel_rfl) | (rw [us_len]; kernel_rfl) | kernel_rfl) ?_) | (refine wpList_store_arr rfl _ _ _ rfl _ _ rfl rfl _ (by first | assumption | exact Arr.new _ _ _) (by first | (rw [lims_len]; kernel_rfl) | (rw [el_rep]; kernel_rfl) | (rw [el_len]; kernel_rfl) | (rw [byts_len]; kernel_rfl) | (rw [us_len]; kernel_rfl) | kernel_rfl) (by first | (rw [lims_len, lims_len]) | (rw [el_rep, el_rep]) | (rw [el_rep, el_len]; rfl) | (rw [el_len, el_rep]; rfl) | (rw [el_len, el_len]; rfl) | (rw [byts_len, byts_len]) | (rw [lims_len]; rfl) | (rw [byts_len]; rfl) | (rw [us_len, us_len]; rfl) | rfl) (by first | exact lims_one _ _ | exact el_one _ | exact byts_one _ | exact us_one _ | (intro v hv; simp at hv; rcases hv with rfl | rfl | rfl | rfl <;> rfl)) ?_))
        exact bodyPost_ret (results_arr_tmp Tryd.results31 _ _ _ _ rfl Tryd.underlying37 rfl _ (k2.setRow _) (by first | (rw [lims_len]; kernel_rfl) | kernel_rfl) _ rfl) rfl ⟨by have h1 := hv.out; rw [hok.out, hqa.out, decide_eq_true rfl, if_pos rfl, if_pos hodd'.out] at h1; rw [h1, hok.out, hqa.out, decide_eq_true rfl]; rfl, below_setRow kb (by omega) _⟩
      · have hev : X % 2 = 0 := by omega
        rw [hev]
        have hodd' := Lib.hid hodd
        clear hodd hev
        go_wp2_with (first | (refine wpList_load_arr2 rfl _ _ rfl _ rfl (by kernel_rfl) _ (by assumption) (by first | (rw [lims_len]; kernel_rfl) | (rw [el_rep]; kernel_rfl) | (rw [el_len]; kernel_rfl) | (rw [byts_len]; kernel_rfl) | (rw [us_len]; kernel_rfl) | kernel_rfl) ?_) | (refine wpList_store_arr rfl _ _ _ rfl _ _ rfl rfl _ (by first | assumption | exact Arr.new _ _ _) (by first | (rw [lims_len]; kernel_rfl) | (rw [el_rep]; kernel_rfl) | (rw [el_len]; kernel_rfl) | (rw [byts_len]; kernel_rfl) | (rw [us_len]; kernel_rfl) | kernel_rfl) (by first | (rw [lims_len, lims_len]) | (rw [el_rep, el_rep]) | (rw [el_rep, el_len]; rfl) | (rw [el_len, el_rep]; rfl) | (rw [el_len, el_len]; rfl) | (rw [byts_len, byts_len]) | (rw [lims_len]; rfl) | (rw [byts_len]; rfl) | (rw [us_len, us_len]; rfl) | rfl) (by first | exact lims_one _ _ | exact el_one _ | exact byts_one _ | exact us_one _ | (intro v hv; simp at hv; rcases hv with rfl | rfl | rfl | rfl <;> rfl)) ?_))
        exact bodyPost_ret (results_arr_tmp Tryd.results31 _ _ _ _ rfl Tryd.underlying37 rfl _ (k2.setRow _) (by first | (rw [lims_len]; kernel_rfl) | kernel_rfl) _ rfl) rfl ⟨by have h1 := hv.out; rw [hok.out, hqa.out, decide_eq_true rfl, if_pos rfl, if_neg hodd'.out] at h1; rw [h1, hok.out, hqa.out, decide_eq_true rfl]; rfl, below_setRow kb (by omega) _⟩
    · have hdq : decide (q = a) = false := decide_eq_false hqa
      rw [hdq]
      replace hqa := Lib.hid hqa
      clear hdq
      go_wp2_with (first | (refine wpList_load_arr2 rfl _ _ rfl _ rfl (by kernel_rfl) _ (by assumption) (by first | (rw [lims_len]; kernel_rfl) | (rw [el_rep]; kernel_rfl) | (rw [el_len]; kernel_rfl) | (rw [byts_len]; kernel_rfl) | (rw [us_len]; kernel_rfl) | kernel_rfl) ?_) | (refine wpList_store_arr rfl _ _ _ rfl _ _ rfl rfl _ (by first | assumption | exact Arr.new _ _ _) (by first | (rw [lims_len]; kernel_rfl) | (rw [el_rep]; kernel_rfl) | (rw [el_len]; kernel_rfl) | (rw [byts_len]; kernel_rfl) | (rw [us_len]; kernel_rfl) | kernel_rfl) (by first | (rw [lims_len, lims_len]) | (rw [el_rep, el_rep]) | (rw [el_rep, el_len]; rfl) | (rw [el_len, el_rep]; rfl) | (rw [el_len, el_len]; rfl) | (rw [byts_len, byts_len]) | (rw [lims_len]; rfl) | (rw [byts_len]; rfl) | (rw [us_len, us_len]; rfl) | rfl) (by first | exact lims_one _ _ | exact el_one _ | exact byts_one _ | exact us_one _ | (intro v hv; simp at hv; rcases hv with rfl | rfl | rfl | rfl <;> rfl)) ?_))
      exact bodyPost_ret (results_arr_tmp Tryd.results31 _ _ _ _ rfl Tryd.underlying37 rfl _ (k2.setRow _) (by first | (rw [lims_len]; kernel_rfl) | kernel_rfl) _ rfl) rfl ⟨by have h1 := hv.out; rw [hok.out, decide_eq_false hqa.out, if_neg (by decide)] at h1; rw [h1, hok.out, decide_eq_false hqa.out]; rfl, below_setRow kb (by omega) _⟩
  · have hds : decide (s = a) = false := decide_eq_false hsa
    have hXn := hXn hsa
    rw [hds]
    rw [hXn] at c5
    replace hsa := Lib.hid hsa
    replace c5 := Lib.hid c5
    clear hds hXn
    go_wp2_with (first | (refine wpList_load_arr2 rfl _ _ rfl _ rfl (by kernel_rfl) _ (by assumption) (by first | (rw [lims_len]; kernel_rfl) | (rw [el_rep]; kernel_rfl) | (rw [el_len]; kernel_rfl) | (rw [byts_len]; kernel_rfl) | (rw [us_len]; kernel_rfl) | kernel_rfl) ?_))
    refine (c5.out _).mono ?_
    rintro e w_10 ⟨rfl, hb_10⟩
    have k1 := k1.below hb_10
    have k2 := k2.below hb_10
    have k6 := k6.below hb_10
    have kb := bel kb hb_10
    clear hb_10
    go_upto_region 6 with (first | (refine wpList_store_arr rfl _ _ _ rfl _ _ rfl rfl _ (by first | assumption | exact Arr.new _ _ _) (by first | (rw [lims_len]; kernel_rfl) | (rw [el_rep]; kernel_rfl) | (rw [el_len]; kernel_rfl) | (rw [byts_len]; kernel_rfl) | (rw [us_len]; kernel_rfl) | kernel_rfl) (by first | (rw [lims_len, lims_len]) | (rw [el_rep, el_rep]) | (rw [el_rep, el_len]; rfl) | (rw [el_len, el_rep]; rfl) | (rw [el_len, el_len]; rfl) | (rw [byts_len, byts_len]) | (rw [lims_len]; rfl) | (rw [byts_len]; rfl) | (rw [us_len, us_len]; rfl) | rfl) (by first | exact lims_one _ _ | exact el_one _ | exact byts_one _ | exact us_one _ | (intro v hv; simp at hv; rcases hv with rfl | rfl | rfl | rfl <;> rfl)) ?_))
    refine code_row k6 (fun w_11 k6 hoth hbel => ?_)
    have k1 := hoth _ _ (by omega) k1
    have k2 := hoth _ _ (by omega) k2
    have kb := hbel _ _ (by omega) kb
    clear hoth hbel
    refine Tx.start (fun w' => Below (w_11).heap.size (w_11) w') 9999 5 rfl (by kernel_rfl) ?_
    have hS_12 : Below (w_11).heap.size (w_11) (World.drew w_11) := (Below.refl _ _).drew
    refine Tx.seg (A := ?_) 2 11 (by kernel_rfl) (by exact hS_12) [0, 1, 3] (by kernel_rfl) ?_ ?_
    rotate_left
    · intro w' hB
      have e1 := k6.below hB
      have e2 := k1.below hB
      iterate 3 (first | (refine rd_skip rfl rfl ?_; simp only [Act.put, List.setIfInBounds_toArray, List.set_cons_zero, List.set_cons_succ]) | (refine rd_load_arr rfl rfl _ _ rfl _ rfl (by kernel_rfl) _ (by assumption) (by first | (rw [lims_len]; kernel_rfl) | (rw [el_rep]; kernel_rfl) | (rw [el_len]; kernel_rfl) | (rw [byts_len]; kernel_rfl) | (rw [us_len]; kernel_rfl) | kernel_rfl) ?_; simp only [Act.put, List.setIfInBounds_toArray, List.set_cons_zero, List.set_cons_succ]) | (refine rd_take (v := ?_) rfl rfl ?_ ?_; rotate_left; (focus (go_simp; try (with_reducible rfl))); simp only [Act.put, List.setIfInBounds_toArray, List.set_cons_zero, List.set_cons_succ]))
      exact rd_nil
    refine Tx.eff 2 15 rfl (by decide +kernel) (fun K hK => ?_)
    go_simp
    refine (c2.out _).mono ?_
    rintro e w_13 ⟨rfl, hb_13⟩
    have hS_13 := ext_trans hS_12 (Nat.le_refl _) hb_13
    refine hK (fun w' => Below (w_11).heap.size (w_11) w') _ _ hS_13 (fun _ h => h) ?_
    clear hK K hb_13 hS_12
    try simp only [Act.put, List.setIfInBounds_toArray, List.set_cons_zero, List.set_cons_succ]
    refine Tx.seg (A := ?_) 0 31 (by kernel_rfl) (by exact hS_13) [4] (by kernel_rfl) ?_ ?_
    rotate_left
    · intro w' hB
      have e1 := q2.out w'
      iterate 1 (first | (refine rd_skip rfl rfl ?_; simp only [Act.put, List.setIfInBounds_toArray, List.set_cons_zero, List.set_cons_succ]) | (refine rd_load_arr rfl rfl _ _ rfl _ rfl (by kernel_rfl) _ (by assumption) (by first | (rw [lims_len]; kernel_rfl) | (rw [el_rep]; kernel_rfl) | (rw [el_len]; kernel_rfl) | (rw [byts_len]; kernel_rfl) | (rw [us_len]; kernel_rfl) | kernel_rfl) ?_; simp only [Act.put, List.setIfInBounds_toArray, List.set_cons_zero, List.set_cons_succ]) | (refine rd_take (v := ?_) rfl rfl ?_ ?_; rotate_left; (focus (go_simp; try (with_reducible rfl))); simp only [Act.put, List.setIfInBounds_toArray, List.set_cons_zero, List.set_cons_succ]))
      exact rd_nil
    refine Tx.done (by kernel_rfl) ?_
    have k1 := k1.below hS_13
    have k2 := k2.below hS_13
    have k6 := k6.below hS_13
    have kb := bel kb hS_13
    clear hS_13
    by_cases hqa : q = a
    · have hdq : decide (q = a) = true := decide_eq_true hqa
      rw [hdq]
      replace hqa := Lib.hid hqa
      clear hdq
      go_wp2_with (first | (refine wpList_load_arr2 rfl _ _ rfl _ rfl (by kernel_rfl) _ (by assumption) (by first | (rw [lims_len]; kernel_rfl) | (rw [el_rep]; kernel_rfl) | (rw [el_len]; kernel_rfl) | (rw [byts_len]; kernel_rfl) | (rw [us_len]; kernel_rfl) | kernel_rfl) ?_))
      refine (c3.out _).mono ?_
      rintro e w_14 ⟨rfl, hb_14⟩
      have k1 := k1.below hb_14
      have k2 := k2.below hb_14
      have k6 := k6.below hb_14
      have kb := bel kb hb_14
      clear hb_14
      by_cases hodd : X % 2 = 1
      · have c4 := c4.out hodd
        have hm := hm.out hodd
        rw [hm, l0.out] at c4
        rw [hodd]
        replace c4 := Lib.hid c4
        have hodd' := Lib.hid hodd
        clear hm hodd
        go_wp2_with (first | (refine wpList_load_arr2 rfl _ _ rfl _ rfl (by kernel_rfl) _ (by assumption) (by first | (rw [lims_len]; kernel_rfl) | (rw [el_rep]; kernel_rfl) | (rw [el_len]; kernel_rfl) | (rw [byts_len]; kernel_rfl) | (rw [us_len]; kernel_rfl) | kernel_rfl) ?_))
        refine (c4.out _).mono ?_
        rintro e w_15 ⟨rfl, hb_15⟩
        have k1 := k1.below hb_15
        have k2 := k2.below hb_15
        have k6 := k6.below hb_15
        have kb := bel kb hb_15
        clear hb_15
        go_upto_region 10 with (first | (refine wpList_store_arr rfl _ _ _ rfl _ _ rfl rfl _ (by first | assumption | exact Arr.new _ _ _) (by first | (rw [lims_len]; kernel_rfl) | (rw [el_rep]; kernel_rfl) | (rw [el_len]; kernel_rfl) | (rw [byts_len]; kernel_rfl) | (rw [us_len]; kernel_rfl) | kernel_rfl) (by first | (rw [lims_len, lims_len]) | (rw [el_rep, el_rep]) | (rw [el_rep, el_len]; rfl) | (rw [el_len, el_rep]; rfl) | (rw [el_len, el_len]; rfl) | (rw [byts_len, byts_len]) | (rw [lims_len]; rfl) | (rw [byts_len]; rfl) | (rw [us_len, us_len]; rfl) | rfl) (by first | exact lims_one _ _ | exact el_one _ | exact byts_one _ | exact us_one _ | (intro v hv; simp at hv; rcases hv with rfl | rfl | rfl | rfl <;> rfl)) ?_))
        refine code_row k6 (fun w_16 k6 hoth hbel => ?_)
        have k2 := hoth _ _ (by omega) k2
        have kb := hbel _ _ (by omega) kb
        clear hoth hbel
        go_wp2_with (first | (refine wpList_load_arr2 rfl _ _ rfl _ rfl (by kernel_rfl) _ (by assumption) (by first | (rw [lims_len]; kernel_rfl) | (rw [el_rep]; kernel_rfl) | (rw [el_len]; kernel_rfl) | (rw [byts_len]; kernel_rfl) | (rw [us_len]; kernel_rfl) | kernel_rfl) ?_) | (refine wpList_store_arr rfl _ _ _ rfl _ _ rfl rfl _ (by first | assumption | exact Arr.new _ _ _) (by first | (rw [lims_len]; kernel_rfl) | (rw [el_rep]; kernel_rfl) | (rw [el_len]; kernel_rfl) | (rw [byts_len]; kernel_rfl) | (rw [us_len]; kernel_rfl) | kernel_rfl) (by first | (rw [lims_len, lims_len]) | (rw [el_rep, el_rep]) | (rw [el_rep, el_len]; rfl) | (rw [el_len, el_rep]; rfl) | (rw [el_len, el_len]; rfl) | (rw [byts_len, byts_len]) | (rw [lims_len]; rfl) | (rw [byts_len]; rfl) | (rw [us_len, us_len]; rfl) | rfl) (by first | exact lims_one _ _ | exact el_one _ | exact byts_one _ | exact us_one _ | (intro v hv; simp at hv; rcases hv with rfl | rfl | rfl | rfl <;> rfl)) ?_))
        exact bodyPost_ret (results_arr_tmp Tryd.results31 _ _ _ _ rfl Tryd.underlying37 rfl _ (k2.setRow _) (by first | (rw [lims_len]; kernel_rfl) | kernel_rfl) _ rfl) rfl ⟨by have h1 := hv.out; rw [hok.out, hqa.out, decide_eq_true rfl, if_pos rfl, if_pos hodd'.out] at h1; rw [h1, hok.out, hqa.out, decide_eq_true rfl]; rfl, below_setRow kb (by omega) _⟩
      · have hev : X % 2 = 0 := by omega
        rw [hev]
        have hodd' := Lib.hid hodd
        clear hodd hev
        go_wp2_with (first | (refine wpList_load_arr2 rfl _ _ rfl _ rfl (by kernel_rfl) _ (by assumption) (by first | (rw [lims_len]; kernel_rfl) | (rw [el_rep]; kernel_rfl) | (rw [el_len]; kernel_rfl) | (rw [byts_len]; kernel_rfl) | (rw [us_len]; kernel_rfl) | kernel_rfl) ?_) | (refine wpList_store_arr rfl _ _ _ rfl _ _ rfl rfl _ (by first | assumption | exact Arr.new _ _ _) (by first | (rw [lims_len]; kernel_rfl) | (rw [el_rep]; kernel_rfl) | (rw [el_len]; kernel_rfl) | (rw [byts_len]; kernel_rfl) | (rw [us_len]; kernel_rfl) | kernel_rfl) (by first | (rw [lims_len, lims_len]) | (rw [el_rep, el_rep]) | (rw [el_rep, el_len]; rfl) | (rw [el_len, el_rep]; rfl) | (rw [el_len, el_len]; rfl) | (rw [byts_len, byts_len]) | (rw [lims_len]; rfl) | (rw [byts_len]; rfl) | (rw [us_len, us_len]; rfl) | rfl) (by first | exact lims_one _ _ | exact el_one _ | exact byts_one _ | exact us_one _ | (intro v hv; simp at hv; rcases hv with rfl | rfl | rfl | rfl <;> rfl)) ?_))
        exact bodyPost_ret (results_arr_tmp Tryd.results31 _ _ _ _ rfl Tryd.underlying37 rfl _ (k2.setRow _) (by first | (rw [lims_len]; kernel_rfl) | kernel_rfl) _ rfl) rfl ⟨by have h1 := hv.out; rw [hok.out, hqa.out, decide_eq_true rfl, if_pos rfl, if_neg hodd'.out] at h1; rw [h1, hok.out, hqa.out, decide_eq_true rfl]; rfl, below_setRow kb (by omega) _⟩
    · have hdq : decide (q = a) = false := decide_eq_false hqa
      rw [hdq]
      replace hqa := Lib.hid hqa
      clear hdq
      go_wp2_with (first | (refine wpList_load_arr2 rfl _ _ rfl _ rfl (by kernel_rfl) _ (by assumption) (by first | (rw [lims_len]; kernel_rfl) | (rw [el_rep]; kernel_rfl) | (rw [el_len]; kernel_rfl) | (rw [byts_len]; kernel_rfl) | (rw [us_len]; kernel_rfl) | kernel_rfl) ?_) | (refine wpList_store_arr rfl _ _ _ rfl _ _ rfl rfl _ (by first | assumption | exact Arr.new _ _ _) (by first | (rw [lims_len]; kernel_rfl) | (rw [el_rep]; kernel_rfl) | (rw [el_len]; kernel_rfl) | (rw [byts_len]; kernel_rfl) | (rw [us_len]; kernel_rfl) | kernel_rfl) (by first | (rw [lims_len, lims_len]) | (rw [el_rep, el_rep]) | (rw [el_rep, el_len]; rfl) | (rw [el_len, el_rep]; rfl) | (rw [el_len, el_len]; rfl) | (rw [byts_len, byts_len]) | (rw [lims_len]; rfl) | (rw [byts_len]; rfl) | (rw [us_len, us_len]; rfl) | rfl) (by first | exact lims_one _ _ | exact el_one _ | exact byts_one _ | exact us_one _ | (intro v hv; simp at hv; rcases hv with rfl | rfl | rfl | rfl <;> rfl)) ?_))
      exact bodyPost_ret (results_arr_tmp Tryd.results31 _ _ _ _ rfl Tryd.underlying37 rfl _ (k2.setRow _) (by first | (rw [lims_len]; kernel_rfl) | kernel_rfl) _ rfl) rfl ⟨by have h1 := hv.out; rw [hok.out, decide_eq_false hqa.out, if_neg (by decide)] at h1; rw [h1, hok.out, decide_eq_false hqa.out]; rfl, below_setRow kb (by omega) _⟩

set_option maxHeartbeats 2000000 in
set_option maxRecDepth 100000 in
theorem froot_any (a : Nat) (ha : a < 256 ^ 32) (w : World) :
    Calls Tryd.prog 16 #[.agg (byts a).toArray] w fun e w' =>
      e = .returned (.tuple #[.agg (byts (Nt.rtv pN eN iN (a % pN))).toArray, .bool (Nt.rtok pN eN iN (a % pN))]) ∧ Below w.heap.size w w' := by
  obtain ⟨x, hx⟩ : ∃ x, a % pN = x := ⟨_, rfl⟩
  have hxp : x < pN := hx ▸ Nat.mod_lt _ pN_pos
  have c0 := fun w => fof_any a ha w
  rw [hx] at c0 ⊢
  have c1 := fun w => square_any x hxp w
  generalize Nt.rtv pN eN iN x = R at c1 ⊢
  generalize Nt.rtok pN eN iN x = B at c1 ⊢
  have c2 := Lib.hid (fun w => limNum_any R w)
  replace c0 := Lib.hid c0
  replace c1 := Lib.hid c1
  clear hx hxp ha
  go_enter Tryd.func16, Tryd.ntmps16
  go_upto_region 1 with fail
  refine wp_new2 (fun W hsz k1 k2 kb => ?_)
  have k2 : Arr W (w.heap.size + 1) (byts 0) := k2
  go_wp2_with (first | (refine wpList_load_arr2 rfl _ _ rfl _ rfl (by kernel_rfl) _ (by assumption) (by first | (rw [lims_len]; kernel_rfl) | (rw [el_rep]; kernel_rfl) | (rw [el_len]; kernel_rfl) | (rw [byts_len]; kernel_rfl) | (rw [us_len]; kernel_rfl) | kernel_rfl) ?_) | (refine wpList_store_arr rfl _ _ _ rfl _ _ rfl rfl _ (by first | assumption | exact Arr.new _ _ _) (by first | (rw [lims_len]; kernel_rfl) | (rw [el_rep]; kernel_rfl) | (rw [el_len]; kernel_rfl) | (rw [byts_len]; kernel_rfl) | (rw [us_len]; kernel_rfl) | kernel_rfl) (by first | (rw [lims_len, lims_len]) | (rw [el_rep, el_rep]) | (rw [el_rep, el_len]; rfl) | (rw [el_len, el_rep]; rfl) | (rw [el_len, el_len]; rfl) | (rw [byts_len, byts_len]) | (rw [lims_len]; rfl) | (rw [byts_len]; rfl) | (rw [us_len, us_len]; rfl) | rfl) (by first | exact lims_one _ _ | exact el_one _ | exact byts_one _ | exact us_one _ | (intro v hv; simp at hv; rcases hv with rfl | rfl | rfl | rfl <;> rfl)) ?_))
  refine (c0.out _).mono ?_
  rintro e w_17 ⟨rfl, hb_17⟩
  have k2 := k2.below hb_17
  have kb := bel kb hb_17
  clear hb_17
  go_wp2_with (first | (refine wpList_load_arr2 rfl _ _ rfl _ rfl (by kernel_rfl) _ (by assumption) (by first | (rw [lims_len]; kernel_rfl) | (rw [el_rep]; kernel_rfl) | (rw [el_len]; kernel_rfl) | (rw [byts_len]; kernel_rfl) | (rw [us_len]; kernel_rfl) | kernel_rfl) ?_) | (refine wpList_store_arr rfl _ _ _ rfl _ _ rfl rfl _ (by first | assumption | exact Arr.new _ _ _) (by first | (rw [lims_len]; kernel_rfl) | (rw [el_rep]; kernel_rfl) | (rw [el_len]; kernel_rfl) | (rw [byts_len]; kernel_rfl) | (rw [us_len]; kernel_rfl) | kernel_rfl) (by first | (rw [lims_len, lims_len]) | (rw [el_rep, el_rep]) | (rw [el_rep, el_len]; rfl) | (rw [el_len, el_rep]; rfl) | (rw [el_len, el_len]; rfl) | (rw [byts_len, byts_len]) | (rw [lims_len]; rfl) | (rw [byts_len]; rfl) | (rw [us_len, us_len]; rfl) | rfl) (by first | exact lims_one _ _ | exact el_one _ | exact byts_one _ | exact us_one _ | (intro v hv; simp at hv; rcases hv with rfl | rfl | rfl | rfl <;> rfl)) ?_))
  refine (c1.out _).mono ?_
  rintro e w_18 ⟨rfl, hb_18⟩
  have k2 := k2.below hb_18
  have kb := bel kb hb_18
  clear hb_18
  go_upto_region 2 with (first | (refine wpList_load_arr2 rfl _ _ rfl _ rfl (by kernel_rfl) _ (by assumption) (by first | (rw [lims_len]; kernel_rfl) | (rw [el_rep]; kernel_rfl) | (rw [el_len]; kernel_rfl) | (rw [byts_len]; kernel_rfl) | (rw [us_len]; kernel_rfl) | kernel_rfl) ?_) | (refine wpList_store_arr rfl _ _ _ rfl _ _ rfl rfl _ (by first | assumption | exact Arr.new _ _ _) (by first | (rw [lims_len]; kernel_rfl) | (rw [el_rep]; kernel_rfl) | (rw [el_len]; kernel_rfl) | (rw [byts_len]; kernel_rfl) | (rw [us_len]; kernel_rfl) | kernel_rfl) (by first | (rw [lims_len, lims_len]) | (rw [el_rep, el_rep]) | (rw [el_rep, el_len]; rfl) | (rw [el_len, el_rep]; rfl) | (rw [el_len, el_len]; rfl) | (rw [byts_len, byts_len]) | (rw [lims_len]; rfl) | (rw [byts_len]; rfl) | (rw [us_len, us_len]; rfl) | rfl) (by first | exact lims_one _ _ | exact el_one _ | exact byts_one _ | exact us_one _ | (intro v hv; simp at hv; rcases hv with rfl | rfl | rfl | rfl <;> rfl)) ?_))
  have hg_k3_k2 := k2.lt
  refine code_new (fun w_19 k3 hnew => ?_)
  have k2 := k2.below hnew
  have kb := bel kb hnew
  clear hnew
  generalize (w_18).heap.size = g_k3 at k3 hg_k3_k2 ⊢
  go_wp2_with (first | (refine wpList_load_arr2 rfl _ _ rfl _ rfl (by kernel_rfl) _ (by assumption) (by first | (rw [lims_len]; kernel_rfl) | (rw [el_rep]; kernel_rfl) | (rw [el_len]; kernel_rfl) | (rw [byts_len]; kernel_rfl) | (rw [us_len]; kernel_rfl) | kernel_rfl) ?_) | (refine wpList_store_arr rfl _ _ _ rfl _ _ rfl rfl _ (by first | assumption | exact Arr.new _ _ _) (by first | (rw [lims_len]; kernel_rfl) | (rw [el_rep]; kernel_rfl) | (rw [el_len]; kernel_rfl) | (rw [byts_len]; kernel_rfl) | (rw [us_len]; kernel_rfl) | kernel_rfl) (by first | (rw [lims_len, lims_len]) | (rw [el_rep, el_rep]) | (rw [el_rep, el_len]; rfl) | (rw [el_len, el_rep]; rfl) | (rw [el_len, el_len]; rfl) | (rw [byts_len, byts_len]) | (rw [lims_len]; rfl) | (rw [byts_len]; rfl) | (rw [us_len, us_len]; rfl) | rfl) (by first | exact lims_one _ _ | exact el_one _ | exact byts_one _ | exact us_one _ | (intro v hv; simp at hv; rcases hv with rfl | rfl | rfl | rfl <;> rfl)) ?_))
  refine (c2.out _).mono ?_
  rintro e w_20 ⟨rfl, hb_20⟩
  have k2 := k2.below hb_20
  have kb := bel kb hb_20
  clear hb_20
  go_wp2_with (first | (refine wpList_load_arr2 rfl _ _ rfl _ rfl (by kernel_rfl) _ (by assumption) (by first | (rw [lims_len]; kernel_rfl) | (rw [el_rep]; kernel_rfl) | (rw [el_len]; kernel_rfl) | (rw [byts_len]; kernel_rfl) | (rw [us_len]; kernel_rfl) | kernel_rfl) ?_) | (refine wpList_store_arr rfl _ _ _ rfl _ _ rfl rfl _ (by first | assumption | exact Arr.new _ _ _) (by first | (rw [lims_len]; kernel_rfl) | (rw [el_rep]; kernel_rfl) | (rw [el_len]; kernel_rfl) | (rw [byts_len]; kernel_rfl) | (rw [us_len]; kernel_rfl) | kernel_rfl) (by first | (rw [lims_len, lims_len]) | (rw [el_rep, el_rep]) | (rw [el_rep, el_len]; rfl) | (rw [el_len, el_rep]; rfl) | (rw [el_len, el_len]; rfl) | (rw [byts_len, byts_len]) | (rw [lims_len]; rfl) | (rw [byts_len]; rfl) | (rw [us_len, us_len]; rfl) | rfl) (by first | exact lims_one _ _ | exact el_one _ | exact byts_one _ | exact us_one _ | (intro v hv; simp at hv; rcases hv with rfl | rfl | rfl | rfl <;> rfl)) ?_))
  exact bodyPost_ret (results_arr_tmp Tryd.results16 _ _ _ _ rfl Tryd.underlying25 rfl _ (k2.setRow _) (by rw [byts_len]; kernel_rfl) _ rfl) rfl ⟨rfl, below_setRow kb (by omega) _⟩

end Go.Proofs.YtdcbpilibaigmaaDoor
