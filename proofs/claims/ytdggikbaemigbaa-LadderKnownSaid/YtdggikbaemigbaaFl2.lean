/- Field laws: the walks of FieldRules and FieldSums. -/
import Derived.Test.YtdggikbaemigbaaFl1
namespace Go.Proofs.Ytdggikbaemigbaa
open Go.RowKit

theorem p_ne {a : Nat} (h : a % pN ≠ 0) : ¬ pN ∣ a := fun hd => h (Nat.mod_eq_zero_of_dvd hd)
theorem fermat_p {a : Nat} (h : a % pN ≠ 0) : a ^ (pN - 1) % pN = 1 := Nt.fermat pN_prime (p_ne h)

theorem rules_inv {a b : Nat} (h : b % pN ≠ 0) : a * b % pN * (b ^ (pN - 2) % pN) % pN = a % pN := by
  have h1 := fermat_p h
  have e : b ^ (pN - 1) = b * b ^ (pN - 2) := by rw [← Nat.pow_succ']; rfl
  rw [← Nat.mul_mod, Nat.mul_assoc, ← e, Nat.mul_mod, h1, Nat.mul_one, Nat.mod_mod]

theorem rules_invinv (a : Nat) : (a ^ (pN - 2) % pN) ^ (pN - 2) % pN = a % pN := by
  rw [← Nat.pow_mod]
  by_cases h : a % pN = 0
  · rw [Nat.pow_mod, Nat.pow_mod a, h, Nat.zero_pow (by decide), Nat.zero_mod, Nat.zero_pow (by decide), Nat.zero_mod]
  · have h1 := fermat_p h
    rw [← Nat.pow_mul]
    have e : (pN - 2) * (pN - 2) = (pN - 1) * (pN - 3) + 1 := by decide
    rw [e, Nat.pow_succ, Nat.pow_mul, Nat.mul_mod, Nat.pow_mod, h1, Nat.one_pow, ← Nat.mul_mod, Nat.one_mul]

theorem sub_back (x y : Nat) (hy : y < pN) : ((x + y) % pN % pN + pN - y % pN) % pN = x % pN := by
  rw [Nat.mod_mod, Nat.mod_eq_of_lt hy, Nat.add_mod]
  have hx := Nat.mod_lt x pN_pos
  rw [Nat.mod_eq_of_lt hy]
  generalize x % pN = m at *
  by_cases h : m + y < pN
  · rw [Nat.mod_eq_of_lt h, show m + y + pN - y = m + pN by omega, Nat.add_mod_right, Nat.mod_eq_of_lt hx]
  · have e : (m + y) % pN = m + y - pN := by rw [Nat.mod_eq_sub_mod (by omega)]; exact Nat.mod_eq_of_lt (by omega)
    rw [e, show m + y - pN + pN - y = m by omega, Nat.mod_eq_of_lt hx]

theorem sub_back' (x y : Nat) : ((x + y) % pN % pN + pN - y % pN) % pN = x % pN := by
  have := sub_back x (y % pN) (Nat.mod_lt _ pN_pos)
  rw [Nat.mod_mod, Nat.mod_mod, Nat.add_mod x (y % pN), Nat.mod_mod, ← Nat.add_mod] at this
  rw [Nat.mod_mod]
  exact this

set_option maxHeartbeats 4000000 in
set_option maxRecDepth 100000 in
theorem frules_any (a b c : Nat) (w : World) (ha : a < 256 ^ 32) (hb : b < 256 ^ 32) (hc : c < 256 ^ 32) :
    Calls Try.prog 17 #[.agg (byts a).toArray, .agg (byts b).toArray, .agg (byts c).toArray] w fun e w' => e = .returned (.bool true) ∧ Below w.heap.size w w' := by
  obtain ⟨n1, g1⟩ : ∃ r, (b + c) % pN = r := ⟨_, rfl⟩
  obtain ⟨n2, g2⟩ : ∃ r, a * n1 % pN = r := ⟨_, rfl⟩
  obtain ⟨n3, g3⟩ : ∃ r, a * b % pN = r := ⟨_, rfl⟩
  obtain ⟨n4, g4⟩ : ∃ r, a * c % pN = r := ⟨_, rfl⟩
  obtain ⟨n6, g6⟩ : ∃ r, (a + b) % pN = r := ⟨_, rfl⟩
  obtain ⟨n7, g7⟩ : ∃ r, a % pN = r := ⟨_, rfl⟩
  obtain ⟨n8, g8⟩ : ∃ r, b ^ (pN - 2) % pN = r := ⟨_, rfl⟩
  obtain ⟨n9, g9⟩ : ∃ r, n3 * n8 % pN = r := ⟨_, rfl⟩
  obtain ⟨m, gm⟩ : ∃ r, b % pN = r := ⟨_, rfl⟩
  obtain ⟨n10, g10⟩ : ∃ r, a ^ (pN - 2) % pN = r := ⟨_, rfl⟩
  have g5 : (n3 + n4) % pN = n2 := by
    rw [← g2, ← g1, ← g3, ← g4, ← Nat.add_mod, ← Nat.mul_add, Nat.mul_mod a ((b + c) % pN), Nat.mod_mod, ← Nat.mul_mod]
  have gs : (n6 % pN + pN - b % pN) % pN = n7 := by rw [← g6, sub_back', g7]
  have gc : b * a % pN = n3 := by rw [Nat.mul_comm]; exact g3
  have gi : n10 ^ (pN - 2) % pN = n7 := by rw [← g10, rules_invinv, g7]
  have gz : m ≠ 0 → n9 = n7 := by intro h; rw [← g9, ← g3, ← g8, rules_inv (by rw [gm]; exact h), g7]
  have l1 : n1 < 256 ^ 32 := g1 ▸ p_lt32 _
  have l2 : n2 < 256 ^ 32 := g2 ▸ p_lt32 _
  have l3 : n3 < 256 ^ 32 := g3 ▸ p_lt32 _
  have l4 : n4 < 256 ^ 32 := g4 ▸ p_lt32 _
  have l6 : n6 < 256 ^ 32 := g6 ▸ p_lt32 _
  have l7 : n7 < 256 ^ 32 := g7 ▸ p_lt32 _
  have l8 : n8 < 256 ^ 32 := g8 ▸ p_lt32 _
  have l9 : n9 < 256 ^ 32 := g9 ▸ p_lt32 _
  have lm : m < 256 ^ 32 := gm ▸ p_lt32 _
  have l10 : n10 < 256 ^ 32 := g10 ▸ p_lt32 _
  have hs : ∀ n, n < 256 ^ 32 → ∀ w, (Op.equalIn 10000 25 (.agg (byts n).toArray) (.agg (byts n).toArray)).run Try.prog w = .ok true w := fun n hn w => eq_num (decide_eq_true rfl) hn hn w
  have q1 := Lib.hid (hs n2 l2)
  have q2 := Lib.hid (hs n3 l3)
  have q4 := Lib.hid (hs n7 l7)
  replace g1 := Lib.hid g1
  replace g2 := Lib.hid g2
  replace g3 := Lib.hid g3
  replace g4 := Lib.hid g4
  replace g5 := Lib.hid g5
  replace g6 := Lib.hid g6
  replace g7 := Lib.hid g7
  replace g8 := Lib.hid g8
  replace g9 := Lib.hid g9
  replace gm := Lib.hid gm
  replace g10 := Lib.hid g10
  replace gs := Lib.hid gs
  replace gc := Lib.hid gc
  replace gi := Lib.hid gi
  clear hs
  go_enter Try.func17, Try.ntmps17
  go_upto_region 1 with fail
  refine wp_new3 (fun W hsz k1 k2 k3 kb => ?_)
  go_upto_region 1 with (first | (refine wpList_load_arr2 rfl _ _ rfl _ rfl (by kernel_rfl) _ (by assumption) (by first | (rw [lims_len]; kernel_rfl) | (rw [byts_len]; kernel_rfl) | (rw [us_len]; kernel_rfl) | kernel_rfl) ?_) | (refine wpList_store_arr rfl _ _ _ rfl _ _ rfl rfl _ (by first | assumption | exact Arr.new _ _ _) (by first | (rw [lims_len]; kernel_rfl) | (rw [byts_len]; kernel_rfl) | (rw [us_len]; kernel_rfl) | kernel_rfl) (by first | (rw [lims_len, lims_len]) | (rw [byts_len, byts_len]) | (rw [lims_len]; rfl) | (rw [byts_len]; rfl) | (rw [us_len, us_len]; rfl) | rfl) (by first | exact lims_one _ _ | exact byts_one _ | exact us_one _ | (intro v hv; simp at hv; rcases hv with rfl | rfl | rfl | rfl <;> rfl)) ?_))
  go_wp2_with (first | (refine wpList_load_arr2 rfl _ _ rfl _ rfl (by kernel_rfl) _ (by assumption) (by first | (rw [lims_len]; kernel_rfl) | (rw [byts_len]; kernel_rfl) | (rw [us_len]; kernel_rfl) | kernel_rfl) ?_) | (refine wpList_store_arr rfl _ _ _ rfl _ _ rfl rfl _ (by first | assumption | exact Arr.new _ _ _) (by first | (rw [lims_len]; kernel_rfl) | (rw [byts_len]; kernel_rfl) | (rw [us_len]; kernel_rfl) | kernel_rfl) (by first | (rw [lims_len, lims_len]) | (rw [byts_len, byts_len]) | (rw [lims_len]; rfl) | (rw [byts_len]; rfl) | (rw [us_len, us_len]; rfl) | rfl) (by first | exact lims_one _ _ | exact byts_one _ | exact us_one _ | (intro v hv; simp at hv; rcases hv with rfl | rfl | rfl | rfl <;> rfl)) ?_))
  refine (alive3_any _).mono ?_
  rintro e w_1 ⟨rfl, hb_1⟩
  have k1 := k1.below hb_1
  have k2 := k2.below hb_1
  have k3 := k3.below hb_1
  have kb := bel kb hb_1
  clear hb_1
  go_upto_region 2 with (first | (refine wpList_load_arr2 rfl _ _ rfl _ rfl (by kernel_rfl) _ (by assumption) (by first | (rw [lims_len]; kernel_rfl) | (rw [byts_len]; kernel_rfl) | (rw [us_len]; kernel_rfl) | kernel_rfl) ?_) | (refine wpList_store_arr rfl _ _ _ rfl _ _ rfl rfl _ (by first | assumption | exact Arr.new _ _ _) (by first | (rw [lims_len]; kernel_rfl) | (rw [byts_len]; kernel_rfl) | (rw [us_len]; kernel_rfl) | kernel_rfl) (by first | (rw [lims_len, lims_len]) | (rw [byts_len, byts_len]) | (rw [lims_len]; rfl) | (rw [byts_len]; rfl) | (rw [us_len, us_len]; rfl) | rfl) (by first | exact lims_one _ _ | exact byts_one _ | exact us_one _ | (intro v hv; simp at hv; rcases hv with rfl | rfl | rfl | rfl <;> rfl)) ?_))
  refine Tx.start (fun w' => Below (w_1).heap.size (w_1) w') 9999 14 rfl (by kernel_rfl) ?_
  have hS_2 : Below (w_1).heap.size (w_1) (World.drew w_1) := (Below.refl _ _).drew
  refine Tx.seg (A := ?_) 7 871 (by kernel_rfl) (by exact hS_2) [0, 1, 2, 5, 6, 8, 9] (by kernel_rfl) ?_ ?_
  rotate_left
  · intro w' hB
    have e0 := k1.below hB
    have e1 := k2.below hB
    have e2 := k3.below hB
    iterate 7 (first | (refine rd_skip rfl rfl ?_; simp only [Act.put, List.setIfInBounds_toArray, List.set_cons_zero, List.set_cons_succ]) | (refine rd_load_arr rfl rfl _ _ rfl _ rfl (by kernel_rfl) _ (by assumption) (by first | (rw [lims_len]; kernel_rfl) | (rw [byts_len]; kernel_rfl) | (rw [us_len]; kernel_rfl) | kernel_rfl) ?_; simp only [Act.put, List.setIfInBounds_toArray, List.set_cons_zero, List.set_cons_succ]) | (refine rd_take (v := ?_) rfl rfl ?_ ?_; rotate_left; (focus (go_simp; try (with_reducible rfl))); simp only [Act.put, List.setIfInBounds_toArray, List.set_cons_zero, List.set_cons_succ]))
    exact rd_nil
  refine Tx.eff 3 879 rfl (by decide +kernel) (fun K hK => ?_)
  go_simp
  refine (fadd_r g1 hb hc _).mono ?_
  rintro e w_3 ⟨rfl, hb_3⟩
  have hS_3 := ext_trans hS_2 (Nat.le_refl _) hb_3
  refine hK (fun w' => Below (w_1).heap.size (w_1) w') _ _ hS_3 (fun _ h => h) ?_
  clear hK K hb_3 hS_2
  try simp only [Act.put, List.setIfInBounds_toArray, List.set_cons_zero, List.set_cons_succ]
  refine Tx.eff 4 895 rfl (by decide +kernel) (fun K hK => ?_)
  go_simp
  refine (fmul_r g2 ha l1 _).mono ?_
  rintro e w_4 ⟨rfl, hb_4⟩
  have hS_4 := ext_trans hS_3 (Nat.le_refl _) hb_4
  refine hK (fun w' => Below (w_1).heap.size (w_1) w') _ _ hS_4 (fun _ h => h) ?_
  clear hK K hb_4 hS_3
  try simp only [Act.put, List.setIfInBounds_toArray, List.set_cons_zero, List.set_cons_succ]
  refine Tx.eff 7 1023 rfl (by decide +kernel) (fun K hK => ?_)
  go_simp
  refine (fmul_r g3 ha hb _).mono ?_
  rintro e w_5 ⟨rfl, hb_5⟩
  have hS_5 := ext_trans hS_4 (Nat.le_refl _) hb_5
  refine hK (fun w' => Below (w_1).heap.size (w_1) w') _ _ hS_5 (fun _ h => h) ?_
  clear hK K hb_5 hS_4
  try simp only [Act.put, List.setIfInBounds_toArray, List.set_cons_zero, List.set_cons_succ]
  refine Tx.eff 10 2047 rfl (by decide +kernel) (fun K hK => ?_)
  go_simp
  refine (fmul_r g4 ha hc _).mono ?_
  rintro e w_6 ⟨rfl, hb_6⟩
  have hS_6 := ext_trans hS_5 (Nat.le_refl _) hb_6
  refine hK (fun w' => Below (w_1).heap.size (w_1) w') _ _ hS_6 (fun _ h => h) ?_
  clear hK K hb_6 hS_5
  try simp only [Act.put, List.setIfInBounds_toArray, List.set_cons_zero, List.set_cons_succ]
  refine Tx.eff 11 4095 rfl (by decide +kernel) (fun K hK => ?_)
  go_simp
  refine (fadd_r g5 l3 l4 _).mono ?_
  rintro e w_7 ⟨rfl, hb_7⟩
  have hS_7 := ext_trans hS_6 (Nat.le_refl _) hb_7
  refine hK (fun w' => Below (w_1).heap.size (w_1) w') _ _ hS_7 (fun _ h => h) ?_
  clear hK K hb_7 hS_6
  try simp only [Act.put, List.setIfInBounds_toArray, List.set_cons_zero, List.set_cons_succ]
  refine Tx.seg (A := ?_) 0 16383 (by kernel_rfl) (by exact hS_7) [12, 13] (by kernel_rfl) ?_ ?_
  rotate_left
  · intro w' hB
    have q1 := q1.out w'
    iterate 2 (first | (refine rd_skip rfl rfl ?_; simp only [Act.put, List.setIfInBounds_toArray, List.set_cons_zero, List.set_cons_succ]) | (refine rd_load_arr rfl rfl _ _ rfl _ rfl (by kernel_rfl) _ (by assumption) (by first | (rw [lims_len]; kernel_rfl) | (rw [byts_len]; kernel_rfl) | (rw [us_len]; kernel_rfl) | kernel_rfl) ?_; simp only [Act.put, List.setIfInBounds_toArray, List.set_cons_zero, List.set_cons_succ]) | (refine rd_take (v := ?_) rfl rfl ?_ ?_; rotate_left; (focus (go_simp; try (with_reducible rfl))); simp only [Act.put, List.setIfInBounds_toArray, List.set_cons_zero, List.set_cons_succ]))
    exact rd_nil
  refine Tx.done (by kernel_rfl) ?_
  have k1 := k1.below hS_7
  have k2 := k2.below hS_7
  have k3 := k3.below hS_7
  have kb := bel kb hS_7
  clear hS_7
  go_upto_region 3 with (first | (refine wpList_load_arr2 rfl _ _ rfl _ rfl (by kernel_rfl) _ (by assumption) (by first | (rw [lims_len]; kernel_rfl) | (rw [byts_len]; kernel_rfl) | (rw [us_len]; kernel_rfl) | kernel_rfl) ?_) | (refine wpList_store_arr rfl _ _ _ rfl _ _ rfl rfl _ (by first | assumption | exact Arr.new _ _ _) (by first | (rw [lims_len]; kernel_rfl) | (rw [byts_len]; kernel_rfl) | (rw [us_len]; kernel_rfl) | kernel_rfl) (by first | (rw [lims_len, lims_len]) | (rw [byts_len, byts_len]) | (rw [lims_len]; rfl) | (rw [byts_len]; rfl) | (rw [us_len, us_len]; rfl) | rfl) (by first | exact lims_one _ _ | exact byts_one _ | exact us_one _ | (intro v hv; simp at hv; rcases hv with rfl | rfl | rfl | rfl <;> rfl)) ?_))
  refine Tx.start (fun w' => Below (w_7).heap.size (w_7) w') 9999 18 rfl (by kernel_rfl) ?_
  have hS_8 : Below (w_7).heap.size (w_7) (World.drew w_7) := (Below.refl _ _).drew
  refine Tx.seg (A := ?_) 14 43 (by kernel_rfl) (by exact hS_8) [0, 1, 3, 5] (by kernel_rfl) ?_ ?_
  rotate_left
  · intro w' hB
    have e0 := k1.below hB
    have e1 := k2.below hB
    have e2 := k3.below hB
    iterate 4 (first | (refine rd_skip rfl rfl ?_; simp only [Act.put, List.setIfInBounds_toArray, List.set_cons_zero, List.set_cons_succ]) | (refine rd_load_arr rfl rfl _ _ rfl _ rfl (by kernel_rfl) _ (by assumption) (by first | (rw [lims_len]; kernel_rfl) | (rw [byts_len]; kernel_rfl) | (rw [us_len]; kernel_rfl) | kernel_rfl) ?_; simp only [Act.put, List.setIfInBounds_toArray, List.set_cons_zero, List.set_cons_succ]) | (refine rd_take (v := ?_) rfl rfl ?_ ?_; rotate_left; (focus (go_simp; try (with_reducible rfl))); simp only [Act.put, List.setIfInBounds_toArray, List.set_cons_zero, List.set_cons_succ]))
    exact rd_nil
  refine Tx.eff 2 47 rfl (by decide +kernel) (fun K hK => ?_)
  go_simp
  refine (fadd_r g6 ha hb _).mono ?_
  rintro e w_9 ⟨rfl, hb_9⟩
  have hS_9 := ext_trans hS_8 (Nat.le_refl _) hb_9
  refine hK (fun w' => Below (w_7).heap.size (w_7) w') _ _ hS_9 (fun _ h => h) ?_
  clear hK K hb_9 hS_8
  try simp only [Act.put, List.setIfInBounds_toArray, List.set_cons_zero, List.set_cons_succ]
  refine Tx.eff 4 63 rfl (by decide +kernel) (fun K hK => ?_)
  go_simp
  refine (fsub_r gs l6 hb _).mono ?_
  rintro e w_10 ⟨rfl, hb_10⟩
  have hS_10 := ext_trans hS_9 (Nat.le_refl _) hb_10
  refine hK (fun w' => Below (w_7).heap.size (w_7) w') _ _ hS_10 (fun _ h => h) ?_
  clear hK K hb_10 hS_9
  try simp only [Act.put, List.setIfInBounds_toArray, List.set_cons_zero, List.set_cons_succ]
  refine Tx.eff 6 127 rfl (by decide +kernel) (fun K hK => ?_)
  go_simp
  refine (fcanon_r g7 ha _).mono ?_
  rintro e w_11 ⟨rfl, hb_11⟩
  have hS_11 := ext_trans hS_10 (Nat.le_refl _) hb_11
  refine hK (fun w' => Below (w_7).heap.size (w_7) w') _ _ hS_11 (fun _ h => h) ?_
  clear hK K hb_11 hS_10
  try simp only [Act.put, List.setIfInBounds_toArray, List.set_cons_zero, List.set_cons_succ]
  refine Tx.seg (A := ?_) 5 14335 (by kernel_rfl) (by exact hS_11) [7, 8, 9, 10, 12, 13] (by kernel_rfl) ?_ ?_
  rotate_left
  · intro w' hB
    have e0 := k1.below hB
    have e1 := k2.below hB
    have e2 := k3.below hB
    have q1 := q4.out w'
    iterate 6 (first | (refine rd_skip rfl rfl ?_; simp only [Act.put, List.setIfInBounds_toArray, List.set_cons_zero, List.set_cons_succ]) | (refine rd_load_arr rfl rfl _ _ rfl _ rfl (by kernel_rfl) _ (by assumption) (by first | (rw [lims_len]; kernel_rfl) | (rw [byts_len]; kernel_rfl) | (rw [us_len]; kernel_rfl) | kernel_rfl) ?_; simp only [Act.put, List.setIfInBounds_toArray, List.set_cons_zero, List.set_cons_succ]) | (refine rd_take (v := ?_) rfl rfl ?_ ?_; rotate_left; (focus (go_simp; try (with_reducible rfl))); simp only [Act.put, List.setIfInBounds_toArray, List.set_cons_zero, List.set_cons_succ]))
    exact rd_nil
  refine Tx.eff 11 16383 rfl (by decide +kernel) (fun K hK => ?_)
  go_simp
  refine (fmul_r g3 ha hb _).mono ?_
  rintro e w_12 ⟨rfl, hb_12⟩
  have hS_12 := ext_trans hS_11 (Nat.le_refl _) hb_12
  refine hK (fun w' => Below (w_7).heap.size (w_7) w') _ _ hS_12 (fun _ h => h) ?_
  clear hK K hb_12 hS_11
  try simp only [Act.put, List.setIfInBounds_toArray, List.set_cons_zero, List.set_cons_succ]
  refine Tx.eff 14 32767 rfl (by decide +kernel) (fun K hK => ?_)
  go_simp
  refine (fmul_r gc hb ha _).mono ?_
  rintro e w_13 ⟨rfl, hb_13⟩
  have hS_13 := ext_trans hS_12 (Nat.le_refl _) hb_13
  refine hK (fun w' => Below (w_7).heap.size (w_7) w') _ _ hS_13 (fun _ h => h) ?_
  clear hK K hb_13 hS_12
  try simp only [Act.put, List.setIfInBounds_toArray, List.set_cons_zero, List.set_cons_succ]
  refine Tx.seg (A := ?_) 0 262143 (by kernel_rfl) (by exact hS_13) [15, 16, 17] (by kernel_rfl) ?_ ?_
  rotate_left
  · intro w' hB
    have q2 := q2.out w'
    iterate 3 (first | (refine rd_skip rfl rfl ?_; simp only [Act.put, List.setIfInBounds_toArray, List.set_cons_zero, List.set_cons_succ]) | (refine rd_load_arr rfl rfl _ _ rfl _ rfl (by kernel_rfl) _ (by assumption) (by first | (rw [lims_len]; kernel_rfl) | (rw [byts_len]; kernel_rfl) | (rw [us_len]; kernel_rfl) | kernel_rfl) ?_; simp only [Act.put, List.setIfInBounds_toArray, List.set_cons_zero, List.set_cons_succ]) | (refine rd_take (v := ?_) rfl rfl ?_ ?_; rotate_left; (focus (go_simp; try (with_reducible rfl))); simp only [Act.put, List.setIfInBounds_toArray, List.set_cons_zero, List.set_cons_succ]))
    exact rd_nil
  refine Tx.done (by kernel_rfl) ?_
  have k1 := k1.below hS_13
  have k2 := k2.below hS_13
  have k3 := k3.below hS_13
  have kb := bel kb hS_13
  clear hS_13
  go_upto_region 4 with (first | (refine wpList_load_arr2 rfl _ _ rfl _ rfl (by kernel_rfl) _ (by assumption) (by first | (rw [lims_len]; kernel_rfl) | (rw [byts_len]; kernel_rfl) | (rw [us_len]; kernel_rfl) | kernel_rfl) ?_) | (refine wpList_store_arr rfl _ _ _ rfl _ _ rfl rfl _ (by first | assumption | exact Arr.new _ _ _) (by first | (rw [lims_len]; kernel_rfl) | (rw [byts_len]; kernel_rfl) | (rw [us_len]; kernel_rfl) | kernel_rfl) (by first | (rw [lims_len, lims_len]) | (rw [byts_len, byts_len]) | (rw [lims_len]; rfl) | (rw [byts_len]; rfl) | (rw [us_len, us_len]; rfl) | rfl) (by first | exact lims_one _ _ | exact byts_one _ | exact us_one _ | (intro v hv; simp at hv; rcases hv with rfl | rfl | rfl | rfl <;> rfl)) ?_))
  refine Tx.start (fun w' => Below (w_13).heap.size (w_13) w') 7 8 rfl (by kernel_rfl) ?_
  have hS_14 : Below (w_13).heap.size (w_13) (World.drew w_13) := (Below.refl _ _).drew
  refine Tx.seg (A := ?_) 5 11 (by kernel_rfl) (by exact hS_14) [0, 1, 3] (by kernel_rfl) ?_ ?_
  rotate_left
  · intro w' hB
    have e0 := k1.below hB
    have e1 := k2.below hB
    have e2 := k3.below hB
    iterate 3 (first | (refine rd_skip rfl rfl ?_; simp only [Act.put, List.setIfInBounds_toArray, List.set_cons_zero, List.set_cons_succ]) | (refine rd_load_arr rfl rfl _ _ rfl _ rfl (by kernel_rfl) _ (by assumption) (by first | (rw [lims_len]; kernel_rfl) | (rw [byts_len]; kernel_rfl) | (rw [us_len]; kernel_rfl) | kernel_rfl) ?_; simp only [Act.put, List.setIfInBounds_toArray, List.set_cons_zero, List.set_cons_succ]) | (refine rd_take (v := ?_) rfl rfl ?_ ?_; rotate_left; (focus (go_simp; try (with_reducible rfl))); simp only [Act.put, List.setIfInBounds_toArray, List.set_cons_zero, List.set_cons_succ]))
    exact rd_nil
  refine Tx.poolB 1 127 [(2, 44), (4, 46), (5, 47), (6, 10)] [(false, []), (false, []), (false, [(2, 44), (4, 46)]), (false, [])] [(2, Ph.is (.agg (byts n3).toArray)), (4, Ph.is (.agg (byts n8).toArray)), (5, Ph.is (.agg (byts n9).toArray)), (6, Ph.arr (w_13).heap.size (byts 0))] (by kernel_rfl) (by kernel_rfl) (by first | assumption | exact (Below.refl _ _).drew) ?_ ?_
  · refine ⟨⟨_, rfl, ?_⟩, ⟨_, rfl, ?_⟩, ⟨_, rfl, ?_⟩, ⟨_, rfl, ?_⟩, trivial⟩
    · intro vs w1 hS hE hD K hK
      clear hD
      simp only [fillL, Act.put, List.setIfInBounds_toArray, List.set_cons_zero, List.set_cons_succ] at hK ⊢
      go_simp
      refine (fmul_r g3 ha hb _).mono ?_
      rintro e w2 ⟨rfl, hb2⟩
      exact hK _ _ rfl hb2 nofun
    · intro vs w1 hS hE hD K hK
      clear hD
      simp only [fillL, Act.put, List.setIfInBounds_toArray, List.set_cons_zero, List.set_cons_succ] at hK ⊢
      go_simp
      refine (finv_r g8 hb _).mono ?_
      rintro e w2 ⟨rfl, hb2⟩
      exact hK _ _ rfl hb2 nofun
    · intro vs w1 hS hE hD K hK
      obtain ⟨q2, q4, -⟩ := hD
      simp only [fillL, Act.put, List.setIfInBounds_toArray, List.set_cons_zero, List.set_cons_succ] at hK ⊢
      rw [show vs 2 = _ from q2] at hK ⊢
      clear q2
      rw [show vs 4 = _ from q4] at hK ⊢
      clear q4
      go_simp
      refine (fmul_r g9 l3 l8 _).mono ?_
      rintro e w2 ⟨rfl, hb2⟩
      exact hK _ _ rfl hb2 nofun
    · intro vs w1 hS hE hD K hK
      clear hD
      simp only [fillL, Act.put, List.setIfInBounds_toArray, List.set_cons_zero, List.set_cons_succ] at hK ⊢
      go_simp
      exact hK _ _ ⟨_, rfl, Nat.le_trans (by first | exact Nat.le_refl _ | omega | (simp; omega)) hE.size, Arr.new _ _ _⟩ (below_alloc _ _) (fun _ => ⟨_, rfl, Nat.le_refl _⟩)
  intro vs w_p4_3318 hS_p4_3318 hE_p4_3318 hP hD
  obtain ⟨q2, q4, q5, q6, -⟩ := hP
  simp only [fillL, Act.put, List.setIfInBounds_toArray, List.set_cons_zero, List.set_cons_succ]
  rw [show vs 2 = _ from q2]
  clear q2
  rw [show vs 4 = _ from q4]
  clear q4
  rw [show vs 5 = _ from q5]
  clear q5
  obtain ⟨g6, e6, hg6, ha6⟩ := q6
  rw [e6]
  clear e6 hD vs
  have lt_k4_k1 := Nat.lt_of_lt_of_le k1.lt hg6
  have lt_k4_k2 := Nat.lt_of_lt_of_le k2.lt hg6
  have lt_k4_k3 := Nat.lt_of_lt_of_le k3.lt hg6
  have k1 := k1.below hS_p4_3318
  have k2 := k2.below hS_p4_3318
  have k3 := k3.below hS_p4_3318
  have kb := bel kb hS_p4_3318
  refine Tx.bar 255 rfl (by decide +kernel) (fun K hK => ?_)
  refine step_store_arr rfl _ _ _ rfl _ _ rfl rfl _ (by assumption) (by first | (rw [lims_len]; kernel_rfl) | (rw [byts_len]; kernel_rfl) | (rw [us_len]; kernel_rfl) | kernel_rfl) (by first | (rw [lims_len, lims_len]) | (rw [byts_len, byts_len]) | (rw [lims_len]; rfl) | (rw [byts_len]; rfl) | (rw [us_len, us_len]; rfl) | rfl) (by first | exact lims_one _ _ | exact byts_one _ | exact us_one _ | (intro v hv; simp at hv; rcases hv with rfl | rfl | rfl | rfl <;> rfl)) ?_
  refine hK (fun _ => True) 9999 _ _ ?_
  clear hK K
  try simp only [Act.put]
  try simp only [List.setIfInBounds_toArray, List.set_cons_zero, List.set_cons_succ]
  refine Tx.done (by kernel_rfl) ?_
  refine then_row ha6 (fun w_15 ha6 hoth hbel => ?_)
  have k1 := hoth _ _ (by omega) k1
  have k2 := hoth _ _ (by omega) k2
  have k3 := hoth _ _ (by omega) k3
  have kb := hbel _ _ (by omega) kb
  clear hoth hbel
  have k4 := ha6
  clear ha6
  generalize g6 = g_k4 at *
  by_cases hm : m = 0
  · have q3 := Lib.hid (eq_num0 (b := true) (decide_eq_true hm) lm)
    clear gz
    replace hm := Lib.hid hm
    go_upto_region 5 with (first | (refine wpList_load_arr2 rfl _ _ rfl _ rfl (by kernel_rfl) _ (by assumption) (by first | (rw [lims_len]; kernel_rfl) | (rw [byts_len]; kernel_rfl) | (rw [us_len]; kernel_rfl) | kernel_rfl) ?_) | (refine wpList_store_arr rfl _ _ _ rfl _ _ rfl rfl _ (by first | assumption | exact Arr.new _ _ _) (by first | (rw [lims_len]; kernel_rfl) | (rw [byts_len]; kernel_rfl) | (rw [us_len]; kernel_rfl) | kernel_rfl) (by first | (rw [lims_len, lims_len]) | (rw [byts_len, byts_len]) | (rw [lims_len]; rfl) | (rw [byts_len]; rfl) | (rw [us_len, us_len]; rfl) | rfl) (by first | exact lims_one _ _ | exact byts_one _ | exact us_one _ | (intro v hv; simp at hv; rcases hv with rfl | rfl | rfl | rfl <;> rfl)) ?_))
    refine Tx.start (fun w' => Below (w_15).heap.size (w_15) w') 9999 28 rfl (by kernel_rfl) ?_
    have hS_16 : Below (w_15).heap.size (w_15) (World.drew w_15) := (Below.refl _ _).drew
    refine Tx.seg (A := ?_) 18 1535 (by kernel_rfl) (by exact hS_16) [0, 1, 2, 3, 4, 5, 6, 7, 8, 10] (by kernel_rfl) ?_ ?_
    rotate_left
    · intro w' hB
      have e0 := k1.below hB
      have e1 := k2.below hB
      have e2 := k3.below hB
      have e3 := k4.below hB
      iterate 10 (first | (refine rd_skip rfl rfl ?_; simp only [Act.put, List.setIfInBounds_toArray, List.set_cons_zero, List.set_cons_succ]) | (refine rd_load_arr rfl rfl _ _ rfl _ rfl (by kernel_rfl) _ (by assumption) (by first | (rw [lims_len]; kernel_rfl) | (rw [byts_len]; kernel_rfl) | (rw [us_len]; kernel_rfl) | kernel_rfl) ?_; simp only [Act.put, List.setIfInBounds_toArray, List.set_cons_zero, List.set_cons_succ]) | (refine rd_take (v := ?_) rfl rfl ?_ ?_; rotate_left; (focus (go_simp; try (with_reducible rfl))); simp only [Act.put, List.setIfInBounds_toArray, List.set_cons_zero, List.set_cons_succ]))
      exact rd_nil
    refine Tx.eff 9 2047 rfl (by decide +kernel) (fun K hK => ?_)
    go_simp
    refine (fcanon_r gm hb _).mono ?_
    rintro e w_17 ⟨rfl, hb_17⟩
    have hS_17 := ext_trans hS_16 (Nat.le_refl _) hb_17
    refine hK (fun w' => Below (w_15).heap.size (w_15) w') _ _ hS_17 (fun _ h => h) ?_
    clear hK K hb_17 hS_16
    try simp only [Act.put, List.setIfInBounds_toArray, List.set_cons_zero, List.set_cons_succ]
    refine Tx.seg (A := ?_) 13 32767 (by kernel_rfl) (by exact hS_17) [11, 12, 13, 14] (by kernel_rfl) ?_ ?_
    rotate_left
    · intro w' hB
      have e0 := k1.below hB
      have e1 := k2.below hB
      have e2 := k3.below hB
      have e3 := k4.below hB
      have q1 := q3.out w'
      iterate 4 (first | (refine rd_skip rfl rfl ?_; simp only [Act.put, List.setIfInBounds_toArray, List.set_cons_zero, List.set_cons_succ]) | (refine rd_load_arr rfl rfl _ _ rfl _ rfl (by kernel_rfl) _ (by assumption) (by first | (rw [lims_len]; kernel_rfl) | (rw [byts_len]; kernel_rfl) | (rw [us_len]; kernel_rfl) | kernel_rfl) ?_; simp only [Act.put, List.setIfInBounds_toArray, List.set_cons_zero, List.set_cons_succ]) | (refine rd_take (v := ?_) rfl rfl ?_ ?_; rotate_left; (focus (go_simp; try (with_reducible rfl))); simp only [Act.put, List.setIfInBounds_toArray, List.set_cons_zero, List.set_cons_succ]))
      exact rd_nil
    refine Tx.eff 15 65535 rfl (by decide +kernel) (fun K hK => ?_)
    go_simp
    refine hK (fun w' => Below (w_15).heap.size (w_15) w') _ _ hS_17 (fun _ h => h) ?_
    clear hK K
    try simp only [Act.put, List.setIfInBounds_toArray, List.set_cons_zero, List.set_cons_succ]
    refine Tx.seg (A := ?_) 6 10485759 (by kernel_rfl) (by exact hS_17) [16, 17, 18, 19, 20, 23] (by kernel_rfl) ?_ ?_
    rotate_left
    · intro w' hB
      have e0 := k1.below hB
      have e1 := k2.below hB
      have e2 := k3.below hB
      have e3 := k4.below hB
      iterate 6 (first | (refine rd_skip rfl rfl ?_; simp only [Act.put, List.setIfInBounds_toArray, List.set_cons_zero, List.set_cons_succ]) | (refine rd_load_arr rfl rfl _ _ rfl _ rfl (by kernel_rfl) _ (by assumption) (by first | (rw [lims_len]; kernel_rfl) | (rw [byts_len]; kernel_rfl) | (rw [us_len]; kernel_rfl) | kernel_rfl) ?_; simp only [Act.put, List.setIfInBounds_toArray, List.set_cons_zero, List.set_cons_succ]) | (refine rd_take (v := ?_) rfl rfl ?_ ?_; rotate_left; (focus (go_simp; try (with_reducible rfl))); simp only [Act.put, List.setIfInBounds_toArray, List.set_cons_zero, List.set_cons_succ]))
      exact rd_nil
    refine Tx.eff 21 12582911 rfl (by decide +kernel) (fun K hK => ?_)
    go_simp
    refine (finv_r g10 ha _).mono ?_
    rintro e w_18 ⟨rfl, hb_18⟩
    have hS_18 := ext_trans hS_17 (Nat.le_refl _) hb_18
    refine hK (fun w' => Below (w_15).heap.size (w_15) w') _ _ hS_18 (fun _ h => h) ?_
    clear hK K hb_18 hS_17
    try simp only [Act.put, List.setIfInBounds_toArray, List.set_cons_zero, List.set_cons_succ]
    refine Tx.eff 22 16777215 rfl (by decide +kernel) (fun K hK => ?_)
    go_simp
    refine (finv_r gi l10 _).mono ?_
    rintro e w_19 ⟨rfl, hb_19⟩
    have hS_19 := ext_trans hS_18 (Nat.le_refl _) hb_19
    refine hK (fun w' => Below (w_15).heap.size (w_15) w') _ _ hS_19 (fun _ h => h) ?_
    clear hK K hb_19 hS_18
    try simp only [Act.put, List.setIfInBounds_toArray, List.set_cons_zero, List.set_cons_succ]
    refine Tx.eff 24 33554431 rfl (by decide +kernel) (fun K hK => ?_)
    go_simp
    refine (fcanon_r g7 ha _).mono ?_
    rintro e w_20 ⟨rfl, hb_20⟩
    have hS_20 := ext_trans hS_19 (Nat.le_refl _) hb_20
    refine hK (fun w' => Below (w_15).heap.size (w_15) w') _ _ hS_20 (fun _ h => h) ?_
    clear hK K hb_20 hS_19
    try simp only [Act.put, List.setIfInBounds_toArray, List.set_cons_zero, List.set_cons_succ]
    refine Tx.seg (A := ?_) 0 268435455 (by kernel_rfl) (by exact hS_20) [25, 26, 27] (by kernel_rfl) ?_ ?_
    rotate_left
    · intro w' hB
      have q3 := q4.out w'
      iterate 3 (first | (refine rd_skip rfl rfl ?_; simp only [Act.put, List.setIfInBounds_toArray, List.set_cons_zero, List.set_cons_succ]) | (refine rd_load_arr rfl rfl _ _ rfl _ rfl (by kernel_rfl) _ (by assumption) (by first | (rw [lims_len]; kernel_rfl) | (rw [byts_len]; kernel_rfl) | (rw [us_len]; kernel_rfl) | kernel_rfl) ?_; simp only [Act.put, List.setIfInBounds_toArray, List.set_cons_zero, List.set_cons_succ]) | (refine rd_take (v := ?_) rfl rfl ?_ ?_; rotate_left; (focus (go_simp; try (with_reducible rfl))); simp only [Act.put, List.setIfInBounds_toArray, List.set_cons_zero, List.set_cons_succ]))
      exact rd_nil
    refine Tx.done (by kernel_rfl) ?_
    have k1 := k1.below hS_20
    have k2 := k2.below hS_20
    have k3 := k3.below hS_20
    have k4 := k4.below hS_20
    have kb := bel kb hS_20
    clear hS_20
    go_wp2_with fail
    go_ret
    exact ⟨rfl, kb⟩
  · have q3 := Lib.hid (eq_num0 (b := false) (decide_eq_false hm) lm)
    have gz := gz hm
    subst gz
    replace hm := Lib.hid hm
    go_upto_region 5 with (first | (refine wpList_load_arr2 rfl _ _ rfl _ rfl (by kernel_rfl) _ (by assumption) (by first | (rw [lims_len]; kernel_rfl) | (rw [byts_len]; kernel_rfl) | (rw [us_len]; kernel_rfl) | kernel_rfl) ?_) | (refine wpList_store_arr rfl _ _ _ rfl _ _ rfl rfl _ (by first | assumption | exact Arr.new _ _ _) (by first | (rw [lims_len]; kernel_rfl) | (rw [byts_len]; kernel_rfl) | (rw [us_len]; kernel_rfl) | kernel_rfl) (by first | (rw [lims_len, lims_len]) | (rw [byts_len, byts_len]) | (rw [lims_len]; rfl) | (rw [byts_len]; rfl) | (rw [us_len, us_len]; rfl) | rfl) (by first | exact lims_one _ _ | exact byts_one _ | exact us_one _ | (intro v hv; simp at hv; rcases hv with rfl | rfl | rfl | rfl <;> rfl)) ?_))
    refine Tx.start (fun w' => Below (w_15).heap.size (w_15) w') 9999 28 rfl (by kernel_rfl) ?_
    have hS_21 : Below (w_15).heap.size (w_15) (World.drew w_15) := (Below.refl _ _).drew
    refine Tx.seg (A := ?_) 18 1535 (by kernel_rfl) (by exact hS_21) [0, 1, 2, 3, 4, 5, 6, 7, 8, 10] (by kernel_rfl) ?_ ?_
    rotate_left
    · intro w' hB
      have e0 := k1.below hB
      have e1 := k2.below hB
      have e2 := k3.below hB
      have e3 := k4.below hB
      iterate 10 (first | (refine rd_skip rfl rfl ?_; simp only [Act.put, List.setIfInBounds_toArray, List.set_cons_zero, List.set_cons_succ]) | (refine rd_load_arr rfl rfl _ _ rfl _ rfl (by kernel_rfl) _ (by assumption) (by first | (rw [lims_len]; kernel_rfl) | (rw [byts_len]; kernel_rfl) | (rw [us_len]; kernel_rfl) | kernel_rfl) ?_; simp only [Act.put, List.setIfInBounds_toArray, List.set_cons_zero, List.set_cons_succ]) | (refine rd_take (v := ?_) rfl rfl ?_ ?_; rotate_left; (focus (go_simp; try (with_reducible rfl))); simp only [Act.put, List.setIfInBounds_toArray, List.set_cons_zero, List.set_cons_succ]))
      exact rd_nil
    refine Tx.eff 9 2047 rfl (by decide +kernel) (fun K hK => ?_)
    go_simp
    refine (fcanon_r gm hb _).mono ?_
    rintro e w_22 ⟨rfl, hb_22⟩
    have hS_22 := ext_trans hS_21 (Nat.le_refl _) hb_22
    refine hK (fun w' => Below (w_15).heap.size (w_15) w') _ _ hS_22 (fun _ h => h) ?_
    clear hK K hb_22 hS_21
    try simp only [Act.put, List.setIfInBounds_toArray, List.set_cons_zero, List.set_cons_succ]
    refine Tx.seg (A := ?_) 13 32767 (by kernel_rfl) (by exact hS_22) [11, 12, 13, 14] (by kernel_rfl) ?_ ?_
    rotate_left
    · intro w' hB
      have e0 := k1.below hB
      have e1 := k2.below hB
      have e2 := k3.below hB
      have e3 := k4.below hB
      have q1 := q3.out w'
      iterate 4 (first | (refine rd_skip rfl rfl ?_; simp only [Act.put, List.setIfInBounds_toArray, List.set_cons_zero, List.set_cons_succ]) | (refine rd_load_arr rfl rfl _ _ rfl _ rfl (by kernel_rfl) _ (by assumption) (by first | (rw [lims_len]; kernel_rfl) | (rw [byts_len]; kernel_rfl) | (rw [us_len]; kernel_rfl) | kernel_rfl) ?_; simp only [Act.put, List.setIfInBounds_toArray, List.set_cons_zero, List.set_cons_succ]) | (refine rd_take (v := ?_) rfl rfl ?_ ?_; rotate_left; (focus (go_simp; try (with_reducible rfl))); simp only [Act.put, List.setIfInBounds_toArray, List.set_cons_zero, List.set_cons_succ]))
      exact rd_nil
    refine Tx.eff 15 65535 rfl (by decide +kernel) (fun K hK => ?_)
    go_simp
    refine (fcanon_r g7 ha _).mono ?_
    rintro e w_23 ⟨rfl, hb_23⟩
    have hS_23 := ext_trans hS_22 (Nat.le_refl _) hb_23
    refine hK (fun w' => Below (w_15).heap.size (w_15) w') _ _ hS_23 (fun _ h => h) ?_
    clear hK K hb_23 hS_22
    try simp only [Act.put, List.setIfInBounds_toArray, List.set_cons_zero, List.set_cons_succ]
    refine Tx.seg (A := ?_) 6 10485759 (by kernel_rfl) (by exact hS_23) [16, 17, 18, 19, 20, 23] (by kernel_rfl) ?_ ?_
    rotate_left
    · intro w' hB
      have e0 := k1.below hB
      have e1 := k2.below hB
      have e2 := k3.below hB
      have e3 := k4.below hB
      have q2 := q4.out w'
      iterate 6 (first | (refine rd_skip rfl rfl ?_; simp only [Act.put, List.setIfInBounds_toArray, List.set_cons_zero, List.set_cons_succ]) | (refine rd_load_arr rfl rfl _ _ rfl _ rfl (by kernel_rfl) _ (by assumption) (by first | (rw [lims_len]; kernel_rfl) | (rw [byts_len]; kernel_rfl) | (rw [us_len]; kernel_rfl) | kernel_rfl) ?_; simp only [Act.put, List.setIfInBounds_toArray, List.set_cons_zero, List.set_cons_succ]) | (refine rd_take (v := ?_) rfl rfl ?_ ?_; rotate_left; (focus (go_simp; try (with_reducible rfl))); simp only [Act.put, List.setIfInBounds_toArray, List.set_cons_zero, List.set_cons_succ]))
      exact rd_nil
    refine Tx.eff 21 12582911 rfl (by decide +kernel) (fun K hK => ?_)
    go_simp
    refine (finv_r g10 ha _).mono ?_
    rintro e w_24 ⟨rfl, hb_24⟩
    have hS_24 := ext_trans hS_23 (Nat.le_refl _) hb_24
    refine hK (fun w' => Below (w_15).heap.size (w_15) w') _ _ hS_24 (fun _ h => h) ?_
    clear hK K hb_24 hS_23
    try simp only [Act.put, List.setIfInBounds_toArray, List.set_cons_zero, List.set_cons_succ]
    refine Tx.eff 22 16777215 rfl (by decide +kernel) (fun K hK => ?_)
    go_simp
    refine (finv_r gi l10 _).mono ?_
    rintro e w_25 ⟨rfl, hb_25⟩
    have hS_25 := ext_trans hS_24 (Nat.le_refl _) hb_25
    refine hK (fun w' => Below (w_15).heap.size (w_15) w') _ _ hS_25 (fun _ h => h) ?_
    clear hK K hb_25 hS_24
    try simp only [Act.put, List.setIfInBounds_toArray, List.set_cons_zero, List.set_cons_succ]
    refine Tx.eff 24 33554431 rfl (by decide +kernel) (fun K hK => ?_)
    go_simp
    refine (fcanon_r g7 ha _).mono ?_
    rintro e w_26 ⟨rfl, hb_26⟩
    have hS_26 := ext_trans hS_25 (Nat.le_refl _) hb_26
    refine hK (fun w' => Below (w_15).heap.size (w_15) w') _ _ hS_26 (fun _ h => h) ?_
    clear hK K hb_26 hS_25
    try simp only [Act.put, List.setIfInBounds_toArray, List.set_cons_zero, List.set_cons_succ]
    refine Tx.seg (A := ?_) 0 268435455 (by kernel_rfl) (by exact hS_26) [25, 26, 27] (by kernel_rfl) ?_ ?_
    rotate_left
    · intro w' hB
      have q3 := q4.out w'
      iterate 3 (first | (refine rd_skip rfl rfl ?_; simp only [Act.put, List.setIfInBounds_toArray, List.set_cons_zero, List.set_cons_succ]) | (refine rd_load_arr rfl rfl _ _ rfl _ rfl (by kernel_rfl) _ (by assumption) (by first | (rw [lims_len]; kernel_rfl) | (rw [byts_len]; kernel_rfl) | (rw [us_len]; kernel_rfl) | kernel_rfl) ?_; simp only [Act.put, List.setIfInBounds_toArray, List.set_cons_zero, List.set_cons_succ]) | (refine rd_take (v := ?_) rfl rfl ?_ ?_; rotate_left; (focus (go_simp; try (with_reducible rfl))); simp only [Act.put, List.setIfInBounds_toArray, List.set_cons_zero, List.set_cons_succ]))
      exact rd_nil
    refine Tx.done (by kernel_rfl) ?_
    have k1 := k1.below hS_26
    have k2 := k2.below hS_26
    have k3 := k3.below hS_26
    have k4 := k4.below hS_26
    have kb := bel kb hS_26
    clear hS_26
    go_wp2_with fail
    go_ret
    exact ⟨rfl, kb⟩

end Go.Proofs.Ytdggikbaemigbaa
