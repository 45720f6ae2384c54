/- Field laws: the walk of FieldSteps. -/
import Derived.Test.YtdggikbaemigbaaFl2
import Derived.Test.YtdggikbaemigbaaBt
namespace Go.Proofs.Ytdggikbaemigbaa
open Go.RowKit

theorem byts_set {n k v m : Nat} (hk : k < 32) (hn : n < 256 ^ 32) (hv : v < 256) (h : m + 256 ^ k * (n / 256 ^ k % 256) = n + 256 ^ k * v) : (byts n).set k (.int .u8 (v : Int)) = byts m := by
  have h1 := val_set 256 (digs 256 32 n) k _ v (digs_get 256 32 n k hk)
  rw [val_digs, Nat.mod_eq_of_lt hn] at h1
  have h2 : val 256 ((digs 256 32 n).set k v) = m := by omega
  have h3 := digs_val 256 (by decide) ((digs 256 32 n).set k v) (set_lt (digs_lt 256 32 n (by decide)) hv)
  rw [List.length_set, digs_len, h2] at h3
  rw [byts, byts, h3, List.map_set]

theorem byts_lit2 (x y : Nat) (hx : x < 256) (hy : y < 256) : (byts (x + 256 * y)).toArray = #[.int .u8 (x : Int), .int .u8 (y : Int), .int .u8 0, .int .u8 0, .int .u8 0, .int .u8 0, .int .u8 0, .int .u8 0, .int .u8 0, .int .u8 0, .int .u8 0, .int .u8 0, .int .u8 0, .int .u8 0, .int .u8 0, .int .u8 0, .int .u8 0, .int .u8 0, .int .u8 0, .int .u8 0, .int .u8 0, .int .u8 0, .int .u8 0, .int .u8 0, .int .u8 0, .int .u8 0, .int .u8 0, .int .u8 0, .int .u8 0, .int .u8 0, .int .u8 0, .int .u8 0] := by
  have h := byts_set (n := x) (k := 1) (v := y) (m := x + 256 * y) (by decide) (Nat.lt_trans hx (by decide)) hy (by rw [Nat.pow_one, Nat.div_eq_of_lt hx]; rfl)
  rw [← h]
  have h2 := byts_lit x hx
  have h3 : byts x = _ := congrArg Array.toList h2
  rw [h3]
  rfl

set_option maxHeartbeats 4000000 in
set_option maxRecDepth 100000 in
theorem fsteps_any (a : Nat) (z1 z2 : Int) (w : World) (ha : a < 256 ^ 32) (hz1 : (Lit.int .u8 z1).wf = true) (hz2 : (Lit.int .u8 z2).wf = true) :
    Calls Try.prog 15 #[.agg (byts a).toArray, .int .u8 z1, .int .u8 z2] w fun e w' => e = .returned (.bool true) ∧ Below w.heap.size w w' := by
  have hz1' := wf_u8 hz1
  have hz2' := wf_u8 hz2
  obtain ⟨m, rfl⟩ : ∃ n : Nat, z1 = (n : Int) := ⟨z1.toNat, by omega⟩
  obtain ⟨n, rfl⟩ : ∃ n : Nat, z2 = (n : Int) := ⟨z2.toNat, by omega⟩
  have hm : m < 256 := by omega
  have hn : n < 256 := by omega
  clear hz1 hz1' hz2 hz2'
  have hand : bits BinOp.and IntKind.i64 ((m : Int) + (n : Int)) 255 % 256 = (((m + n) % 256 : Nat) : Int) := by rw [and_255]; omega
  have hdiv : ((m : Int) + (n : Int)) / 256 = (((m + n) / 256 : Nat) : Int) := by omega
  have hbl := byts_lit2 ((m + n) % 256) ((m + n) / 256) (Nat.mod_lt _ (by decide)) (by omega)
  rw [Nat.mod_add_div] at hbl
  have lmn : m + n < 256 ^ 32 := Nat.lt_of_lt_of_le (by omega : m + n < 256 ^ 2) (by decide)
  have lm : m < 256 ^ 32 := by omega
  have ln : n < 256 ^ 32 := by omega
  obtain ⟨x1, h1⟩ : ∃ r, a ^ (m + n) % pN = r := ⟨_, rfl⟩
  obtain ⟨x2, h2⟩ : ∃ r, a ^ m % pN = r := ⟨_, rfl⟩
  obtain ⟨x3, h3⟩ : ∃ r, a ^ n % pN = r := ⟨_, rfl⟩
  have h4 : x2 * x3 % pN = x1 := by rw [← h2, ← h3, ← Nat.mul_mod, ← Nat.pow_add, h1]
  obtain ⟨y, hy⟩ : ∃ r, a ^ (pN - 1) % pN = r := ⟨_, rfl⟩
  obtain ⟨c, hc⟩ : ∃ r, a % pN = r := ⟨_, rfl⟩
  obtain ⟨d, hd⟩ : ∃ r, a * a % pN = r := ⟨_, rfl⟩
  have hd2 : a ^ 2 % pN = d := by rw [← hd, Nat.pow_two]
  have hc1 : a ^ 1 % pN = c := by rw [← hc, Nat.pow_one]
  have h01 : a ^ 0 % pN = 1 := by rw [Nat.pow_zero]; decide
  have hsub : (pN - 1 % pN) % pN = pN - 1 := by decide
  have lx1 : x1 < 256 ^ 32 := h1 ▸ p_lt32 _
  have lx2 : x2 < 256 ^ 32 := h2 ▸ p_lt32 _
  have lx3 : x3 < 256 ^ 32 := h3 ▸ p_lt32 _
  have ly : y < 256 ^ 32 := hy ▸ p_lt32 _
  have lc : c < 256 ^ 32 := hc ▸ p_lt32 _
  have ld : d < 256 ^ 32 := hd ▸ p_lt32 _
  have hy0 : c = 0 → y = 0 := by intro h; rw [← hy, Nat.pow_mod, hc, h, Nat.zero_pow (by decide), Nat.zero_mod]
  have hy1 : c ≠ 0 → y = 1 := by intro h; rw [← hy]; exact fermat_p (by rw [hc]; exact h)
  have hq : ∀ n, n < 256 ^ 32 → ∀ w, (Op.equalIn 10000 25 (.agg (byts n).toArray) (.agg (byts n).toArray)).run Try.prog w = .ok true w := fun n hn w => eq_num (decide_eq_true rfl) hn hn w
  have q1 := Lib.hid (hq x1 lx1)
  have q2 := Lib.hid (hq d ld)
  have q3 := Lib.hid (hq c lc)
  have q4 := Lib.hid (hq 1 (by decide))
  have cs := Lib.hid (fun z hz w => fsmall_any z hz w)
  replace h1 := Lib.hid h1
  replace h2 := Lib.hid h2
  replace h3 := Lib.hid h3
  replace h4 := Lib.hid h4
  replace hy := Lib.hid hy
  replace hc := Lib.hid hc
  replace hd := Lib.hid hd
  replace hd2 := Lib.hid hd2
  replace hc1 := Lib.hid hc1
  replace h01 := Lib.hid h01
  replace hsub := Lib.hid hsub
  replace hand := Lib.hid hand
  replace hdiv := Lib.hid hdiv
  replace hbl := Lib.hid hbl
  clear hq
  go_enter Try.func15, Try.ntmps15
  go_upto_region 1 with fail
  refine wp_new1 (fun W hsz k1 kb => ?_)
  go_upto_region 1 with (first | (refine wpList_load_arr2 rfl _ _ rfl _ rfl (by kernel_rfl) _ (by assumption) (by first | (rw [lims_len]; kernel_rfl) | (rw [byts_len]; kernel_rfl) | (rw [us_len]; kernel_rfl) | kernel_rfl) ?_) | (refine wpList_store_arr rfl _ _ _ rfl _ _ rfl rfl _ (by first | assumption | exact Arr.new _ _ _) (by first | (rw [lims_len]; kernel_rfl) | (rw [byts_len]; kernel_rfl) | (rw [us_len]; kernel_rfl) | kernel_rfl) (by first | (rw [lims_len, lims_len]) | (rw [byts_len, byts_len]) | (rw [lims_len]; rfl) | (rw [byts_len]; rfl) | (rw [us_len, us_len]; rfl) | rfl) (by first | exact lims_one _ _ | exact byts_one _ | exact us_one _ | (intro v hv; simp at hv; rcases hv with rfl | rfl | rfl | rfl <;> rfl)) ?_))
  go_wp2_with (first | (refine wpList_load_arr2 rfl _ _ rfl _ rfl (by kernel_rfl) _ (by assumption) (by first | (rw [lims_len]; kernel_rfl) | (rw [byts_len]; kernel_rfl) | (rw [us_len]; kernel_rfl) | kernel_rfl) ?_) | (refine wpList_store_arr rfl _ _ _ rfl _ _ rfl rfl _ (by first | assumption | exact Arr.new _ _ _) (by first | (rw [lims_len]; kernel_rfl) | (rw [byts_len]; kernel_rfl) | (rw [us_len]; kernel_rfl) | kernel_rfl) (by first | (rw [lims_len, lims_len]) | (rw [byts_len, byts_len]) | (rw [lims_len]; rfl) | (rw [byts_len]; rfl) | (rw [us_len, us_len]; rfl) | rfl) (by first | exact lims_one _ _ | exact byts_one _ | exact us_one _ | (intro v hv; simp at hv; rcases hv with rfl | rfl | rfl | rfl <;> rfl)) ?_))
  refine (alive3_any _).mono ?_
  rintro e w_1 ⟨rfl, hb_1⟩
  have k1 := k1.below hb_1
  have kb := bel kb hb_1
  clear hb_1
  go_upto_region 3 with (first | (refine wpList_load_arr2 rfl _ _ rfl _ rfl (by kernel_rfl) _ (by assumption) (by first | (rw [lims_len]; kernel_rfl) | (rw [byts_len]; kernel_rfl) | (rw [us_len]; kernel_rfl) | kernel_rfl) ?_) | (refine wpList_store_arr rfl _ _ _ rfl _ _ rfl rfl _ (by first | assumption | exact Arr.new _ _ _) (by first | (rw [lims_len]; kernel_rfl) | (rw [byts_len]; kernel_rfl) | (rw [us_len]; kernel_rfl) | kernel_rfl) (by first | (rw [lims_len, lims_len]) | (rw [byts_len, byts_len]) | (rw [lims_len]; rfl) | (rw [byts_len]; rfl) | (rw [us_len, us_len]; rfl) | rfl) (by first | exact lims_one _ _ | exact byts_one _ | exact us_one _ | (intro v hv; simp at hv; rcases hv with rfl | rfl | rfl | rfl <;> rfl)) ?_))
  rw [hand.out, hdiv.out]
  have hg_k4_k1 := k1.lt
  refine code_new (fun w_2 k4 hnew => ?_)
  have k1 := k1.below hnew
  have kb := bel kb hnew
  clear hnew
  generalize (w_1).heap.size = g_k4 at k4 hg_k4_k1 ⊢
  have k4 : Arr w_2 g_k4 (byts (m + n)) := by
    have := k4
    rw [show byts (m + n) = (byts (m + n)).toArray.toList from rfl, hbl.out]
    exact this
  go_upto_region 3 with (first | (refine wpList_load_arr2 rfl _ _ rfl _ rfl (by kernel_rfl) _ (by assumption) (by first | (rw [lims_len]; kernel_rfl) | (rw [byts_len]; kernel_rfl) | (rw [us_len]; kernel_rfl) | kernel_rfl) ?_) | (refine wpList_store_arr rfl _ _ _ rfl _ _ rfl rfl _ (by first | assumption | exact Arr.new _ _ _) (by first | (rw [lims_len]; kernel_rfl) | (rw [byts_len]; kernel_rfl) | (rw [us_len]; kernel_rfl) | kernel_rfl) (by first | (rw [lims_len, lims_len]) | (rw [byts_len, byts_len]) | (rw [lims_len]; rfl) | (rw [byts_len]; rfl) | (rw [us_len, us_len]; rfl) | rfl) (by first | exact lims_one _ _ | exact byts_one _ | exact us_one _ | (intro v hv; simp at hv; rcases hv with rfl | rfl | rfl | rfl <;> rfl)) ?_))
  refine Tx.start (fun w' => Below (w_2).heap.size (w_2) w') 9999 14 rfl (by kernel_rfl) ?_
  have hS_3 : Below (w_2).heap.size (w_2) (World.drew w_2) := (Below.refl _ _).drew
  refine Tx.seg (A := ?_) 8 411 (by kernel_rfl) (by exact hS_3) [0, 1, 3, 4, 7, 8] (by kernel_rfl) ?_ ?_
  rotate_left
  · intro w' hB
    have e0 := k1.below hB
    have e1 := k4.below hB
    iterate 6 (first | (refine rd_skip rfl rfl ?_; simp only [Act.put, List.setIfInBounds_toArray, List.set_cons_zero, List.set_cons_succ]) | (refine rd_load_arr rfl rfl _ _ rfl _ rfl (by kernel_rfl) _ (by assumption) (by first | (rw [lims_len]; kernel_rfl) | (rw [byts_len]; kernel_rfl) | (rw [us_len]; kernel_rfl) | kernel_rfl) ?_; simp only [Act.put, List.setIfInBounds_toArray, List.set_cons_zero, List.set_cons_succ]) | (refine rd_take (v := ?_) rfl rfl ?_ ?_; rotate_left; (focus (go_simp; try (with_reducible rfl))); simp only [Act.put, List.setIfInBounds_toArray, List.set_cons_zero, List.set_cons_succ]))
    exact rd_nil
  refine Tx.eff 2 415 rfl (by decide +kernel) (fun K hK => ?_)
  go_simp
  refine (fpow_r h1 ha lmn _).mono ?_
  rintro e w_4 ⟨rfl, hb_4⟩
  have hS_4 := ext_trans hS_3 (Nat.le_refl _) hb_4
  refine hK (fun w' => Below (w_2).heap.size (w_2) w') _ _ hS_4 (fun _ h => h) ?_
  clear hK K hb_4 hS_3
  try simp only [Act.put, List.setIfInBounds_toArray, List.set_cons_zero, List.set_cons_succ]
  refine Tx.eff 5 447 rfl (by decide +kernel) (fun K hK => ?_)
  go_simp
  refine (cs.out m hm _).mono ?_
  rintro e w_5 ⟨rfl, hb_5⟩
  have hS_5 := ext_trans hS_4 (Nat.le_refl _) hb_5
  refine hK (fun w' => Below (w_2).heap.size (w_2) w') _ _ hS_5 (fun _ h => h) ?_
  clear hK K hb_5 hS_4
  try simp only [Act.put, List.setIfInBounds_toArray, List.set_cons_zero, List.set_cons_succ]
  refine Tx.eff 6 511 rfl (by decide +kernel) (fun K hK => ?_)
  go_simp
  refine (fpow_r h2 ha lm _).mono ?_
  rintro e w_6 ⟨rfl, hb_6⟩
  have hS_6 := ext_trans hS_5 (Nat.le_refl _) hb_6
  refine hK (fun w' => Below (w_2).heap.size (w_2) w') _ _ hS_6 (fun _ h => h) ?_
  clear hK K hb_6 hS_5
  try simp only [Act.put, List.setIfInBounds_toArray, List.set_cons_zero, List.set_cons_succ]
  refine Tx.eff 9 1023 rfl (by decide +kernel) (fun K hK => ?_)
  go_simp
  refine (cs.out n hn _).mono ?_
  rintro e w_7 ⟨rfl, hb_7⟩
  have hS_7 := ext_trans hS_6 (Nat.le_refl _) hb_7
  refine hK (fun w' => Below (w_2).heap.size (w_2) w') _ _ hS_7 (fun _ h => h) ?_
  clear hK K hb_7 hS_6
  try simp only [Act.put, List.setIfInBounds_toArray, List.set_cons_zero, List.set_cons_succ]
  refine Tx.eff 10 2047 rfl (by decide +kernel) (fun K hK => ?_)
  go_simp
  refine (fpow_r h3 ha ln _).mono ?_
  rintro e w_8 ⟨rfl, hb_8⟩
  have hS_8 := ext_trans hS_7 (Nat.le_refl _) hb_8
  refine hK (fun w' => Below (w_2).heap.size (w_2) w') _ _ hS_8 (fun _ h => h) ?_
  clear hK K hb_8 hS_7
  try simp only [Act.put, List.setIfInBounds_toArray, List.set_cons_zero, List.set_cons_succ]
  refine Tx.eff 11 4095 rfl (by decide +kernel) (fun K hK => ?_)
  go_simp
  refine (fmul_r h4 lx2 lx3 _).mono ?_
  rintro e w_9 ⟨rfl, hb_9⟩
  have hS_9 := ext_trans hS_8 (Nat.le_refl _) hb_9
  refine hK (fun w' => Below (w_2).heap.size (w_2) w') _ _ hS_9 (fun _ h => h) ?_
  clear hK K hb_9 hS_8
  try simp only [Act.put, List.setIfInBounds_toArray, List.set_cons_zero, List.set_cons_succ]
  refine Tx.seg (A := ?_) 0 16383 (by kernel_rfl) (by exact hS_9) [12, 13] (by kernel_rfl) ?_ ?_
  rotate_left
  · intro w' hB
    have q1 := q1.out w'
    iterate 2 (first | (refine rd_skip rfl rfl ?_; simp only [Act.put, List.setIfInBounds_toArray, List.set_cons_zero, List.set_cons_succ]) | (refine rd_load_arr rfl rfl _ _ rfl _ rfl (by kernel_rfl) _ (by assumption) (by first | (rw [lims_len]; kernel_rfl) | (rw [byts_len]; kernel_rfl) | (rw [us_len]; kernel_rfl) | kernel_rfl) ?_; simp only [Act.put, List.setIfInBounds_toArray, List.set_cons_zero, List.set_cons_succ]) | (refine rd_take (v := ?_) rfl rfl ?_ ?_; rotate_left; (focus (go_simp; try (with_reducible rfl))); simp only [Act.put, List.setIfInBounds_toArray, List.set_cons_zero, List.set_cons_succ]))
    exact rd_nil
  refine Tx.done (by kernel_rfl) ?_
  have k1 := k1.below hS_9
  have k4 := k4.below hS_9
  have kb := bel kb hS_9
  clear hS_9
  go_upto_region 4 with (first | (refine wpList_load_arr2 rfl _ _ rfl _ rfl (by kernel_rfl) _ (by assumption) (by first | (rw [lims_len]; kernel_rfl) | (rw [byts_len]; kernel_rfl) | (rw [us_len]; kernel_rfl) | kernel_rfl) ?_) | (refine wpList_store_arr rfl _ _ _ rfl _ _ rfl rfl _ (by first | assumption | exact Arr.new _ _ _) (by first | (rw [lims_len]; kernel_rfl) | (rw [byts_len]; kernel_rfl) | (rw [us_len]; kernel_rfl) | kernel_rfl) (by first | (rw [lims_len, lims_len]) | (rw [byts_len, byts_len]) | (rw [lims_len]; rfl) | (rw [byts_len]; rfl) | (rw [us_len, us_len]; rfl) | rfl) (by first | exact lims_one _ _ | exact byts_one _ | exact us_one _ | (intro v hv; simp at hv; rcases hv with rfl | rfl | rfl | rfl <;> rfl)) ?_))
  refine Tx.start (fun w' => Below (w_9).heap.size (w_9) w') 6 7 rfl (by kernel_rfl) ?_
  have hS_10 : Below (w_9).heap.size (w_9) (World.drew w_9) := (Below.refl _ _).drew
  refine Tx.seg (A := ?_) 5 3 (by kernel_rfl) (by exact hS_10) [0, 1] (by kernel_rfl) ?_ ?_
  rotate_left
  · intro w' hB
    have e0 := k1.below hB
    iterate 2 (first | (refine rd_skip rfl rfl ?_; simp only [Act.put, List.setIfInBounds_toArray, List.set_cons_zero, List.set_cons_succ]) | (refine rd_load_arr rfl rfl _ _ rfl _ rfl (by kernel_rfl) _ (by assumption) (by first | (rw [lims_len]; kernel_rfl) | (rw [byts_len]; kernel_rfl) | (rw [us_len]; kernel_rfl) | kernel_rfl) ?_; simp only [Act.put, List.setIfInBounds_toArray, List.set_cons_zero, List.set_cons_succ]) | (refine rd_take (v := ?_) rfl rfl ?_ ?_; rotate_left; (focus (go_simp; try (with_reducible rfl))); simp only [Act.put, List.setIfInBounds_toArray, List.set_cons_zero, List.set_cons_succ]))
    exact rd_nil
  refine Tx.poolB 1 63 [(2, 43), (3, 44), (4, 45), (5, 10)] [(false, []), (false, [(2, 43)]), (false, [(3, 44)]), (false, [])] [(2, Ph.is (.agg (byts 1).toArray)), (3, Ph.is (.agg (byts (pN - 1)).toArray)), (4, Ph.is (.agg (byts y).toArray)), (5, Ph.arr (w_9).heap.size (byts 0))] (by kernel_rfl) (by kernel_rfl) (by first | assumption | exact (Below.refl _ _).drew) ?_ ?_
  · refine ⟨⟨_, rfl, ?_⟩, ⟨_, rfl, ?_⟩, ⟨_, rfl, ?_⟩, ⟨_, rfl, ?_⟩, trivial⟩
    · intro vs w1 hS hE hD K hK
      clear hD
      simp only [fillL, Act.put, List.setIfInBounds_toArray, List.set_cons_zero, List.set_cons_succ] at hK ⊢
      go_simp
      refine (cs.out 1 (by decide) _).mono ?_
      rintro e w2 ⟨rfl, hb2⟩
      exact hK _ _ rfl hb2 nofun
    · intro vs w1 hS hE hD K hK
      obtain ⟨q2, -⟩ := hD
      simp only [fillL, Act.put, List.setIfInBounds_toArray, List.set_cons_zero, List.set_cons_succ] at hK ⊢
      rw [show vs 2 = _ from q2] at hK ⊢
      clear q2
      go_simp
      refine (fsub0_r hsub (by decide) _).mono ?_
      rintro e w2 ⟨rfl, hb2⟩
      exact hK _ _ rfl hb2 nofun
    · intro vs w1 hS hE hD K hK
      obtain ⟨q3, -⟩ := hD
      simp only [fillL, Act.put, List.setIfInBounds_toArray, List.set_cons_zero, List.set_cons_succ] at hK ⊢
      rw [show vs 3 = _ from q3] at hK ⊢
      clear q3
      go_simp
      refine (fpow_r hy ha (by decide) _).mono ?_
      rintro e w2 ⟨rfl, hb2⟩
      exact hK _ _ rfl hb2 nofun
    · intro vs w1 hS hE hD K hK
      clear hD
      simp only [fillL, Act.put, List.setIfInBounds_toArray, List.set_cons_zero, List.set_cons_succ] at hK ⊢
      go_simp
      exact hK _ _ ⟨_, rfl, Nat.le_trans (by first | exact Nat.le_refl _ | omega | (simp; omega)) hE.size, Arr.new _ _ _⟩ (below_alloc _ _) (fun _ => ⟨_, rfl, Nat.le_refl _⟩)
  intro vs w_p4_1093 hS_p4_1093 hE_p4_1093 hP hD
  obtain ⟨q2, q3, q4, q5, -⟩ := hP
  simp only [fillL, Act.put, List.setIfInBounds_toArray, List.set_cons_zero, List.set_cons_succ]
  rw [show vs 2 = _ from q2]
  clear q2
  rw [show vs 3 = _ from q3]
  clear q3
  rw [show vs 4 = _ from q4]
  clear q4
  obtain ⟨g5, e5, hg5, ha5⟩ := q5
  rw [e5]
  clear e5 hD vs
  have lt_k5_k1 := Nat.lt_of_lt_of_le k1.lt hg5
  have k1 := k1.below hS_p4_1093
  have kb := bel kb hS_p4_1093
  refine Tx.bar 127 rfl (by decide +kernel) (fun K hK => ?_)
  refine step_store_arr rfl _ _ _ rfl _ _ rfl rfl _ (by assumption) (by first | (rw [lims_len]; kernel_rfl) | (rw [byts_len]; kernel_rfl) | (rw [us_len]; kernel_rfl) | kernel_rfl) (by first | (rw [lims_len, lims_len]) | (rw [byts_len, byts_len]) | (rw [lims_len]; rfl) | (rw [byts_len]; rfl) | (rw [us_len, us_len]; rfl) | rfl) (by first | exact lims_one _ _ | exact byts_one _ | exact us_one _ | (intro v hv; simp at hv; rcases hv with rfl | rfl | rfl | rfl <;> rfl)) ?_
  refine hK (fun _ => True) 9999 _ _ ?_
  clear hK K
  try simp only [Act.put]
  try simp only [List.setIfInBounds_toArray, List.set_cons_zero, List.set_cons_succ]
  refine Tx.done (by kernel_rfl) ?_
  refine then_row ha5 (fun w_11 ha5 hoth hbel => ?_)
  have k1 := hoth _ _ (by omega) k1
  have kb := hbel _ _ (by omega) kb
  clear hoth hbel
  have k5 := ha5
  clear ha5
  generalize g5 = g_k5 at *
  go_upto_region 5 with (first | (refine wpList_load_arr2 rfl _ _ rfl _ rfl (by kernel_rfl) _ (by assumption) (by first | (rw [lims_len]; kernel_rfl) | (rw [byts_len]; kernel_rfl) | (rw [us_len]; kernel_rfl) | kernel_rfl) ?_) | (refine wpList_store_arr rfl _ _ _ rfl _ _ rfl rfl _ (by first | assumption | exact Arr.new _ _ _) (by first | (rw [lims_len]; kernel_rfl) | (rw [byts_len]; kernel_rfl) | (rw [us_len]; kernel_rfl) | kernel_rfl) (by first | (rw [lims_len, lims_len]) | (rw [byts_len, byts_len]) | (rw [lims_len]; rfl) | (rw [byts_len]; rfl) | (rw [us_len, us_len]; rfl) | rfl) (by first | exact lims_one _ _ | exact byts_one _ | exact us_one _ | (intro v hv; simp at hv; rcases hv with rfl | rfl | rfl | rfl <;> rfl)) ?_))
  go_wp2_with (first | (refine wpList_load_arr2 rfl _ _ rfl _ rfl (by kernel_rfl) _ (by assumption) (by first | (rw [lims_len]; kernel_rfl) | (rw [byts_len]; kernel_rfl) | (rw [us_len]; kernel_rfl) | kernel_rfl) ?_) | (refine wpList_store_arr rfl _ _ _ rfl _ _ rfl rfl _ (by first | assumption | exact Arr.new _ _ _) (by first | (rw [lims_len]; kernel_rfl) | (rw [byts_len]; kernel_rfl) | (rw [us_len]; kernel_rfl) | kernel_rfl) (by first | (rw [lims_len, lims_len]) | (rw [byts_len, byts_len]) | (rw [lims_len]; rfl) | (rw [byts_len]; rfl) | (rw [us_len, us_len]; rfl) | rfl) (by first | exact lims_one _ _ | exact byts_one _ | exact us_one _ | (intro v hv; simp at hv; rcases hv with rfl | rfl | rfl | rfl <;> rfl)) ?_))
  refine (fcanon_r hc ha _).mono ?_
  rintro e w_12 ⟨rfl, hb_12⟩
  have k1 := k1.below hb_12
  have k5 := k5.below hb_12
  have kb := bel kb hb_12
  clear hb_12
  go_upto_region 6 with (first | (refine wpList_load_arr2 rfl _ _ rfl _ rfl (by kernel_rfl) _ (by assumption) (by first | (rw [lims_len]; kernel_rfl) | (rw [byts_len]; kernel_rfl) | (rw [us_len]; kernel_rfl) | kernel_rfl) ?_) | (refine wpList_store_arr rfl _ _ _ rfl _ _ rfl rfl _ (by first | assumption | exact Arr.new _ _ _) (by first | (rw [lims_len]; kernel_rfl) | (rw [byts_len]; kernel_rfl) | (rw [us_len]; kernel_rfl) | kernel_rfl) (by first | (rw [lims_len, lims_len]) | (rw [byts_len, byts_len]) | (rw [lims_len]; rfl) | (rw [byts_len]; rfl) | (rw [us_len, us_len]; rfl) | rfl) (by first | exact lims_one _ _ | exact byts_one _ | exact us_one _ | (intro v hv; simp at hv; rcases hv with rfl | rfl | rfl | rfl <;> rfl)) ?_))
  have hg_k6_k1 := k1.lt
  have hg_k6_k5 := k5.lt
  refine code_new (fun w_13 k6 hnew => ?_)
  have k1 := k1.below hnew
  have k5 := k5.below hnew
  have kb := bel kb hnew
  clear hnew
  generalize (w_12).heap.size = g_k6 at k6 hg_k6_k1 hg_k6_k5 ⊢
  by_cases hz : c = 0
  · have hyz := hy0 hz
    subst hz
    subst hyz
    have q5 := Lib.hid (eq_num0 (m := 0) (b := true) (decide_eq_true rfl) (by decide))
    clear hy0 hy1
    go_upto_region 6 with (first | (refine wpList_load_arr2 rfl _ _ rfl _ rfl (by kernel_rfl) _ (by assumption) (by first | (rw [lims_len]; kernel_rfl) | (rw [byts_len]; kernel_rfl) | (rw [us_len]; kernel_rfl) | kernel_rfl) ?_) | (refine wpList_store_arr rfl _ _ _ rfl _ _ rfl rfl _ (by first | assumption | exact Arr.new _ _ _) (by first | (rw [lims_len]; kernel_rfl) | (rw [byts_len]; kernel_rfl) | (rw [us_len]; kernel_rfl) | kernel_rfl) (by first | (rw [lims_len, lims_len]) | (rw [byts_len, byts_len]) | (rw [lims_len]; rfl) | (rw [byts_len]; rfl) | (rw [us_len, us_len]; rfl) | rfl) (by first | exact lims_one _ _ | exact byts_one _ | exact us_one _ | (intro v hv; simp at hv; rcases hv with rfl | rfl | rfl | rfl <;> rfl)) ?_))
    refine Tx.start (fun w' => Below (w_13).heap.size (w_13) w') 9999 48 rfl (by kernel_rfl) ?_
    have hS_14 : Below (w_13).heap.size (w_13) (World.drew w_13) := (Below.refl _ _).drew
    refine Tx.seg (A := ?_) 40 831 (by kernel_rfl) (by exact hS_14) [0, 1, 2, 3, 4, 5, 8, 9] (by kernel_rfl) ?_ ?_
    rotate_left
    · intro w' hB
      have e0 := k1.below hB
      have e1 := k5.below hB
      have e2 := k6.below hB
      iterate 8 (first | (refine rd_skip rfl rfl ?_; simp only [Act.put, List.setIfInBounds_toArray, List.set_cons_zero, List.set_cons_succ]) | (refine rd_load_arr rfl rfl _ _ rfl _ rfl (by kernel_rfl) _ (by assumption) (by first | (rw [lims_len]; kernel_rfl) | (rw [byts_len]; kernel_rfl) | (rw [us_len]; kernel_rfl) | kernel_rfl) ?_; simp only [Act.put, List.setIfInBounds_toArray, List.set_cons_zero, List.set_cons_succ]) | (refine rd_take (v := ?_) rfl rfl ?_ ?_; rotate_left; (focus (go_simp; try (with_reducible rfl))); simp only [Act.put, List.setIfInBounds_toArray, List.set_cons_zero, List.set_cons_succ]))
      exact rd_nil
    refine Tx.eff 6 895 rfl (by decide +kernel) (fun K hK => ?_)
    go_simp
    refine (cs.out 2 (by decide) _).mono ?_
    rintro e w_15 ⟨rfl, hb_15⟩
    have hS_15 := ext_trans hS_14 (Nat.le_refl _) hb_15
    refine hK (fun w' => Below (w_13).heap.size (w_13) w') _ _ hS_15 (fun _ h => h) ?_
    clear hK K hb_15 hS_14
    try simp only [Act.put, List.setIfInBounds_toArray, List.set_cons_zero, List.set_cons_succ]
    refine Tx.eff 7 1023 rfl (by decide +kernel) (fun K hK => ?_)
    go_simp
    refine (fpow_r hd2 ha (by decide) _).mono ?_
    rintro e w_16 ⟨rfl, hb_16⟩
    have hS_16 := ext_trans hS_15 (Nat.le_refl _) hb_16
    refine hK (fun w' => Below (w_13).heap.size (w_13) w') _ _ hS_16 (fun _ h => h) ?_
    clear hK K hb_16 hS_15
    try simp only [Act.put, List.setIfInBounds_toArray, List.set_cons_zero, List.set_cons_succ]
    refine Tx.eff 10 2047 rfl (by decide +kernel) (fun K hK => ?_)
    go_simp
    refine (fmul_r hd ha ha _).mono ?_
    rintro e w_17 ⟨rfl, hb_17⟩
    have hS_17 := ext_trans hS_16 (Nat.le_refl _) hb_17
    refine hK (fun w' => Below (w_13).heap.size (w_13) w') _ _ hS_17 (fun _ h => h) ?_
    clear hK K hb_17 hS_16
    try simp only [Act.put, List.setIfInBounds_toArray, List.set_cons_zero, List.set_cons_succ]
    refine Tx.seg (A := ?_) 32 163839 (by kernel_rfl) (by exact hS_17) [11, 12, 13, 14, 17] (by kernel_rfl) ?_ ?_
    rotate_left
    · intro w' hB
      have e0 := k1.below hB
      have e1 := k5.below hB
      have e2 := k6.below hB
      have q1 := q2.out w'
      iterate 5 (first | (refine rd_skip rfl rfl ?_; simp only [Act.put, List.setIfInBounds_toArray, List.set_cons_zero, List.set_cons_succ]) | (refine rd_load_arr rfl rfl _ _ rfl _ rfl (by kernel_rfl) _ (by assumption) (by first | (rw [lims_len]; kernel_rfl) | (rw [byts_len]; kernel_rfl) | (rw [us_len]; kernel_rfl) | kernel_rfl) ?_; simp only [Act.put, List.setIfInBounds_toArray, List.set_cons_zero, List.set_cons_succ]) | (refine rd_take (v := ?_) rfl rfl ?_ ?_; rotate_left; (focus (go_simp; try (with_reducible rfl))); simp only [Act.put, List.setIfInBounds_toArray, List.set_cons_zero, List.set_cons_succ]))
      exact rd_nil
    refine Tx.eff 15 196607 rfl (by decide +kernel) (fun K hK => ?_)
    go_simp
    refine (cs.out 1 (by decide) _).mono ?_
    rintro e w_18 ⟨rfl, hb_18⟩
    have hS_18 := ext_trans hS_17 (Nat.le_refl _) hb_18
    refine hK (fun w' => Below (w_13).heap.size (w_13) w') _ _ hS_18 (fun _ h => h) ?_
    clear hK K hb_18 hS_17
    try simp only [Act.put, List.setIfInBounds_toArray, List.set_cons_zero, List.set_cons_succ]
    refine Tx.eff 16 262143 rfl (by decide +kernel) (fun K hK => ?_)
    go_simp
    refine (fpow_r hc1 ha (by decide) _).mono ?_
    rintro e w_19 ⟨rfl, hb_19⟩
    have hS_19 := ext_trans hS_18 (Nat.le_refl _) hb_19
    refine hK (fun w' => Below (w_13).heap.size (w_13) w') _ _ hS_19 (fun _ h => h) ?_
    clear hK K hb_19 hS_18
    try simp only [Act.put, List.setIfInBounds_toArray, List.set_cons_zero, List.set_cons_succ]
    refine Tx.seg (A := ?_) 25 8388607 (by kernel_rfl) (by exact hS_19) [18, 19, 20, 21, 22] (by kernel_rfl) ?_ ?_
    rotate_left
    · intro w' hB
      have e0 := k1.below hB
      have e1 := k5.below hB
      have e2 := k6.below hB
      have q2 := q3.out w'
      iterate 5 (first | (refine rd_skip rfl rfl ?_; simp only [Act.put, List.setIfInBounds_toArray, List.set_cons_zero, List.set_cons_succ]) | (refine rd_load_arr rfl rfl _ _ rfl _ rfl (by kernel_rfl) _ (by assumption) (by first | (rw [lims_len]; kernel_rfl) | (rw [byts_len]; kernel_rfl) | (rw [us_len]; kernel_rfl) | kernel_rfl) ?_; simp only [Act.put, List.setIfInBounds_toArray, List.set_cons_zero, List.set_cons_succ]) | (refine rd_take (v := ?_) rfl rfl ?_ ?_; rotate_left; (focus (go_simp; try (with_reducible rfl))); simp only [Act.put, List.setIfInBounds_toArray, List.set_cons_zero, List.set_cons_succ]))
      exact rd_nil
    refine Tx.eff 23 16777215 rfl (by decide +kernel) (fun K hK => ?_)
    go_simp
    refine (fpow0_r h01 ha _).mono ?_
    rintro e w_20 ⟨rfl, hb_20⟩
    have hS_20 := ext_trans hS_19 (Nat.le_refl _) hb_20
    refine hK (fun w' => Below (w_13).heap.size (w_13) w') _ _ hS_20 (fun _ h => h) ?_
    clear hK K hb_20 hS_19
    try simp only [Act.put, List.setIfInBounds_toArray, List.set_cons_zero, List.set_cons_succ]
    refine Tx.eff 24 33554431 rfl (by decide +kernel) (fun K hK => ?_)
    go_simp
    refine (cs.out 1 (by decide) _).mono ?_
    rintro e w_21 ⟨rfl, hb_21⟩
    have hS_21 := ext_trans hS_20 (Nat.le_refl _) hb_21
    refine hK (fun w' => Below (w_13).heap.size (w_13) w') _ _ hS_21 (fun _ h => h) ?_
    clear hK K hb_21 hS_20
    try simp only [Act.put, List.setIfInBounds_toArray, List.set_cons_zero, List.set_cons_succ]
    refine Tx.seg (A := ?_) 6 4398046511103 (by kernel_rfl) (by exact hS_21) [25, 26, 27, 28, 29, 30, 31, 32, 33, 34, 35, 36, 37, 38, 39, 40, 41] (by kernel_rfl) ?_ ?_
    rotate_left
    · intro w' hB
      have e0 := k1.below hB
      have e1 := k5.below hB
      have e2 := k6.below hB
      have q3 := q4.out w'
      have q4 := q5.out w'
      have q5 := q5.out w'
      iterate 17 (first | (refine rd_skip rfl rfl ?_; simp only [Act.put, List.setIfInBounds_toArray, List.set_cons_zero, List.set_cons_succ]) | (refine rd_load_arr rfl rfl _ _ rfl _ rfl (by kernel_rfl) _ (by assumption) (by first | (rw [lims_len]; kernel_rfl) | (rw [byts_len]; kernel_rfl) | (rw [us_len]; kernel_rfl) | kernel_rfl) ?_; simp only [Act.put, List.setIfInBounds_toArray, List.set_cons_zero, List.set_cons_succ]) | (refine rd_take (v := ?_) rfl rfl ?_ ?_; rotate_left; (focus (go_simp; try (with_reducible rfl))); simp only [Act.put, List.setIfInBounds_toArray, List.set_cons_zero, List.set_cons_succ]))
      exact rd_nil
    refine Tx.eff 42 8796093022207 rfl (by decide +kernel) (fun K hK => ?_)
    go_simp
    refine hK (fun w' => Below (w_13).heap.size (w_13) w') _ _ hS_21 (fun _ h => h) ?_
    clear hK K
    try simp only [Act.put, List.setIfInBounds_toArray, List.set_cons_zero, List.set_cons_succ]
    refine Tx.seg (A := ?_) 0 281474976710655 (by kernel_rfl) (by exact hS_21) [43, 44, 45, 46, 47] (by kernel_rfl) ?_ ?_
    rotate_left
    · intro w' hB
      iterate 5 (first | (refine rd_skip rfl rfl ?_; simp only [Act.put, List.setIfInBounds_toArray, List.set_cons_zero, List.set_cons_succ]) | (refine rd_load_arr rfl rfl _ _ rfl _ rfl (by kernel_rfl) _ (by assumption) (by first | (rw [lims_len]; kernel_rfl) | (rw [byts_len]; kernel_rfl) | (rw [us_len]; kernel_rfl) | kernel_rfl) ?_; simp only [Act.put, List.setIfInBounds_toArray, List.set_cons_zero, List.set_cons_succ]) | (refine rd_take (v := ?_) rfl rfl ?_ ?_; rotate_left; (focus (go_simp; try (with_reducible rfl))); simp only [Act.put, List.setIfInBounds_toArray, List.set_cons_zero, List.set_cons_succ]))
      exact rd_nil
    refine Tx.done (by kernel_rfl) ?_
    have k1 := k1.below hS_21
    have k5 := k5.below hS_21
    have k6 := k6.below hS_21
    have kb := bel kb hS_21
    clear hS_21
    go_wp2_with fail
    go_ret
    exact ⟨rfl, kb⟩
  · have hyz := hy1 hz
    subst hyz
    have q5 := Lib.hid (eq_num0 (b := false) (decide_eq_false hz) lc)
    replace hz := Lib.hid hz
    clear hy0 hy1
    go_upto_region 6 with (first | (refine wpList_load_arr2 rfl _ _ rfl _ rfl (by kernel_rfl) _ (by assumption) (by first | (rw [lims_len]; kernel_rfl) | (rw [byts_len]; kernel_rfl) | (rw [us_len]; kernel_rfl) | kernel_rfl) ?_) | (refine wpList_store_arr rfl _ _ _ rfl _ _ rfl rfl _ (by first | assumption | exact Arr.new _ _ _) (by first | (rw [lims_len]; kernel_rfl) | (rw [byts_len]; kernel_rfl) | (rw [us_len]; kernel_rfl) | kernel_rfl) (by first | (rw [lims_len, lims_len]) | (rw [byts_len, byts_len]) | (rw [lims_len]; rfl) | (rw [byts_len]; rfl) | (rw [us_len, us_len]; rfl) | rfl) (by first | exact lims_one _ _ | exact byts_one _ | exact us_one _ | (intro v hv; simp at hv; rcases hv with rfl | rfl | rfl | rfl <;> rfl)) ?_))
    refine Tx.start (fun w' => Below (w_13).heap.size (w_13) w') 9999 48 rfl (by kernel_rfl) ?_
    have hS_22 : Below (w_13).heap.size (w_13) (World.drew w_13) := (Below.refl _ _).drew
    refine Tx.seg (A := ?_) 40 831 (by kernel_rfl) (by exact hS_22) [0, 1, 2, 3, 4, 5, 8, 9] (by kernel_rfl) ?_ ?_
    rotate_left
    · intro w' hB
      have e0 := k1.below hB
      have e1 := k5.below hB
      have e2 := k6.below hB
      iterate 8 (first | (refine rd_skip rfl rfl ?_; simp only [Act.put, List.setIfInBounds_toArray, List.set_cons_zero, List.set_cons_succ]) | (refine rd_load_arr rfl rfl _ _ rfl _ rfl (by kernel_rfl) _ (by assumption) (by first | (rw [lims_len]; kernel_rfl) | (rw [byts_len]; kernel_rfl) | (rw [us_len]; kernel_rfl) | kernel_rfl) ?_; simp only [Act.put, List.setIfInBounds_toArray, List.set_cons_zero, List.set_cons_succ]) | (refine rd_take (v := ?_) rfl rfl ?_ ?_; rotate_left; (focus (go_simp; try (with_reducible rfl))); simp only [Act.put, List.setIfInBounds_toArray, List.set_cons_zero, List.set_cons_succ]))
      exact rd_nil
    refine Tx.eff 6 895 rfl (by decide +kernel) (fun K hK => ?_)
    go_simp
    refine (cs.out 2 (by decide) _).mono ?_
    rintro e w_23 ⟨rfl, hb_23⟩
    have hS_23 := ext_trans hS_22 (Nat.le_refl _) hb_23
    refine hK (fun w' => Below (w_13).heap.size (w_13) w') _ _ hS_23 (fun _ h => h) ?_
    clear hK K hb_23 hS_22
    try simp only [Act.put, List.setIfInBounds_toArray, List.set_cons_zero, List.set_cons_succ]
    refine Tx.eff 7 1023 rfl (by decide +kernel) (fun K hK => ?_)
    go_simp
    refine (fpow_r hd2 ha (by decide) _).mono ?_
    rintro e w_24 ⟨rfl, hb_24⟩
    have hS_24 := ext_trans hS_23 (Nat.le_refl _) hb_24
    refine hK (fun w' => Below (w_13).heap.size (w_13) w') _ _ hS_24 (fun _ h => h) ?_
    clear hK K hb_24 hS_23
    try simp only [Act.put, List.setIfInBounds_toArray, List.set_cons_zero, List.set_cons_succ]
    refine Tx.eff 10 2047 rfl (by decide +kernel) (fun K hK => ?_)
    go_simp
    refine (fmul_r hd ha ha _).mono ?_
    rintro e w_25 ⟨rfl, hb_25⟩
    have hS_25 := ext_trans hS_24 (Nat.le_refl _) hb_25
    refine hK (fun w' => Below (w_13).heap.size (w_13) w') _ _ hS_25 (fun _ h => h) ?_
    clear hK K hb_25 hS_24
    try simp only [Act.put, List.setIfInBounds_toArray, List.set_cons_zero, List.set_cons_succ]
    refine Tx.seg (A := ?_) 32 163839 (by kernel_rfl) (by exact hS_25) [11, 12, 13, 14, 17] (by kernel_rfl) ?_ ?_
    rotate_left
    · intro w' hB
      have e0 := k1.below hB
      have e1 := k5.below hB
      have e2 := k6.below hB
      have q1 := q2.out w'
      iterate 5 (first | (refine rd_skip rfl rfl ?_; simp only [Act.put, List.setIfInBounds_toArray, List.set_cons_zero, List.set_cons_succ]) | (refine rd_load_arr rfl rfl _ _ rfl _ rfl (by kernel_rfl) _ (by assumption) (by first | (rw [lims_len]; kernel_rfl) | (rw [byts_len]; kernel_rfl) | (rw [us_len]; kernel_rfl) | kernel_rfl) ?_; simp only [Act.put, List.setIfInBounds_toArray, List.set_cons_zero, List.set_cons_succ]) | (refine rd_take (v := ?_) rfl rfl ?_ ?_; rotate_left; (focus (go_simp; try (with_reducible rfl))); simp only [Act.put, List.setIfInBounds_toArray, List.set_cons_zero, List.set_cons_succ]))
      exact rd_nil
    refine Tx.eff 15 196607 rfl (by decide +kernel) (fun K hK => ?_)
    go_simp
    refine (cs.out 1 (by decide) _).mono ?_
    rintro e w_26 ⟨rfl, hb_26⟩
    have hS_26 := ext_trans hS_25 (Nat.le_refl _) hb_26
    refine hK (fun w' => Below (w_13).heap.size (w_13) w') _ _ hS_26 (fun _ h => h) ?_
    clear hK K hb_26 hS_25
    try simp only [Act.put, List.setIfInBounds_toArray, List.set_cons_zero, List.set_cons_succ]
    refine Tx.eff 16 262143 rfl (by decide +kernel) (fun K hK => ?_)
    go_simp
    refine (fpow_r hc1 ha (by decide) _).mono ?_
    rintro e w_27 ⟨rfl, hb_27⟩
    have hS_27 := ext_trans hS_26 (Nat.le_refl _) hb_27
    refine hK (fun w' => Below (w_13).heap.size (w_13) w') _ _ hS_27 (fun _ h => h) ?_
    clear hK K hb_27 hS_26
    try simp only [Act.put, List.setIfInBounds_toArray, List.set_cons_zero, List.set_cons_succ]
    refine Tx.seg (A := ?_) 25 8388607 (by kernel_rfl) (by exact hS_27) [18, 19, 20, 21, 22] (by kernel_rfl) ?_ ?_
    rotate_left
    · intro w' hB
      have e0 := k1.below hB
      have e1 := k5.below hB
      have e2 := k6.below hB
      have q2 := q3.out w'
      iterate 5 (first | (refine rd_skip rfl rfl ?_; simp only [Act.put, List.setIfInBounds_toArray, List.set_cons_zero, List.set_cons_succ]) | (refine rd_load_arr rfl rfl _ _ rfl _ rfl (by kernel_rfl) _ (by assumption) (by first | (rw [lims_len]; kernel_rfl) | (rw [byts_len]; kernel_rfl) | (rw [us_len]; kernel_rfl) | kernel_rfl) ?_; simp only [Act.put, List.setIfInBounds_toArray, List.set_cons_zero, List.set_cons_succ]) | (refine rd_take (v := ?_) rfl rfl ?_ ?_; rotate_left; (focus (go_simp; try (with_reducible rfl))); simp only [Act.put, List.setIfInBounds_toArray, List.set_cons_zero, List.set_cons_succ]))
      exact rd_nil
    refine Tx.eff 23 16777215 rfl (by decide +kernel) (fun K hK => ?_)
    go_simp
    refine (fpow0_r h01 ha _).mono ?_
    rintro e w_28 ⟨rfl, hb_28⟩
    have hS_28 := ext_trans hS_27 (Nat.le_refl _) hb_28
    refine hK (fun w' => Below (w_13).heap.size (w_13) w') _ _ hS_28 (fun _ h => h) ?_
    clear hK K hb_28 hS_27
    try simp only [Act.put, List.setIfInBounds_toArray, List.set_cons_zero, List.set_cons_succ]
    refine Tx.eff 24 33554431 rfl (by decide +kernel) (fun K hK => ?_)
    go_simp
    refine (cs.out 1 (by decide) _).mono ?_
    rintro e w_29 ⟨rfl, hb_29⟩
    have hS_29 := ext_trans hS_28 (Nat.le_refl _) hb_29
    refine hK (fun w' => Below (w_13).heap.size (w_13) w') _ _ hS_29 (fun _ h => h) ?_
    clear hK K hb_29 hS_28
    try simp only [Act.put, List.setIfInBounds_toArray, List.set_cons_zero, List.set_cons_succ]
    refine Tx.seg (A := ?_) 6 4398046511103 (by kernel_rfl) (by exact hS_29) [25, 26, 27, 28, 29, 30, 31, 32, 33, 34, 35, 36, 37, 38, 39, 40, 41] (by kernel_rfl) ?_ ?_
    rotate_left
    · intro w' hB
      have e0 := k1.below hB
      have e1 := k5.below hB
      have e2 := k6.below hB
      have q3 := q4.out w'
      have q4 := q5.out w'
      have q6 := q5.out w'
      iterate 17 (first | (refine rd_skip rfl rfl ?_; simp only [Act.put, List.setIfInBounds_toArray, List.set_cons_zero, List.set_cons_succ]) | (refine rd_load_arr rfl rfl _ _ rfl _ rfl (by kernel_rfl) _ (by assumption) (by first | (rw [lims_len]; kernel_rfl) | (rw [byts_len]; kernel_rfl) | (rw [us_len]; kernel_rfl) | kernel_rfl) ?_; simp only [Act.put, List.setIfInBounds_toArray, List.set_cons_zero, List.set_cons_succ]) | (refine rd_take (v := ?_) rfl rfl ?_ ?_; rotate_left; (focus (go_simp; try (with_reducible rfl))); simp only [Act.put, List.setIfInBounds_toArray, List.set_cons_zero, List.set_cons_succ]))
      exact rd_nil
    refine Tx.eff 42 8796093022207 rfl (by decide +kernel) (fun K hK => ?_)
    go_simp
    refine (cs.out 1 (by decide) _).mono ?_
    rintro e w_30 ⟨rfl, hb_30⟩
    have hS_30 := ext_trans hS_29 (Nat.le_refl _) hb_30
    refine hK (fun w' => Below (w_13).heap.size (w_13) w') _ _ hS_30 (fun _ h => h) ?_
    clear hK K hb_30 hS_29
    try simp only [Act.put, List.setIfInBounds_toArray, List.set_cons_zero, List.set_cons_succ]
    refine Tx.seg (A := ?_) 0 281474976710655 (by kernel_rfl) (by exact hS_30) [43, 44, 45, 46, 47] (by kernel_rfl) ?_ ?_
    rotate_left
    · intro w' hB
      have q7 := q4.out w'
      iterate 5 (first | (refine rd_skip rfl rfl ?_; simp only [Act.put, List.setIfInBounds_toArray, List.set_cons_zero, List.set_cons_succ]) | (refine rd_load_arr rfl rfl _ _ rfl _ rfl (by kernel_rfl) _ (by assumption) (by first | (rw [lims_len]; kernel_rfl) | (rw [byts_len]; kernel_rfl) | (rw [us_len]; kernel_rfl) | kernel_rfl) ?_; simp only [Act.put, List.setIfInBounds_toArray, List.set_cons_zero, List.set_cons_succ]) | (refine rd_take (v := ?_) rfl rfl ?_ ?_; rotate_left; (focus (go_simp; try (with_reducible rfl))); simp only [Act.put, List.setIfInBounds_toArray, List.set_cons_zero, List.set_cons_succ]))
      exact rd_nil
    refine Tx.done (by kernel_rfl) ?_
    have k1 := k1.below hS_30
    have k5 := k5.below hS_30
    have k6 := k6.below hS_30
    have kb := bel kb hS_30
    clear hS_30
    go_wp2_with fail
    go_ret
    exact ⟨rfl, kb⟩

end Go.Proofs.Ytdggikbaemigbaa
