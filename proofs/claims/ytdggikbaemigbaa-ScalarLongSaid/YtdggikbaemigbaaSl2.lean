/- The walk of ScalarRules. -/
import Derived.Test.YtdggikbaemigbaaSl1
import Derived.Test.YtdggikbaemigbaaInN
namespace Go.Proofs.Ytdggikbaemigbaa
open Go.RowKit

theorem byts_u8s (a : Nat) : byts a = u8s ((digs 256 32 a).map UInt8.ofNat) := by
  simp only [byts, u8s, List.map_map]
  apply List.map_congr_left
  intro x hx
  have := digs_lt 256 32 a (by decide) x hx
  simp
  omega

theorem val_u8s (a : Nat) (ha : a < 256 ^ 32) : val 256 ((((digs 256 32 a).map UInt8.ofNat).take 64).map (·.toNat)) = a := by
  rw [List.take_of_length_le (by simp [digs_len]), List.map_map]
  have e : List.map ((fun x => x.toNat) ∘ UInt8.ofNat) (digs 256 32 a) = digs 256 32 a := by
    conv => rhs; rw [← List.map_id (digs 256 32 a)]
    apply List.map_congr_left
    intro x hx
    have := digs_lt 256 32 a (by decide) x hx
    simp
    omega
  rw [e, val_digs, Nat.mod_eq_of_lt ha]

/-- Reduce of a whole Num. -/
theorem scReduceArr (a : Nat) (ha : a < 256 ^ 32) (g : Nat) (w : World) (h : Arr w g (byts a)) :
    Calls Try.prog 27 #[.slice (some ⟨g, 0, none⟩) 32 32] w fun e w' => e = .returned (.agg (byts (a % qN)).toArray) ∧ Below w.heap.size w w' := by
  have hs := Sl.of_arr h (by rw [byts_len]; decide)
  rw [byts_len, byts_u8s] at hs
  have := scReduce_any _ _ _ _ w hs
  rwa [val_u8s a ha] at this

theorem scMulOne (a : Nat) (ha : a < 256 ^ 32) (w : World) :
    Calls Try.prog 36 #[.agg (byts a).toArray, .agg #[.int .u8 1, .int .u8 0, .int .u8 0, .int .u8 0, .int .u8 0, .int .u8 0, .int .u8 0, .int .u8 0, .int .u8 0, .int .u8 0, .int .u8 0, .int .u8 0, .int .u8 0, .int .u8 0, .int .u8 0, .int .u8 0, .int .u8 0, .int .u8 0, .int .u8 0, .int .u8 0, .int .u8 0, .int .u8 0, .int .u8 0, .int .u8 0, .int .u8 0, .int .u8 0, .int .u8 0, .int .u8 0, .int .u8 0, .int .u8 0, .int .u8 0, .int .u8 0]] w fun e w' => e = .returned (.agg (byts (a * 1 % qN)).toArray) ∧ Below w.heap.size w w' := scMul_any a 1 ha (by decide) w
theorem scAddZero (a : Nat) (ha : a < 256 ^ 32) (w : World) :
    Calls Try.prog 29 #[.agg (byts a).toArray, .agg #[.int .u8 0, .int .u8 0, .int .u8 0, .int .u8 0, .int .u8 0, .int .u8 0, .int .u8 0, .int .u8 0, .int .u8 0, .int .u8 0, .int .u8 0, .int .u8 0, .int .u8 0, .int .u8 0, .int .u8 0, .int .u8 0, .int .u8 0, .int .u8 0, .int .u8 0, .int .u8 0, .int .u8 0, .int .u8 0, .int .u8 0, .int .u8 0, .int .u8 0, .int .u8 0, .int .u8 0, .int .u8 0, .int .u8 0, .int .u8 0, .int .u8 0, .int .u8 0]] w fun e w' => e = .returned (.agg (byts ((a + 0) % qN)).toArray) ∧ Below w.heap.size w w' := scAdd_any a 0 ha (by decide) w

theorem scAdd_r {a b r : Nat} (hr : Hid ((a + b) % qN = r)) (ha : a < 256 ^ 32) (hb : b < 256 ^ 32) (w : World) :
    Calls Try.prog 29 #[.agg (byts a).toArray, .agg (byts b).toArray] w fun e w' => e = .returned (.agg (byts r).toArray) ∧ Below w.heap.size w w' := by rw [← hr.out]; exact scAdd_any a b ha hb w
theorem scMul_r {a b r : Nat} (hr : Hid (a * b % qN = r)) (ha : a < 256 ^ 32) (hb : b < 256 ^ 32) (w : World) :
    Calls Try.prog 36 #[.agg (byts a).toArray, .agg (byts b).toArray] w fun e w' => e = .returned (.agg (byts r).toArray) ∧ Below w.heap.size w w' := by rw [← hr.out]; exact scMul_any a b ha hb w
theorem scReduceArr_r {a r : Nat} (hr : Hid (a % qN = r)) (ha : a < 256 ^ 32) {g : Nat} {w : World} (h : Arr w g (byts a)) :
    Calls Try.prog 27 #[.slice (some ⟨g, 0, none⟩) 32 32] w fun e w' => e = .returned (.agg (byts r).toArray) ∧ Below w.heap.size w w' := by rw [← hr.out]; exact scReduceArr a ha g w h
theorem scMulOne_r {a r : Nat} (hr : Hid (a % qN = r)) (ha : a < 256 ^ 32) (w : World) :
    Calls Try.prog 36 #[.agg (byts a).toArray, .agg #[.int .u8 1, .int .u8 0, .int .u8 0, .int .u8 0, .int .u8 0, .int .u8 0, .int .u8 0, .int .u8 0, .int .u8 0, .int .u8 0, .int .u8 0, .int .u8 0, .int .u8 0, .int .u8 0, .int .u8 0, .int .u8 0, .int .u8 0, .int .u8 0, .int .u8 0, .int .u8 0, .int .u8 0, .int .u8 0, .int .u8 0, .int .u8 0, .int .u8 0, .int .u8 0, .int .u8 0, .int .u8 0, .int .u8 0, .int .u8 0, .int .u8 0, .int .u8 0]] w fun e w' => e = .returned (.agg (byts r).toArray) ∧ Below w.heap.size w w' := by rw [← hr.out]; have := scMulOne a ha w; rwa [Nat.mul_one] at this
theorem scAddZero_r {a r : Nat} (hr : Hid (a % qN = r)) (ha : a < 256 ^ 32) (w : World) :
    Calls Try.prog 29 #[.agg (byts a).toArray, .agg #[.int .u8 0, .int .u8 0, .int .u8 0, .int .u8 0, .int .u8 0, .int .u8 0, .int .u8 0, .int .u8 0, .int .u8 0, .int .u8 0, .int .u8 0, .int .u8 0, .int .u8 0, .int .u8 0, .int .u8 0, .int .u8 0, .int .u8 0, .int .u8 0, .int .u8 0, .int .u8 0, .int .u8 0, .int .u8 0, .int .u8 0, .int .u8 0, .int .u8 0, .int .u8 0, .int .u8 0, .int .u8 0, .int .u8 0, .int .u8 0, .int .u8 0, .int .u8 0]] w fun e w' => e = .returned (.agg (byts r).toArray) ∧ Below w.heap.size w w' := by rw [← hr.out]; have := scAddZero a ha w; rwa [Nat.add_zero] at this

theorem mod_q_lt (n : Nat) : n % qN < 256 ^ 32 := Nat.lt_trans (Nat.mod_lt _ qN_pos) (by decide)

/-- Equal numbers. -/
theorem eq_true (m n : Nat) (h : m = n) (hm : m < 256 ^ 32) (w : World) : (Op.equalIn 10000 25 (.agg (byts m).toArray) (.agg (byts n).toArray)).run Try.prog w = .ok true w := by
  rw [eq_byts m n hm (h ▸ hm) w, decide_eq_true h]

set_option maxHeartbeats 2000000 in
set_option maxRecDepth 100000 in
theorem rules_any (a b c : Nat) (w : World) (ha : a < 256 ^ 32) (hb : b < 256 ^ 32) (hc : c < 256 ^ 32) :
    Calls Try.prog 7 #[.agg (byts a).toArray, .agg (byts b).toArray, .agg (byts c).toArray] w fun e w' => e = .returned (.bool true) ∧ Below w.heap.size w w' := by
  obtain ⟨n1, g1⟩ : ∃ r, (b + c) % qN = r := ⟨_, rfl⟩
  obtain ⟨n2, g2⟩ : ∃ r, a * n1 % qN = r := ⟨_, rfl⟩
  obtain ⟨n3, g3⟩ : ∃ r, a * b % qN = r := ⟨_, rfl⟩
  obtain ⟨n4, g4⟩ : ∃ r, a * c % qN = r := ⟨_, rfl⟩
  obtain ⟨n6, g6⟩ : ∃ r, (a + b) % qN = r := ⟨_, rfl⟩
  obtain ⟨n7, g7⟩ : ∃ r, a % qN = r := ⟨_, rfl⟩
  have g5 : (n3 + n4) % qN = n2 := by
    rw [← g2, ← g1, ← g3, ← g4, ← Nat.add_mod, ← Nat.mul_add, Nat.mul_mod a ((b + c) % qN), Nat.mod_mod, ← Nat.mul_mod]
  have l1 : n1 < 256 ^ 32 := g1 ▸ mod_q_lt _
  have l2 : n2 < 256 ^ 32 := g2 ▸ mod_q_lt _
  have l3 : n3 < 256 ^ 32 := g3 ▸ mod_q_lt _
  have l4 : n4 < 256 ^ 32 := g4 ▸ mod_q_lt _
  have l6 : n6 < 256 ^ 32 := g6 ▸ mod_q_lt _
  have l7 : n7 < 256 ^ 32 := g7 ▸ mod_q_lt _
  have hs : ∀ n, n < 256 ^ 32 → ∀ w, (Op.equalIn 10000 25 (.agg (byts n).toArray) (.agg (byts n).toArray)).run Try.prog w = .ok true w := fun n hn => eq_true n n rfl hn
  have q1 := Lib.hid (hs n2 l2)
  have q2 := Lib.hid (hs n3 l3)
  have q3 := Lib.hid (hs n6 l6)
  have q4 := Lib.hid (hs n7 l7)
  have q6 := Lib.hid (eq_byts n7 a l7 ha)
  have q7 : ((decide (n7 = a)) == (decide (a < qN))) = true := by
    have : (n7 = a) ↔ a < qN := ⟨fun h => by rw [← h, ← g7]; exact Nat.mod_lt _ qN_pos, fun h => by rw [← g7, Nat.mod_eq_of_lt h]⟩
    simp [this]
  have q7 := Lib.hid q7
  have g8 : b * a % qN = n3 := by rw [Nat.mul_comm]; exact g3
  have g9 : (b + a) % qN = n6 := by rw [Nat.add_comm]; exact g6
  have g1' := Lib.hid g1
  have g2' := Lib.hid g2
  have g3' := Lib.hid g3
  have g4' := Lib.hid g4
  have g5' := Lib.hid g5
  have g6' := Lib.hid g6
  have g7' := Lib.hid g7
  have g8' := Lib.hid g8
  have g9' := Lib.hid g9
  clear g1 g2 g3 g4 g5 g6 g7 g8 g9 hs
  go_enter Try.func7, Try.ntmps7
  go_upto_region 1 with fail
  refine wp_new3 (fun W hsz h1 h2 h3 hb0 => ?_)
  go_wp2_with fail
  refine (alive4_any _).mono ?_
  rintro e w1 ⟨rfl, hb1⟩
  have k1 : Arr w1 _ (byts a) := Arr.below h1 hb1
  have k2 : Arr w1 _ (byts b) := Arr.below h2 hb1
  have k3 : Arr w1 _ (byts c) := Arr.below h3 hb1
  have kb := bel hb0 hb1
  clear h1 h2 h3 hb0 hb1 hsz
  go_upto_region 2 with fail
  refine Tx.start (fun w' => Below (w1).heap.size (w1) w') 9999 14 rfl (by kernel_rfl) ?_
  have hS_1 : Below (w1).heap.size (w1) (World.drew w1) := (Below.refl _ _).drew
  refine Tx.seg (A := ?_) 7 871 (by kernel_rfl) (by exact hS_1) [0, 1, 2, 5, 6, 8, 9] (by kernel_rfl) ?_ ?_
  rotate_left
  · intro w' hB
    have e1 := k1.below hB
    have e2 := k2.below hB
    have e3 := k3.below hB
    iterate 7 (first | (refine rd_skip rfl rfl ?_; simp only [Act.put, List.setIfInBounds_toArray, List.set_cons_zero, List.set_cons_succ]) | (refine rd_load_arr rfl rfl _ _ rfl _ rfl (by kernel_rfl) _ (by assumption) (by first | (rw [lims_len]; kernel_rfl) | (rw [byts_len]; kernel_rfl) | (rw [us_len]; kernel_rfl) | kernel_rfl) ?_; simp only [Act.put, List.setIfInBounds_toArray, List.set_cons_zero, List.set_cons_succ]) | (refine rd_take (v := ?_) rfl rfl ?_ ?_; rotate_left; (focus (go_simp; try (with_reducible rfl))); simp only [Act.put, List.setIfInBounds_toArray, List.set_cons_zero, List.set_cons_succ]) | (refine rd_take (v := ?_) rfl rfl ?_ ?_; rotate_left; (focus (try go_simp); fail)))
    exact rd_nil
  refine Tx.eff 3 879 rfl (by decide +kernel) (fun K hK => ?_)
  go_simp
  refine (scAdd_r g1' hb hc _).mono ?_
  rintro e w_2 ⟨rfl, hb_2⟩
  have hS_2 := ext_trans hS_1 (Nat.le_refl _) hb_2
  refine hK (fun w' => Below (w1).heap.size (w1) w') _ _ hS_2 (fun _ h => h) ?_
  clear hK K hb_2 hS_1
  try simp only [Act.put, List.setIfInBounds_toArray, List.set_cons_zero, List.set_cons_succ]
  refine Tx.eff 4 895 rfl (by decide +kernel) (fun K hK => ?_)
  go_simp
  refine (scMul_r g2' ha l1 _).mono ?_
  rintro e w_3 ⟨rfl, hb_3⟩
  have hS_3 := ext_trans hS_2 (Nat.le_refl _) hb_3
  refine hK (fun w' => Below (w1).heap.size (w1) w') _ _ hS_3 (fun _ h => h) ?_
  clear hK K hb_3 hS_2
  try simp only [Act.put, List.setIfInBounds_toArray, List.set_cons_zero, List.set_cons_succ]
  refine Tx.eff 7 1023 rfl (by decide +kernel) (fun K hK => ?_)
  go_simp
  refine (scMul_r g3' ha hb _).mono ?_
  rintro e w_4 ⟨rfl, hb_4⟩
  have hS_4 := ext_trans hS_3 (Nat.le_refl _) hb_4
  refine hK (fun w' => Below (w1).heap.size (w1) w') _ _ hS_4 (fun _ h => h) ?_
  clear hK K hb_4 hS_3
  try simp only [Act.put, List.setIfInBounds_toArray, List.set_cons_zero, List.set_cons_succ]
  refine Tx.eff 10 2047 rfl (by decide +kernel) (fun K hK => ?_)
  go_simp
  refine (scMul_r g4' ha hc _).mono ?_
  rintro e w_5 ⟨rfl, hb_5⟩
  have hS_5 := ext_trans hS_4 (Nat.le_refl _) hb_5
  refine hK (fun w' => Below (w1).heap.size (w1) w') _ _ hS_5 (fun _ h => h) ?_
  clear hK K hb_5 hS_4
  try simp only [Act.put, List.setIfInBounds_toArray, List.set_cons_zero, List.set_cons_succ]
  refine Tx.eff 11 4095 rfl (by decide +kernel) (fun K hK => ?_)
  go_simp
  refine (scAdd_r g5' l3 l4 _).mono ?_
  rintro e w_6 ⟨rfl, hb_6⟩
  have hS_6 := ext_trans hS_5 (Nat.le_refl _) hb_6
  refine hK (fun w' => Below (w1).heap.size (w1) w') _ _ hS_6 (fun _ h => h) ?_
  clear hK K hb_6 hS_5
  try simp only [Act.put, List.setIfInBounds_toArray, List.set_cons_zero, List.set_cons_succ]
  refine Tx.seg (A := ?_) 0 16383 (by kernel_rfl) (by exact hS_6) [12, 13] (by kernel_rfl) ?_ ?_
  rotate_left
  · intro w' hB
    have e1 := q1.out w'
    iterate 2 (first | (refine rd_skip rfl rfl ?_; simp only [Act.put, List.setIfInBounds_toArray, List.set_cons_zero, List.set_cons_succ]) | (refine rd_load_arr rfl rfl _ _ rfl _ rfl (by kernel_rfl) _ (by assumption) (by first | (rw [lims_len]; kernel_rfl) | (rw [byts_len]; kernel_rfl) | (rw [us_len]; kernel_rfl) | kernel_rfl) ?_; simp only [Act.put, List.setIfInBounds_toArray, List.set_cons_zero, List.set_cons_succ]) | (refine rd_take (v := ?_) rfl rfl ?_ ?_; rotate_left; (focus (go_simp; try (with_reducible rfl))); simp only [Act.put, List.setIfInBounds_toArray, List.set_cons_zero, List.set_cons_succ]) | (refine rd_take (v := ?_) rfl rfl ?_ ?_; rotate_left; (focus (try go_simp); fail)))
    exact rd_nil
  refine Tx.done (by kernel_rfl) ?_
  have k1 := k1.below hS_6
  have k2 := k2.below hS_6
  have k3 := k3.below hS_6
  have kb := bel kb hS_6
  clear hS_6
  go_upto_region 3 with fail
  refine Tx.start (fun w' => Below (w_6).heap.size (w_6) w') 9999 17 rfl (by kernel_rfl) ?_
  have hS_7 : Below (w_6).heap.size (w_6) (World.drew w_6) := (Below.refl _ _).drew
  refine Tx.seg (A := ?_) 13 27 (by kernel_rfl) (by exact hS_7) [0, 1, 3, 4] (by kernel_rfl) ?_ ?_
  rotate_left
  · intro w' hB
    have e1 := k1.below hB
    have e2 := k2.below hB
    iterate 4 (first | (refine rd_skip rfl rfl ?_; simp only [Act.put, List.setIfInBounds_toArray, List.set_cons_zero, List.set_cons_succ]) | (refine rd_load_arr rfl rfl _ _ rfl _ rfl (by kernel_rfl) _ (by assumption) (by first | (rw [lims_len]; kernel_rfl) | (rw [byts_len]; kernel_rfl) | (rw [us_len]; kernel_rfl) | kernel_rfl) ?_; simp only [Act.put, List.setIfInBounds_toArray, List.set_cons_zero, List.set_cons_succ]) | (refine rd_take (v := ?_) rfl rfl ?_ ?_; rotate_left; (focus (go_simp; try (with_reducible rfl))); simp only [Act.put, List.setIfInBounds_toArray, List.set_cons_zero, List.set_cons_succ]) | (refine rd_take (v := ?_) rfl rfl ?_ ?_; rotate_left; (focus (try go_simp); fail)))
    exact rd_nil
  refine Tx.eff 2 31 rfl (by decide +kernel) (fun K hK => ?_)
  go_simp
  refine (scMul_r g3' ha hb _).mono ?_
  rintro e w_8 ⟨rfl, hb_8⟩
  have hS_8 := ext_trans hS_7 (Nat.le_refl _) hb_8
  refine hK (fun w' => Below (w_6).heap.size (w_6) w') _ _ hS_8 (fun _ h => h) ?_
  clear hK K hb_8 hS_7
  try simp only [Act.put, List.setIfInBounds_toArray, List.set_cons_zero, List.set_cons_succ]
  refine Tx.eff 5 63 rfl (by decide +kernel) (fun K hK => ?_)
  go_simp
  refine (scMul_r g8' hb ha _).mono ?_
  rintro e w_9 ⟨rfl, hb_9⟩
  have hS_9 := ext_trans hS_8 (Nat.le_refl _) hb_9
  refine hK (fun w' => Below (w_6).heap.size (w_6) w') _ _ hS_9 (fun _ h => h) ?_
  clear hK K hb_9 hS_8
  try simp only [Act.put, List.setIfInBounds_toArray, List.set_cons_zero, List.set_cons_succ]
  refine Tx.seg (A := ?_) 5 7167 (by kernel_rfl) (by exact hS_9) [6, 7, 8, 9, 11, 12] (by kernel_rfl) ?_ ?_
  rotate_left
  · intro w' hB
    have e1 := k1.below hB
    have e2 := k2.below hB
    have e3 := q2.out w'
    iterate 6 (first | (refine rd_skip rfl rfl ?_; simp only [Act.put, List.setIfInBounds_toArray, List.set_cons_zero, List.set_cons_succ]) | (refine rd_load_arr rfl rfl _ _ rfl _ rfl (by kernel_rfl) _ (by assumption) (by first | (rw [lims_len]; kernel_rfl) | (rw [byts_len]; kernel_rfl) | (rw [us_len]; kernel_rfl) | kernel_rfl) ?_; simp only [Act.put, List.setIfInBounds_toArray, List.set_cons_zero, List.set_cons_succ]) | (refine rd_take (v := ?_) rfl rfl ?_ ?_; rotate_left; (focus (go_simp; try (with_reducible rfl))); simp only [Act.put, List.setIfInBounds_toArray, List.set_cons_zero, List.set_cons_succ]) | (refine rd_take (v := ?_) rfl rfl ?_ ?_; rotate_left; (focus (try go_simp); fail)))
    exact rd_nil
  refine Tx.eff 10 8191 rfl (by decide +kernel) (fun K hK => ?_)
  go_simp
  refine (scAdd_r g6' ha hb _).mono ?_
  rintro e w_10 ⟨rfl, hb_10⟩
  have hS_10 := ext_trans hS_9 (Nat.le_refl _) hb_10
  refine hK (fun w' => Below (w_6).heap.size (w_6) w') _ _ hS_10 (fun _ h => h) ?_
  clear hK K hb_10 hS_9
  try simp only [Act.put, List.setIfInBounds_toArray, List.set_cons_zero, List.set_cons_succ]
  refine Tx.eff 13 16383 rfl (by decide +kernel) (fun K hK => ?_)
  go_simp
  refine (scAdd_r g9' hb ha _).mono ?_
  rintro e w_11 ⟨rfl, hb_11⟩
  have hS_11 := ext_trans hS_10 (Nat.le_refl _) hb_11
  refine hK (fun w' => Below (w_6).heap.size (w_6) w') _ _ hS_11 (fun _ h => h) ?_
  clear hK K hb_11 hS_10
  try simp only [Act.put, List.setIfInBounds_toArray, List.set_cons_zero, List.set_cons_succ]
  refine Tx.seg (A := ?_) 0 131071 (by kernel_rfl) (by exact hS_11) [14, 15, 16] (by kernel_rfl) ?_ ?_
  rotate_left
  · intro w' hB
    have e3 := q3.out w'
    iterate 3 (first | (refine rd_skip rfl rfl ?_; simp only [Act.put, List.setIfInBounds_toArray, List.set_cons_zero, List.set_cons_succ]) | (refine rd_load_arr rfl rfl _ _ rfl _ rfl (by kernel_rfl) _ (by assumption) (by first | (rw [lims_len]; kernel_rfl) | (rw [byts_len]; kernel_rfl) | (rw [us_len]; kernel_rfl) | kernel_rfl) ?_; simp only [Act.put, List.setIfInBounds_toArray, List.set_cons_zero, List.set_cons_succ]) | (refine rd_take (v := ?_) rfl rfl ?_ ?_; rotate_left; (focus (go_simp; try (with_reducible rfl))); simp only [Act.put, List.setIfInBounds_toArray, List.set_cons_zero, List.set_cons_succ]) | (refine rd_take (v := ?_) rfl rfl ?_ ?_; rotate_left; (focus (try go_simp); fail)))
    exact rd_nil
  refine Tx.done (by kernel_rfl) ?_
  have k1 := k1.below hS_11
  have k2 := k2.below hS_11
  have k3 := k3.below hS_11
  have kb := bel kb hS_11
  clear hS_11
  go_upto_region 4 with fail
  refine Tx.start (fun w' => Below (w_11).heap.size (w_11) w') 9999 15 rfl (by kernel_rfl) ?_
  have hS_12 : Below (w_11).heap.size (w_11) (World.drew w_11) := (Below.refl _ _).drew
  refine Tx.seg (A := ?_) 12 11 (by kernel_rfl) (by exact hS_12) [0, 1, 3] (by kernel_rfl) ?_ ?_
  rotate_left
  · intro w' hB
    have e1 := k1.below hB
    iterate 3 (first | (refine rd_skip rfl rfl ?_; simp only [Act.put, List.setIfInBounds_toArray, List.set_cons_zero, List.set_cons_succ]) | (refine rd_load_arr rfl rfl _ _ rfl _ rfl (by kernel_rfl) _ (by assumption) (by first | (rw [lims_len]; kernel_rfl) | (rw [byts_len]; kernel_rfl) | (rw [us_len]; kernel_rfl) | kernel_rfl) ?_; simp only [Act.put, List.setIfInBounds_toArray, List.set_cons_zero, List.set_cons_succ]) | (refine rd_take (v := ?_) rfl rfl ?_ ?_; rotate_left; (focus (go_simp; try (with_reducible rfl))); simp only [Act.put, List.setIfInBounds_toArray, List.set_cons_zero, List.set_cons_succ]) | (refine rd_take (v := ?_) rfl rfl ?_ ?_; rotate_left; (focus (try go_simp); fail)))
    exact rd_nil
  refine Tx.eff 2 15 rfl (by decide +kernel) (fun K hK => ?_)
  go_simp
  refine (scMulOne_r g7' ha _).mono ?_
  rintro e w_13 ⟨rfl, hb_13⟩
  have hS_13 := ext_trans hS_12 (Nat.le_refl _) hb_13
  refine hK (fun w' => Below (w_11).heap.size (w_11) w') _ _ hS_13 (fun _ h => h) ?_
  clear hK K hb_13 hS_12
  try simp only [Act.put, List.setIfInBounds_toArray, List.set_cons_zero, List.set_cons_succ]
  refine Tx.eff 4 31 rfl (by decide +kernel) (fun K hK => ?_)
  go_simp
  refine (scReduceArr_r g7' ha (k1.below hS_13)).mono ?_
  rintro e w_14 ⟨rfl, hb_14⟩
  have hS_14 := ext_trans hS_13 (Nat.le_refl _) hb_14
  refine hK (fun w' => Below (w_11).heap.size (w_11) w') _ _ hS_14 (fun _ h => h) ?_
  clear hK K hb_14 hS_13
  try simp only [Act.put, List.setIfInBounds_toArray, List.set_cons_zero, List.set_cons_succ]
  refine Tx.seg (A := ?_) 5 1535 (by kernel_rfl) (by exact hS_14) [5, 6, 7, 8, 10] (by kernel_rfl) ?_ ?_
  rotate_left
  · intro w' hB
    have e1 := k1.below hB
    have e3 := q4.out w'
    iterate 5 (first | (refine rd_skip rfl rfl ?_; simp only [Act.put, List.setIfInBounds_toArray, List.set_cons_zero, List.set_cons_succ]) | (refine rd_load_arr rfl rfl _ _ rfl _ rfl (by kernel_rfl) _ (by assumption) (by first | (rw [lims_len]; kernel_rfl) | (rw [byts_len]; kernel_rfl) | (rw [us_len]; kernel_rfl) | kernel_rfl) ?_; simp only [Act.put, List.setIfInBounds_toArray, List.set_cons_zero, List.set_cons_succ]) | (refine rd_take (v := ?_) rfl rfl ?_ ?_; rotate_left; (focus (go_simp; try (with_reducible rfl))); simp only [Act.put, List.setIfInBounds_toArray, List.set_cons_zero, List.set_cons_succ]) | (refine rd_take (v := ?_) rfl rfl ?_ ?_; rotate_left; (focus (try go_simp); fail)))
    exact rd_nil
  refine Tx.eff 9 2047 rfl (by decide +kernel) (fun K hK => ?_)
  go_simp
  refine (scAddZero_r g7' ha _).mono ?_
  rintro e w_15 ⟨rfl, hb_15⟩
  have hS_15 := ext_trans hS_14 (Nat.le_refl _) hb_15
  refine hK (fun w' => Below (w_11).heap.size (w_11) w') _ _ hS_15 (fun _ h => h) ?_
  clear hK K hb_15 hS_14
  try simp only [Act.put, List.setIfInBounds_toArray, List.set_cons_zero, List.set_cons_succ]
  refine Tx.eff 11 4095 rfl (by decide +kernel) (fun K hK => ?_)
  go_simp
  refine (scReduceArr_r g7' ha (k1.below hS_15)).mono ?_
  rintro e w_16 ⟨rfl, hb_16⟩
  have hS_16 := ext_trans hS_15 (Nat.le_refl _) hb_16
  refine hK (fun w' => Below (w_11).heap.size (w_11) w') _ _ hS_16 (fun _ h => h) ?_
  clear hK K hb_16 hS_15
  try simp only [Act.put, List.setIfInBounds_toArray, List.set_cons_zero, List.set_cons_succ]
  refine Tx.seg (A := ?_) 0 32767 (by kernel_rfl) (by exact hS_16) [12, 13, 14] (by kernel_rfl) ?_ ?_
  rotate_left
  · intro w' hB
    have e3 := q4.out w'
    iterate 3 (first | (refine rd_skip rfl rfl ?_; simp only [Act.put, List.setIfInBounds_toArray, List.set_cons_zero, List.set_cons_succ]) | (refine rd_load_arr rfl rfl _ _ rfl _ rfl (by kernel_rfl) _ (by assumption) (by first | (rw [lims_len]; kernel_rfl) | (rw [byts_len]; kernel_rfl) | (rw [us_len]; kernel_rfl) | kernel_rfl) ?_; simp only [Act.put, List.setIfInBounds_toArray, List.set_cons_zero, List.set_cons_succ]) | (refine rd_take (v := ?_) rfl rfl ?_ ?_; rotate_left; (focus (go_simp; try (with_reducible rfl))); simp only [Act.put, List.setIfInBounds_toArray, List.set_cons_zero, List.set_cons_succ]) | (refine rd_take (v := ?_) rfl rfl ?_ ?_; rotate_left; (focus (try go_simp); fail)))
    exact rd_nil
  refine Tx.done (by kernel_rfl) ?_
  have k1 := k1.below hS_16
  have kb := bel kb hS_16
  clear hS_16
  go_upto_region 5 with fail
  refine Tx.start (fun w' => Below (w_16).heap.size (w_16) w') 9999 20 rfl (by kernel_rfl) ?_
  have hS_17 : Below (w_16).heap.size (w_16) (World.drew w_16) := (Below.refl _ _).drew
  refine Tx.seg (A := ?_) 6 45055 (by kernel_rfl) (by exact hS_17) [0, 1, 2, 3, 4, 5, 6, 7, 8, 9, 10, 11, 13, 15] (by kernel_rfl) ?_ ?_
  rotate_left
  · intro w' hB
    have e1 := k1.below hB
    iterate 14 (first | (refine rd_skip rfl rfl ?_; simp only [Act.put, List.setIfInBounds_toArray, List.set_cons_zero, List.set_cons_succ]) | (refine rd_load_arr rfl rfl _ _ rfl _ rfl (by kernel_rfl) _ (by assumption) (by first | (rw [lims_len]; kernel_rfl) | (rw [byts_len]; kernel_rfl) | (rw [us_len]; kernel_rfl) | kernel_rfl) ?_; simp only [Act.put, List.setIfInBounds_toArray, List.set_cons_zero, List.set_cons_succ]) | (refine rd_take (v := ?_) rfl rfl ?_ ?_; rotate_left; (focus (go_simp; try (with_reducible rfl))); simp only [Act.put, List.setIfInBounds_toArray, List.set_cons_zero, List.set_cons_succ]) | (refine rd_take (v := ?_) rfl rfl ?_ ?_; rotate_left; (focus (try go_simp); fail)))
    exact rd_nil
  refine Tx.eff 12 49151 rfl (by decide +kernel) (fun K hK => ?_)
  go_simp
  refine (scReduceArr_r g7' ha (k1.below hS_17)).mono ?_
  rintro e w_18 ⟨rfl, hb_18⟩
  have hS_18 := ext_trans hS_17 (Nat.le_refl _) hb_18
  refine hK (fun w' => Below (w_16).heap.size (w_16) w') _ _ hS_18 (fun _ h => h) ?_
  clear hK K hb_18 hS_17
  try simp only [Act.put, List.setIfInBounds_toArray, List.set_cons_zero, List.set_cons_succ]
  refine Tx.seg (A := ?_) 4 65535 (by kernel_rfl) (by exact hS_18) [14] (by kernel_rfl) ?_ ?_
  rotate_left
  · intro w' hB
    have e1 := q6.out w'
    iterate 1 (first | (refine rd_skip rfl rfl ?_; simp only [Act.put, List.setIfInBounds_toArray, List.set_cons_zero, List.set_cons_succ]) | (refine rd_load_arr rfl rfl _ _ rfl _ rfl (by kernel_rfl) _ (by assumption) (by first | (rw [lims_len]; kernel_rfl) | (rw [byts_len]; kernel_rfl) | (rw [us_len]; kernel_rfl) | kernel_rfl) ?_; simp only [Act.put, List.setIfInBounds_toArray, List.set_cons_zero, List.set_cons_succ]) | (refine rd_take (v := ?_) rfl rfl ?_ ?_; rotate_left; (focus (go_simp; try (with_reducible rfl))); simp only [Act.put, List.setIfInBounds_toArray, List.set_cons_zero, List.set_cons_succ]) | (refine rd_take (v := ?_) rfl rfl ?_ ?_; rotate_left; (focus (try go_simp); fail)))
    exact rd_nil
  refine Tx.eff 16 131071 rfl (by decide +kernel) (fun K hK => ?_)
  go_simp
  refine (scLess_any a ha _).mono ?_
  rintro e w_19 ⟨rfl, hb_19⟩
  have hS_19 := ext_trans hS_18 (Nat.le_refl _) hb_19
  refine hK (fun w' => Below (w_16).heap.size (w_16) w') _ _ hS_19 (fun _ h => h) ?_
  clear hK K hb_19 hS_18
  try simp only [Act.put, List.setIfInBounds_toArray, List.set_cons_zero, List.set_cons_succ]
  refine Tx.seg (A := ?_) 0 1048575 (by kernel_rfl) (by exact hS_19) [17, 18, 19] (by kernel_rfl) ?_ ?_
  rotate_left
  · intro w' hB
    have e1 := q7.out
    iterate 3 (first | (refine rd_skip rfl rfl ?_; simp only [Act.put, List.setIfInBounds_toArray, List.set_cons_zero, List.set_cons_succ]) | (refine rd_load_arr rfl rfl _ _ rfl _ rfl (by kernel_rfl) _ (by assumption) (by first | (rw [lims_len]; kernel_rfl) | (rw [byts_len]; kernel_rfl) | (rw [us_len]; kernel_rfl) | kernel_rfl) ?_; simp only [Act.put, List.setIfInBounds_toArray, List.set_cons_zero, List.set_cons_succ]) | (refine rd_take (v := ?_) rfl rfl ?_ ?_; rotate_left; (focus (go_simp; try (with_reducible rfl))); simp only [Act.put, List.setIfInBounds_toArray, List.set_cons_zero, List.set_cons_succ]) | (refine rd_take (v := ?_) rfl rfl ?_ ?_; rotate_left; (focus (try go_simp); fail)))
    exact rd_nil
  refine Tx.done (by kernel_rfl) ?_
  have kb := bel kb hS_19
  go_wp2_with fail
  go_ret
  exact ⟨rfl, kb⟩

end Go.Proofs.Ytdggikbaemigbaa
