/- The walk of ScalarLong. -/
import Derived.Test.YtdggikbaemigbaaSl3
namespace Go.Proofs.Ytdggikbaemigbaa
open Go.RowKit

theorem byts_q : byts qN = [.int .u8 237, .int .u8 211, .int .u8 245, .int .u8 92, .int .u8 26, .int .u8 99, .int .u8 18, .int .u8 88, .int .u8 214, .int .u8 156, .int .u8 247, .int .u8 162, .int .u8 222, .int .u8 249, .int .u8 222, .int .u8 20, .int .u8 0, .int .u8 0, .int .u8 0, .int .u8 0, .int .u8 0, .int .u8 0, .int .u8 0, .int .u8 0, .int .u8 0, .int .u8 0, .int .u8 0, .int .u8 0, .int .u8 0, .int .u8 0, .int .u8 0, .int .u8 16] := by kernel_rfl
theorem byts_q1 : (byts qN).set 0 (.int .u8 236) = byts (qN - 1) := by kernel_rfl
theorem byts_nought : (byts 0).toArray = #[.int .u8 0, .int .u8 0, .int .u8 0, .int .u8 0, .int .u8 0, .int .u8 0, .int .u8 0, .int .u8 0, .int .u8 0, .int .u8 0, .int .u8 0, .int .u8 0, .int .u8 0, .int .u8 0, .int .u8 0, .int .u8 0, .int .u8 0, .int .u8 0, .int .u8 0, .int .u8 0, .int .u8 0, .int .u8 0, .int .u8 0, .int .u8 0, .int .u8 0, .int .u8 0, .int .u8 0, .int .u8 0, .int .u8 0, .int .u8 0, .int .u8 0, .int .u8 0] := by kernel_rfl

theorem scAddS_r {a m r : Nat} (hr : Hid ((a + (m + 1)) % qN = r)) (ha : a < 256 ^ 32) (hv : m + 1 < 256) (w : World) :
    Calls Try.prog 29 #[.agg (byts a).toArray, .agg #[.int .u8 ((m : Int) + 1), .int .u8 0, .int .u8 0, .int .u8 0, .int .u8 0, .int .u8 0, .int .u8 0, .int .u8 0, .int .u8 0, .int .u8 0, .int .u8 0, .int .u8 0, .int .u8 0, .int .u8 0, .int .u8 0, .int .u8 0, .int .u8 0, .int .u8 0, .int .u8 0, .int .u8 0, .int .u8 0, .int .u8 0, .int .u8 0, .int .u8 0, .int .u8 0, .int .u8 0, .int .u8 0, .int .u8 0, .int .u8 0, .int .u8 0, .int .u8 0, .int .u8 0]] w fun e w' => e = .returned (.agg (byts r).toArray) ∧ Below w.heap.size w w' := by
  have h := scAddV_r hr ha hv w
  rwa [Int.natCast_add] at h


set_option maxHeartbeats 4000000 in
set_option maxRecDepth 100000 in
theorem long_any (d1 : Option Addr) (cap1 : Nat) (bs : List UInt8) (d2 : Option Addr) (cap2 : Nat) (ms : List UInt8) (v : Int) (w : World) (hs : Sl w (.slice d1 bs.length cap1) (u8s bs)) (ht : Sl w (.slice d2 ms.length cap2) (u8s ms)) (hv : (Lit.int .u8 v).wf = true) :
    Calls Try.prog 3 #[.slice d1 bs.length cap1, .slice d2 ms.length cap2, .int .u8 v] w fun e w' => e = .returned (.bool true) ∧ Below w.heap.size w w' := by
  have hv := wf_u8 hv
  obtain ⟨v, rfl⟩ : ∃ n : Nat, v = (n : Int) := ⟨v.toNat, by omega⟩
  have hv8 : v < 256 := by omega
  have hlen := hs.len
  have hlen2 := ht.len
  rw [u8s_len] at hlen hlen2
  obtain ⟨-, hlc, hcm⟩ := hlen
  obtain ⟨-, hlc2, hcm2⟩ := hlen2
  unfold maxLen at hcm hcm2
  have hs' := Lib.hid hs
  have ht' := Lib.hid ht
  clear hs ht hv
  go_enter Try.func3, Try.ntmps3
  go_wp2_with fail
  refine (alive4_any _).mono ?_
  rintro e w1 ⟨rfl, hb1⟩
  have hs1 := Lib.hid (hs'.out.below hb1)
  have ht1 := Lib.hid (ht'.out.below hb1)
  clear hs' ht'
  by_cases h64 : bs.length = 64
  · by_cases h100 : ms.length ≤ 100
    · have hb64 : ((bs.length : Int) != 64) = false := by simp; omega
      go_upto_region 6 with fail
      refine wp_new2 (fun W hsz h1 h2 hb0 => ?_)
      have hs2 := hs1.out
      rw [h64] at hs2
      have hs1 := Lib.hid hs2
      have kw : Below w1.heap.size w1 W := hb0
      clear hs2
      have k8 : Arr W w1.heap.size (byts qN) := by rw [byts_q]; exact h1
      have k9 : Arr W (w1.heap.size + 1) (byts 0) := h2
      have hq8 := Sl.of_arr k8 (by rw [byts_len]; decide)
      rw [byts_len] at hq8
      have hone := byts_one qN
      have hsz1 : (Try.prog.info? 5).map (·.size) = some 1 := by kernel_rfl
      have hb1 := Lib.hid hb1
      clear h1 h2 hb0
      have hq8 := Lib.hid hq8
      have hone := Lib.hid hone
      have hsz1 := Lib.hid hsz1
      go_upto_region 7 with (refine wpList_copy_arr (o := ⟨some 29, _, _, _, _, _⟩) rfl _ _ 22 22 rfl 5 Try.underlying22 hsz1.out _ 0 32 32 rfl _ k9 (by rw [byts_len]; decide) _ rfl _ hq8.out hone.out ?_)
      refine code_row k9 (fun W2 k9 hoth hbel => ?_)
      have k9 : Arr W2 (w1.heap.size + 1) (byts qN) := by
        have e : (byts qN).take 32 = byts qN := List.take_of_length_le (by rw [byts_len]; decide)
        have e2 : (byts 0).drop 32 = [] := List.drop_of_length_le (by rw [byts_len]; decide)
        simpa [e, e2, byts_len] using k9
      have kw := hbel _ _ (by omega) kw
      have k8 := hoth _ _ (by omega) k8
      have hq0 := Lib.hid (Nat.mod_self qN)
      have e00 : ∀ w, (Op.equalIn 10000 25 (.agg (byts 0).toArray) (.agg #[.int .u8 0, .int .u8 0, .int .u8 0, .int .u8 0, .int .u8 0, .int .u8 0, .int .u8 0, .int .u8 0, .int .u8 0, .int .u8 0, .int .u8 0, .int .u8 0, .int .u8 0, .int .u8 0, .int .u8 0, .int .u8 0, .int .u8 0, .int .u8 0, .int .u8 0, .int .u8 0, .int .u8 0, .int .u8 0, .int .u8 0, .int .u8 0, .int .u8 0, .int .u8 0, .int .u8 0, .int .u8 0, .int .u8 0, .int .u8 0, .int .u8 0, .int .u8 0])).run Try.prog w = .ok true w := fun w => eq_byts 0 0 (by decide) (by decide) w
      clear hoth hbel hq8 hone hsz1 hsz
      try simp only [Act.put, List.setIfInBounds_toArray, List.set_cons_zero, List.set_cons_succ]
      go_wp2_with fail
      refine (scReduceArr_r hq0 (by decide) k8).mono ?_
      rintro e w3 ⟨rfl, hb3⟩
      have kw := bel kw hb3
      have k9 := k9.below hb3
      clear k8 hq0 hb3
      go_wp2_with (first | (refine wpList_load_arr2 rfl _ _ rfl _ rfl (by kernel_rfl) _ (by assumption) (by first | (rw [lims_len]; kernel_rfl) | (rw [byts_len]; kernel_rfl) | (rw [us_len]; kernel_rfl) | kernel_rfl) ?_))
      have hql := scLess_any qN (by decide)
      rw [decide_eq_false (Nat.lt_irrefl qN)] at hql
      refine (hql _).mono ?_
      rintro e w4 ⟨rfl, hb4⟩
      have kw := bel kw hb4
      have k9 := k9.below hb4
      clear hql hb4 e00
      have hc0 := k9.cell (j := 0) (u := .int .u8 237) (by rw [byts_q]; rfl)
      have hf0 := k9.frozen 0
      go_upto_region 9 with fail
      refine code_cell k9 (fun W3 k9 hoth hbel => ?_)
      rw [byts_q1] at k9
      have hg9 := k9.lt
      have kw := hbel _ _ (by omega) kw
      clear hoth hbel hc0 hf0
      go_upto_region 10 with (first | (refine wpList_load_arr2 rfl _ _ rfl _ rfl (by kernel_rfl) _ (by assumption) (by first | (rw [lims_len]; kernel_rfl) | (rw [byts_len]; kernel_rfl) | (rw [us_len]; kernel_rfl) | kernel_rfl) ?_) | (refine wpList_store_arr rfl _ _ _ rfl _ _ rfl rfl _ (by first | assumption | exact Arr.new _ _ _) (by first | (rw [lims_len]; kernel_rfl) | (rw [byts_len]; kernel_rfl) | (rw [us_len]; kernel_rfl) | kernel_rfl) (by first | (rw [lims_len, lims_len]) | (rw [byts_len, byts_len]) | (rw [lims_len]; rfl) | (rw [byts_len]; rfl) | (rw [us_len, us_len]; rfl) | rfl) (by first | exact lims_one _ _ | exact byts_one _ | exact us_one _ | (intro v hv; simp at hv; rcases hv with rfl | rfl | rfl | rfl <;> rfl)) ?_))
      refine code_new (fun W4 k11 hb => ?_)
      have k9 := k9.below hb
      have kw := bel kw hb
      clear hb
      obtain ⟨r1, g1⟩ : ∃ r : Nat, val 256 ((bs.take 64).map (fun x : UInt8 => x.toNat)) % qN = r := ⟨_, rfl⟩
      have g2 : val 256 (((bs ++ ms).take 64).map (fun x : UInt8 => x.toNat)) % qN = r1 := by
        rw [List.take_append_of_le_length (by omega)]
        exact g1
      have l1 : r1 < 256 ^ 32 := g1 ▸ mod_q_lt _
      have hm1 : bs.length + ms.length ≤ 200 := by omega
      obtain ⟨i, hi, hz0, hz1, hz2⟩ := info_parts info_u8
      have h64' := Lib.hid h64
      have g1' := Lib.hid g1
      have g2' := Lib.hid g2
      have q1 := Lib.hid (eq_true r1 r1 rfl l1)
      have hql := scLess_any (qN - 1) (by decide)
      rw [decide_eq_true (by decide)] at hql
      have hql := Lib.hid hql
      clear g1 g2 h64
      rcases Nat.eq_zero_or_pos v with rfl | hv0
      · have q2 := Lib.hid (eq_true (qN - 1) (qN - 1) rfl (by decide))
        have gq : (qN - 1) % qN = qN - 1 := by decide
        have gq := Lib.hid gq
        go_upto_region 12 with fail
        refine Tx.start (fun w' => Below (W4).heap.size (W4) w') 9999 24 rfl (by kernel_rfl) ?_
        have hS_1 : Below (W4).heap.size (W4) (World.drew W4) := (Below.refl _ _).drew
        refine Tx.seg (A := ?_) 21 37 (by kernel_rfl) (by exact hS_1) [0, 2, 5] (by kernel_rfl) ?_ ?_
        rotate_left
        · intro w' hB
          iterate 3 (first | (refine rd_skip rfl rfl ?_; simp only [Act.put, List.setIfInBounds_toArray, List.set_cons_zero, List.set_cons_succ]) | (refine rd_load_arr rfl rfl _ _ rfl _ rfl (by kernel_rfl) _ (by assumption) (by first | (rw [lims_len]; kernel_rfl) | (rw [byts_len]; kernel_rfl) | (rw [us_len]; kernel_rfl) | kernel_rfl) ?_; simp only [Act.put, List.setIfInBounds_toArray, List.set_cons_zero, List.set_cons_succ]) | (refine rd_take (v := ?_) rfl rfl ?_ ?_; rotate_left; (focus (go_simp; try (with_reducible rfl))); simp only [Act.put, List.setIfInBounds_toArray, List.set_cons_zero, List.set_cons_succ]) | (refine rd_take (v := ?_) rfl rfl ?_ ?_; rotate_left; (focus (try go_simp); fail)))
          exact rd_nil
        refine Tx.eff 1 39 rfl (by decide +kernel) (fun K hK => ?_)
        have hsA := hs1.out.below kw.drew
        refine step_append_sl rfl _ _ 22 rfl W4.heap.size 5 Try.underlying22 hi hz0 hz1 hz2 rfl _ 0 [] rfl (World.ownsRow_nil _ _ _ _) _ (u8s bs) rfl hsA (u8s_one _) (by rw [u8s_len, h64'.out]; decide) (by rw [u8s_len, h64'.out]; decide) (hS_1).size ?_
        intro v1 wa hown hga
        have hS_a : Below W4.heap.size W4 wa := (hS_1).grown hga (hS_1).size (fun k hk => by cases hk)
        rw [List.nil_append, Nat.zero_add] at hown
        clear hsA hga
        refine hK (fun w' => Below (W4).heap.size (W4) w') _ _ hS_a (fun _ h => h) ?_
        clear hK K
        try simp only [Act.put, List.setIfInBounds_toArray, List.set_cons_zero, List.set_cons_succ]
        refine Tx.eff 3 47 rfl (by decide +kernel) (fun K hK => ?_)
        have hsA := ht1.out.below (bel kw hS_a)
        refine step_append_sl rfl _ _ 22 rfl W4.heap.size 5 Try.underlying22 hi hz0 hz1 hz2 rfl _ _ _ rfl hown _ (u8s ms) rfl hsA (u8s_one _) (by rw [u8s_len, u8s_len]; unfold maxLen; omega) (by rw [u8s_len, u8s_len]; omega) hS_a.size ?_
        intro v3 wb hown3 hgb
        have hS_b : Below W4.heap.size W4 wb := hS_a.grown hgb hS_a.size (own_block hown)
        have hs3 := Sl.of_own hown3
        rw [← u8s_append] at hs3
        clear hsA hgb hown hown3
        refine hK (fun w' => Below (W4).heap.size (W4) w') _ _ hS_b (fun _ h => h) ?_
        clear hK K
        try simp only [Act.put, List.setIfInBounds_toArray, List.set_cons_zero, List.set_cons_succ]
        refine Tx.eff 4 63 rfl (by decide +kernel) (fun K hK => ?_)
        go_simp
        refine (scReduce_r g2' hs3).mono ?_
        rintro e w_2 ⟨rfl, hb_2⟩
        have hS_2 := ext_trans hS_b (Nat.le_refl _) hb_2
        refine hK (fun w' => Below (W4).heap.size (W4) w') _ _ hS_2 (fun _ h => h) ?_
        clear hK K hb_2 hS_b
        try simp only [Act.put, List.setIfInBounds_toArray, List.set_cons_zero, List.set_cons_succ]
        refine Tx.eff 6 127 rfl (by decide +kernel) (fun K hK => ?_)
        go_simp
        refine (scReduce_r g1' (hs1.out.below (bel kw hS_2))).mono ?_
        rintro e w_3 ⟨rfl, hb_3⟩
        have hS_3 := ext_trans hS_2 (Nat.le_refl _) hb_3
        refine hK (fun w' => Below (W4).heap.size (W4) w') _ _ hS_3 (fun _ h => h) ?_
        clear hK K hb_3 hS_2
        try simp only [Act.put, List.setIfInBounds_toArray, List.set_cons_zero, List.set_cons_succ]
        refine Tx.seg (A := ?_) 11 8191 (by kernel_rfl) (by exact hS_3) [7, 8, 9, 10, 11, 12] (by kernel_rfl) ?_ ?_
        rotate_left
        · intro w' hB
          have e1 := q1.out w'
          have e2 := k9.below hB
          iterate 6 (first | (refine rd_skip rfl rfl ?_; simp only [Act.put, List.setIfInBounds_toArray, List.set_cons_zero, List.set_cons_succ]) | (refine rd_load_arr rfl rfl _ _ rfl _ rfl (by kernel_rfl) _ (by assumption) (by first | (rw [lims_len]; kernel_rfl) | (rw [byts_len]; kernel_rfl) | (rw [us_len]; kernel_rfl) | kernel_rfl) ?_; simp only [Act.put, List.setIfInBounds_toArray, List.set_cons_zero, List.set_cons_succ]) | (refine rd_take (v := ?_) rfl rfl ?_ ?_; rotate_left; (focus (go_simp; try (with_reducible rfl))); simp only [Act.put, List.setIfInBounds_toArray, List.set_cons_zero, List.set_cons_succ]) | (refine rd_take (v := ?_) rfl rfl ?_ ?_; rotate_left; (focus (try go_simp); fail)))
          exact rd_nil
        refine Tx.eff 13 16383 rfl (by decide +kernel) (fun K hK => ?_)
        go_simp
        refine (hql.out _).mono ?_
        rintro e w_4 ⟨rfl, hb_4⟩
        have hS_4 := ext_trans hS_3 (Nat.le_refl _) hb_4
        refine hK (fun w' => Below (W4).heap.size (W4) w') _ _ hS_4 (fun _ h => h) ?_
        clear hK K hb_4 hS_3
        try simp only [Act.put, List.setIfInBounds_toArray, List.set_cons_zero, List.set_cons_succ]
        refine Tx.seg (A := ?_) 4 1572863 (by kernel_rfl) (by exact hS_4) [14, 15, 16, 17, 18, 20] (by kernel_rfl) ?_ ?_
        rotate_left
        · intro w' hB
          have e2 := k9.below hB
          have e3 := k11.below hB
          iterate 6 (first | (refine rd_skip rfl rfl ?_; simp only [Act.put, List.setIfInBounds_toArray, List.set_cons_zero, List.set_cons_succ]) | (refine rd_load_arr rfl rfl _ _ rfl _ rfl (by kernel_rfl) _ (by assumption) (by first | (rw [lims_len]; kernel_rfl) | (rw [byts_len]; kernel_rfl) | (rw [us_len]; kernel_rfl) | kernel_rfl) ?_; simp only [Act.put, List.setIfInBounds_toArray, List.set_cons_zero, List.set_cons_succ]) | (refine rd_take (v := ?_) rfl rfl ?_ ?_; rotate_left; (focus (go_simp; try (with_reducible rfl))); simp only [Act.put, List.setIfInBounds_toArray, List.set_cons_zero, List.set_cons_succ]) | (refine rd_take (v := ?_) rfl rfl ?_ ?_; rotate_left; (focus (try go_simp); fail)))
          exact rd_nil
        refine Tx.eff 19 2097151 rfl (by decide +kernel) (fun K hK => ?_)
        go_simp
        refine (scAddZero_r gq (by decide) _).mono ?_
        rintro e w_5 ⟨rfl, hb_5⟩
        have hS_5 := ext_trans hS_4 (Nat.le_refl _) hb_5
        refine hK (fun w' => Below (W4).heap.size (W4) w') _ _ hS_5 (fun _ h => h) ?_
        clear hK K hb_5 hS_4
        try simp only [Act.put, List.setIfInBounds_toArray, List.set_cons_zero, List.set_cons_succ]
        refine Tx.seg (A := ?_) 0 16777215 (by kernel_rfl) (by exact hS_5) [21, 22, 23] (by kernel_rfl) ?_ ?_
        rotate_left
        · intro w' hB
          have e1 := q2.out w'
          iterate 3 (first | (refine rd_skip rfl rfl ?_; simp only [Act.put, List.setIfInBounds_toArray, List.set_cons_zero, List.set_cons_succ]) | (refine rd_load_arr rfl rfl _ _ rfl _ rfl (by kernel_rfl) _ (by assumption) (by first | (rw [lims_len]; kernel_rfl) | (rw [byts_len]; kernel_rfl) | (rw [us_len]; kernel_rfl) | kernel_rfl) ?_; simp only [Act.put, List.setIfInBounds_toArray, List.set_cons_zero, List.set_cons_succ]) | (refine rd_take (v := ?_) rfl rfl ?_ ?_; rotate_left; (focus (go_simp; try (with_reducible rfl))); simp only [Act.put, List.setIfInBounds_toArray, List.set_cons_zero, List.set_cons_succ]) | (refine rd_take (v := ?_) rfl rfl ?_ ?_; rotate_left; (focus (try go_simp); fail)))
          exact rd_nil
        refine Tx.done (by kernel_rfl) ?_
        have kw := bel kw hS_5
        go_wp2_with fail
        go_ret
        exact ⟨rfl, bel hb1.out kw⟩
      · obtain ⟨m, rfl⟩ : ∃ m, v = m + 1 := ⟨v - 1, by omega⟩
        have q2 := Lib.hid (eq_true m m rfl (Nat.lt_trans (by omega : m < 256) (by decide)))
        have gq : (qN - 1 + (m + 1)) % qN = m := by
          rw [show qN - 1 + (m + 1) = m + qN by have := qN_pos; omega, Nat.add_mod_right, Nat.mod_eq_of_lt (Nat.lt_trans (by omega : m < 256) (by decide))]
        have gq := Lib.hid gq
        go_upto_region 12 with (refine wpList_store_arr rfl _ _ _ rfl _ (byts m) rfl (by rw [byts_one8 m (by omega)]; rfl) _ k11 (by rw [byts_len]; kernel_rfl) (by rw [byts_len, byts_len]) (byts_one _) ?_)
        simp only [Act.put]
        refine code_row k11 (fun W5 k11 hoth hbel => ?_)
        have k9 := hoth _ _ (by omega) k9
        have kw := hbel _ _ (by omega) kw
        clear hoth hbel
        refine Tx.start (fun w' => Below (W5).heap.size (W5) w') 9999 24 rfl (by kernel_rfl) ?_
        have hS_6 : Below (W5).heap.size (W5) (World.drew W5) := (Below.refl _ _).drew
        refine Tx.seg (A := ?_) 21 37 (by kernel_rfl) (by exact hS_6) [0, 2, 5] (by kernel_rfl) ?_ ?_
        rotate_left
        · intro w' hB
          iterate 3 (first | (refine rd_skip rfl rfl ?_; simp only [Act.put, List.setIfInBounds_toArray, List.set_cons_zero, List.set_cons_succ]) | (refine rd_load_arr rfl rfl _ _ rfl _ rfl (by kernel_rfl) _ (by assumption) (by first | (rw [lims_len]; kernel_rfl) | (rw [byts_len]; kernel_rfl) | (rw [us_len]; kernel_rfl) | kernel_rfl) ?_; simp only [Act.put, List.setIfInBounds_toArray, List.set_cons_zero, List.set_cons_succ]) | (refine rd_take (v := ?_) rfl rfl ?_ ?_; rotate_left; (focus (go_simp; try (with_reducible rfl))); simp only [Act.put, List.setIfInBounds_toArray, List.set_cons_zero, List.set_cons_succ]) | (refine rd_take (v := ?_) rfl rfl ?_ ?_; rotate_left; (focus (try go_simp); fail)))
          exact rd_nil
        refine Tx.eff 1 39 rfl (by decide +kernel) (fun K hK => ?_)
        have hsA := hs1.out.below kw.drew
        refine step_append_sl rfl _ _ 22 rfl W5.heap.size 5 Try.underlying22 hi hz0 hz1 hz2 rfl _ 0 [] rfl (World.ownsRow_nil _ _ _ _) _ (u8s bs) rfl hsA (u8s_one _) (by rw [u8s_len, h64'.out]; decide) (by rw [u8s_len, h64'.out]; decide) (hS_6).size ?_
        intro v1 wa hown hga
        have hS_a : Below W5.heap.size W5 wa := (hS_6).grown hga (hS_6).size (fun k hk => by cases hk)
        rw [List.nil_append, Nat.zero_add] at hown
        clear hsA hga
        refine hK (fun w' => Below (W5).heap.size (W5) w') _ _ hS_a (fun _ h => h) ?_
        clear hK K
        try simp only [Act.put, List.setIfInBounds_toArray, List.set_cons_zero, List.set_cons_succ]
        refine Tx.eff 3 47 rfl (by decide +kernel) (fun K hK => ?_)
        have hsA := ht1.out.below (bel kw hS_a)
        refine step_append_sl rfl _ _ 22 rfl W5.heap.size 5 Try.underlying22 hi hz0 hz1 hz2 rfl _ _ _ rfl hown _ (u8s ms) rfl hsA (u8s_one _) (by rw [u8s_len, u8s_len]; unfold maxLen; omega) (by rw [u8s_len, u8s_len]; omega) hS_a.size ?_
        intro v3 wb hown3 hgb
        have hS_b : Below W5.heap.size W5 wb := hS_a.grown hgb hS_a.size (own_block hown)
        have hs3 := Sl.of_own hown3
        rw [← u8s_append] at hs3
        clear hsA hgb hown hown3
        refine hK (fun w' => Below (W5).heap.size (W5) w') _ _ hS_b (fun _ h => h) ?_
        clear hK K
        try simp only [Act.put, List.setIfInBounds_toArray, List.set_cons_zero, List.set_cons_succ]
        refine Tx.eff 4 63 rfl (by decide +kernel) (fun K hK => ?_)
        go_simp
        refine (scReduce_r g2' hs3).mono ?_
        rintro e w_7 ⟨rfl, hb_7⟩
        have hS_7 := ext_trans hS_b (Nat.le_refl _) hb_7
        refine hK (fun w' => Below (W5).heap.size (W5) w') _ _ hS_7 (fun _ h => h) ?_
        clear hK K hb_7 hS_b
        try simp only [Act.put, List.setIfInBounds_toArray, List.set_cons_zero, List.set_cons_succ]
        refine Tx.eff 6 127 rfl (by decide +kernel) (fun K hK => ?_)
        go_simp
        refine (scReduce_r g1' (hs1.out.below (bel kw hS_7))).mono ?_
        rintro e w_8 ⟨rfl, hb_8⟩
        have hS_8 := ext_trans hS_7 (Nat.le_refl _) hb_8
        refine hK (fun w' => Below (W5).heap.size (W5) w') _ _ hS_8 (fun _ h => h) ?_
        clear hK K hb_8 hS_7
        try simp only [Act.put, List.setIfInBounds_toArray, List.set_cons_zero, List.set_cons_succ]
        refine Tx.seg (A := ?_) 11 8191 (by kernel_rfl) (by exact hS_8) [7, 8, 9, 10, 11, 12] (by kernel_rfl) ?_ ?_
        rotate_left
        · intro w' hB
          have e1 := q1.out w'
          have e2 := k9.below hB
          iterate 6 (first | (refine rd_skip rfl rfl ?_; simp only [Act.put, List.setIfInBounds_toArray, List.set_cons_zero, List.set_cons_succ]) | (refine rd_load_arr rfl rfl _ _ rfl _ rfl (by kernel_rfl) _ (by assumption) (by first | (rw [lims_len]; kernel_rfl) | (rw [byts_len]; kernel_rfl) | (rw [us_len]; kernel_rfl) | kernel_rfl) ?_; simp only [Act.put, List.setIfInBounds_toArray, List.set_cons_zero, List.set_cons_succ]) | (refine rd_take (v := ?_) rfl rfl ?_ ?_; rotate_left; (focus (go_simp; try (with_reducible rfl))); simp only [Act.put, List.setIfInBounds_toArray, List.set_cons_zero, List.set_cons_succ]) | (refine rd_take (v := ?_) rfl rfl ?_ ?_; rotate_left; (focus (try go_simp); fail)))
          exact rd_nil
        refine Tx.eff 13 16383 rfl (by decide +kernel) (fun K hK => ?_)
        go_simp
        refine (hql.out _).mono ?_
        rintro e w_9 ⟨rfl, hb_9⟩
        have hS_9 := ext_trans hS_8 (Nat.le_refl _) hb_9
        refine hK (fun w' => Below (W5).heap.size (W5) w') _ _ hS_9 (fun _ h => h) ?_
        clear hK K hb_9 hS_8
        try simp only [Act.put, List.setIfInBounds_toArray, List.set_cons_zero, List.set_cons_succ]
        refine Tx.seg (A := ?_) 4 1572863 (by kernel_rfl) (by exact hS_9) [14, 15, 16, 17, 18, 20] (by kernel_rfl) ?_ ?_
        rotate_left
        · intro w' hB
          have e2 := k9.below hB
          have e3 := k11.below hB
          iterate 6 (first | (refine rd_skip rfl rfl ?_; simp only [Act.put, List.setIfInBounds_toArray, List.set_cons_zero, List.set_cons_succ]) | (refine rd_load_arr rfl rfl _ _ rfl _ rfl (by kernel_rfl) _ (by assumption) (by first | (rw [lims_len]; kernel_rfl) | (rw [byts_len]; kernel_rfl) | (rw [us_len]; kernel_rfl) | kernel_rfl) ?_; simp only [Act.put, List.setIfInBounds_toArray, List.set_cons_zero, List.set_cons_succ]) | (refine rd_take (v := ?_) rfl rfl ?_ ?_; rotate_left; (focus (go_simp; try (with_reducible rfl))); simp only [Act.put, List.setIfInBounds_toArray, List.set_cons_zero, List.set_cons_succ]) | (refine rd_take (v := ?_) rfl rfl ?_ ?_; rotate_left; (focus (try go_simp); fail)))
          exact rd_nil
        refine Tx.eff 19 2097151 rfl (by decide +kernel) (fun K hK => ?_)
        go_simp
        refine (scAddS_r gq (by decide) hv8 _).mono ?_
        rintro e w_10 ⟨rfl, hb_10⟩
        have hS_10 := ext_trans hS_9 (Nat.le_refl _) hb_10
        refine hK (fun w' => Below (W5).heap.size (W5) w') _ _ hS_10 (fun _ h => h) ?_
        clear hK K hb_10 hS_9
        try simp only [Act.put, List.setIfInBounds_toArray, List.set_cons_zero, List.set_cons_succ]
        refine Tx.seg (A := ?_) 0 16777215 (by kernel_rfl) (by exact hS_10) [21, 22, 23] (by kernel_rfl) ?_ ?_
        rotate_left
        · intro w' hB
          have e1 := q2.out w'
          iterate 3 (first | (refine rd_skip rfl rfl ?_; simp only [Act.put, List.setIfInBounds_toArray, List.set_cons_zero, List.set_cons_succ]) | (refine rd_load_arr rfl rfl _ _ rfl _ rfl (by kernel_rfl) _ (by assumption) (by first | (rw [lims_len]; kernel_rfl) | (rw [byts_len]; kernel_rfl) | (rw [us_len]; kernel_rfl) | kernel_rfl) ?_; simp only [Act.put, List.setIfInBounds_toArray, List.set_cons_zero, List.set_cons_succ]) | (refine rd_take (v := ?_) rfl rfl ?_ ?_; rotate_left; (focus (go_simp; try (with_reducible rfl))); simp only [Act.put, List.setIfInBounds_toArray, List.set_cons_zero, List.set_cons_succ]) | (refine rd_take (v := ?_) rfl rfl ?_ ?_; rotate_left; (focus (try go_simp); fail)))
          exact rd_nil
        refine Tx.done (by kernel_rfl) ?_
        have kw := bel kw hS_10
        go_wp2_with fail
        go_ret
        exact ⟨rfl, bel hb1.out kw⟩
    · have hb64 : ((bs.length : Int) != 64) = false := by simp; omega
      have hb1' := Lib.hid hb1
      clear hb1
      go_wp2_with fail
      go_ret
      exact ⟨rfl, hb1'.out⟩
  · have hb64 : ((bs.length : Int) != 64) = true := by simp; omega
    have hb1' := Lib.hid hb1
    clear hb1
    go_wp2_with fail
    go_ret
    exact ⟨rfl, hb1'.out⟩

end Go.Proofs.Ytdggikbaemigbaa
