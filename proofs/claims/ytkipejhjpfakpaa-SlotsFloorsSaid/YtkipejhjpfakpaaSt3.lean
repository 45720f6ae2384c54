/- slots: the reference's MayState. -/
import Derived.Test.YtkipejhjpfakpaaSt2
namespace Go.Proofs.Ytkipejhjpfakpaa
open Go.RowKit

theorem slotB_0 {m : List UInt8} {d : Bool} {t : Int} (h : m.length = 0) : slotB m d t = (!d && decide (t = 0)) := by unfold slotB; rw [if_pos h]
theorem slotB_1 {m : List UInt8} {d : Bool} {t : Int} (h : ¬ m.length = 0) : slotB m d t = (decide ((m.length : Int) = 300) && decide (0 ≤ t) && decide (t ≤ 3)) := by unfold slotB; rw [if_neg h]


set_option maxHeartbeats 8000000 in
set_option maxRecDepth 100000 in
theorem mayState_any (S : Stt) (v : Sv) (w : World) (h : StOk w S v) :
    Calls Try.prog 13 #[.agg (S.cs v).toArray] w (MayPost S w) := by
  obtain ⟨f, l, m0, d0, t0, m1, d1, t1, a⟩ := S
  obtain ⟨vr, v0, v1⟩ := v
  obtain ⟨hr, h0, h1⟩ := h
  simp only at hr h0 h1
  obtain ⟨ar, cr, rfl, hc1, hc2⟩ := slice_of hr
  obtain ⟨a0, c0, rfl, hc3, hc4⟩ := slice_of h0
  obtain ⟨a1, c1, rfl, hc5, hc6⟩ := slice_of h1
  rw [ints_len] at hr hc1
  rw [u8s_len] at h0 hc3 h1 hc5
  simp only [ints_len, u8s_len]
  have hno : ∀ (w' : World), ¬ mayP ⟨f, l, m0, d0, t0, m1, d1, t1, a⟩ → Below w.heap.size w w' → MayPost ⟨f, l, m0, d0, t0, m1, d1, t1, a⟩ w (.returned (.bool false)) w' := fun w' h1 h2 => ⟨false, rfl, by simp [h1], h2⟩
  have hmk := fun b c d e u g i j k => (mayP.mk (S := ⟨f, l, m0, d0, t0, m1, d1, t1, a⟩) b c d e u g i j k)
  simp only at hmk
  replace hr := Lib.hid hr
  clear h0 h1
  replace hno := Lib.hid hno
  replace hmk := Lib.hid hmk
  go_enter Try.func13, Try.ntmps13
  go_upto_region 1 with fail
  refine wp_new1 (fun W hsz k1 kb => ?_)
  have k1 : Arr W w.heap.size (Stt.cs ⟨f, l, m0, d0, t0, m1, d1, t1, a⟩ ⟨.slice ar l.length cr, .slice a0 m0.length c0, .slice a1 m1.length c1⟩) := k1
  have x0 := k1.cell (j := 0) rfl
  have x1 := k1.cell (j := 1) rfl
  have x8 := k1.cell (j := 8) rfl
  simp only at x0 x1 x8
  clear hsz
  replace k1 := Lib.hid k1
  replace kb := Lib.hid kb
  go_wp2_with fail
  refine (small_any _ _).mono ?_
  rintro e w' ⟨rfl, hw⟩
  rw [hw]
  clear hw w'
  by_cases q1 : numB f = true
  rotate_left
  · rw [show numB f = false by simpa using q1]
    go_wp2_with fail
    go_ret
    exact hno.out _ (fun h => q1 h.floor) kb.out
  rw [q1]
  have q1 := Lib.hid q1
  by_cases q2 : 32 < l.length
  · have iw : (32 : Int) < (l.length : Int) := by omega
    go_wp2_with fail
    go_ret
    exact hno.out _ (fun h => by have := h.len; simp only at this; omega) kb.out
  by_cases q3 : a < -1
  · have iw : ¬ (32 : Int) < (l.length : Int) := by omega
    go_wp2_with fail
    go_ret
    exact hno.out _ (fun h => by have := h.lo; simp only at this; omega) kb.out
  by_cases q4 : 1 < a
  · have iw : ¬ (32 : Int) < (l.length : Int) := by omega
    go_wp2_with fail
    go_ret
    exact hno.out _ (fun h => by have := h.hi; simp only at this; omega) kb.out
  have iw : ¬ (32 : Int) < (l.length : Int) := by omega
  have hlen : l.length ≤ 32 := by omega
  go_wp2_with fail
  clear x0 x1 x8
  go_loopw [3] (fun jv wr => Arr wr w.heap.size (Stt.cs ⟨f, l, m0, d0, t0, m1, d1, t1, a⟩ ⟨.slice ar l.length cr, .slice a0 m0.length c0, .slice a1 m1.length c1⟩) ∧ Below w.heap.size w wr ∧ ∃ j : Nat, j ≤ l.length ∧ jv = .int .i64 j ∧ revP l j) (fun jv _ => l.length - (intOf jv).toNat)
  case atStart => exact ⟨k1.out, kb.out, 0, by omega, rfl, fun i _ h => absurd h (by omega)⟩
  case round =>
    clear k1 kb
    obtain ⟨k1, kb, j, hj, rfl, hrv⟩ := hrel
    have hrv := Lib.hid hrv
    have x0 := k1.cell (j := 0) rfl
    have x1 := k1.cell (j := 1) rfl
    have x2 := k1.cell (j := 2) rfl
    have x3 := k1.cell (j := 3) rfl
    have x5 := k1.cell (j := 5) rfl
    have x6 := k1.cell (j := 6) rfl
    have x8 := k1.cell (j := 8) rfl
    simp only at x0 x1 x2 x3 x5 x6 x8
    by_cases hlt : j < l.length
    · obtain ⟨b, o, rfl, -, -, -, hcc⟩ := hr.out.at (by rw [ints_len]; omega)
      have hc0 := hcc j _ (ints_get hlt)
      have hb0 := World.block_lt_of_cell? w _ hc0
      have hw0 : wr.cell? ⟨b, o + j, none⟩ = some (.int .i64 l[j]) := by rw [kb.cell (World.block_lt_of_cell? w _ hc0)]; exact hc0
      have hstep := Lib.hid (revP_step hrv.out hlt)
      have hbad : ¬ (numB l[j] = true ∧ ∀ h0 : 0 < j, l[j - 1] < l[j]) → ¬ mayP ⟨f, l, m0, d0, t0, m1, d1, t1, a⟩ := fun h1 h2 => h1 (h2.rev j hlt hlt)
      replace hbad := Lib.hid hbad
      clear x0 x2 x3 x5 x6 x8
      cases j with
      | zero =>
        obtain ⟨z, hz⟩ : ∃ z, l[0] = z := ⟨_, rfl⟩
        simp only [hz, Nat.add_zero] at hw0 hstep hbad
        clear hc0 hcc
        replace hz := Lib.hid hz
        by_cases q5 : numB z = true
        · replace q5 := Lib.hid q5
          have small_t : ∀ w : World, Calls Try.prog 37 #[.int .i64 z] w fun e w' => e = .returned (.bool true) ∧ Below w.heap.size w w' := fun w => (small_any z w).mono (fun e w' h => ⟨by rw [h.1, q5.out], by rw [h.2]; exact Below.refl _ _⟩)
          replace small_t := Lib.hid small_t
          go_upto_region 6 with (first | (refine wpList_load_arr2 rfl _ _ rfl _ rfl (by decide +kernel) _ (by assumption) (by first | (rw [lims_len]; kernel_rfl) | (rw [el_rep]; kernel_rfl) | (rw [el_len]; kernel_rfl) | (rw [byts_len]; kernel_rfl) | (rw [us_len]; kernel_rfl) | (rw [bytn_len]; kernel_rfl) | (rw [ens_len, digs_len]; kernel_rfl) | kernel_rfl) ?_) | (refine wpList_store_arr rfl _ _ _ rfl _ _ rfl rfl _ (by first | assumption | exact Arr.new _ _ _) (by first | (rw [lims_len]; kernel_rfl) | (rw [el_rep]; kernel_rfl) | (rw [el_len]; kernel_rfl) | (rw [byts_len]; kernel_rfl) | (rw [us_len]; kernel_rfl) | (rw [bytn_len]; kernel_rfl) | (rw [ens_len, digs_len]; kernel_rfl) | kernel_rfl) (by first | (rw [lims_len, lims_len]) | (rw [el_rep, el_rep]) | (rw [el_rep, el_len]; rfl) | (rw [el_len, el_rep]; rfl) | (rw [el_len, el_len]; rfl) | (rw [byts_len, byts_len]) | (rw [lims_len]; rfl) | (rw [byts_len]; rfl) | (rw [us_len, us_len]; rfl) | (rw [bytn_len, bytn_len]) | (rw [bytn_len]; rfl) | (rw [ens_len, ens_len, digs_len, digs_len]) | rfl) (by first | exact lims_one _ _ | exact el_one _ | exact byts_one _ | exact us_one _ | exact bytn_one _ _ | exact ens_one _ | (intro v hv; simp at hv; rcases hv with rfl | rfl | rfl | rfl <;> rfl)) ?_))
          refine Tx.start (fun w' => Below (wr).heap.size (wr) w') 9999 25 rfl (by kernel_rfl) ?_
          have hS_1 : Below (wr).heap.size (wr) (World.drew wr) := (Below.refl _ _).drew
          refine Tx.seg (A := ?_) 20 31 (by kernel_rfl) (by exact hS_1) [0, 1, 2, 3, 4] (by kernel_rfl) ?_ ?_
          rotate_left
          · intro w' hB
            have e0 := k1.below hB
            have x1 := e0.cell (j := 1) rfl
            have x7 : w'.cell? ⟨b, o, none⟩ = some (.int .i64 z) := (by rw [hB.cell (p := ⟨b, o, none⟩) (World.block_lt_of_cell? wr _ hw0)]; exact hw0)
            iterate 5 (first | (refine rd_skip rfl rfl ?_; simp only [Act.put, List.setIfInBounds_toArray, List.set_cons_zero, List.set_cons_succ]) | (refine rd_load_arr rfl rfl _ _ rfl _ rfl (by decide +kernel) _ (by assumption) (by first | (rw [lims_len]; kernel_rfl) | (rw [el_rep]; kernel_rfl) | (rw [el_len]; kernel_rfl) | (rw [byts_len]; kernel_rfl) | (rw [us_len]; kernel_rfl) | (rw [bytn_len]; kernel_rfl) | (rw [ens_len, digs_len]; kernel_rfl) | kernel_rfl) ?_; simp only [Act.put, List.setIfInBounds_toArray, List.set_cons_zero, List.set_cons_succ]) | (refine rd_take (v := ?_) rfl rfl ?_ ?_; rotate_left; (focus (go_simp; try (with_reducible rfl))); simp only [Act.put, List.setIfInBounds_toArray, List.set_cons_zero, List.set_cons_succ]) | (refine rd_take (v := ?_) rfl rfl ?_ ?_; rotate_left; (focus (try go_simp); fail)))
            exact rd_nil
          refine Tx.eff 5 63 rfl (by decide +kernel) (fun K hK => ?_)
          go_simp
          refine (small_t.out _).mono ?_
          rintro e w_2 ⟨rfl, hb_2⟩
          have hS_2 := ext_trans hS_1 (Nat.le_refl _) hb_2
          refine hK (fun w' => Below (wr).heap.size (wr) w') _ _ hS_2 (fun _ h => h) ?_
          clear hK K hb_2 hS_1
          try simp only [Act.put, List.setIfInBounds_toArray, List.set_cons_zero, List.set_cons_succ]
          refine Tx.seg (A := ?_) 0 33554431 (by kernel_rfl) (by exact hS_2) [6, 7, 8, 9, 10, 11, 12, 13, 14, 15, 16, 17, 18, 19, 20, 21, 22, 23, 24] (by kernel_rfl) ?_ ?_
          rotate_left
          · intro w' hB
            have e0 := k1.below hB
            have x1 := e0.cell (j := 1) rfl
            have x7 : w'.cell? ⟨b, o, none⟩ = some (.int .i64 z) := (by rw [hB.cell (p := ⟨b, o, none⟩) (World.block_lt_of_cell? wr _ hw0)]; exact hw0)
            iterate 19 (first | (refine rd_skip rfl rfl ?_; simp only [Act.put, List.setIfInBounds_toArray, List.set_cons_zero, List.set_cons_succ]) | (refine rd_load_arr rfl rfl _ _ rfl _ rfl (by decide +kernel) _ (by assumption) (by first | (rw [lims_len]; kernel_rfl) | (rw [el_rep]; kernel_rfl) | (rw [el_len]; kernel_rfl) | (rw [byts_len]; kernel_rfl) | (rw [us_len]; kernel_rfl) | (rw [bytn_len]; kernel_rfl) | (rw [ens_len, digs_len]; kernel_rfl) | kernel_rfl) ?_; simp only [Act.put, List.setIfInBounds_toArray, List.set_cons_zero, List.set_cons_succ]) | (refine rd_take (v := ?_) rfl rfl ?_ ?_; rotate_left; (focus (go_simp; try (with_reducible rfl))); simp only [Act.put, List.setIfInBounds_toArray, List.set_cons_zero, List.set_cons_succ]) | (refine rd_take (v := ?_) rfl rfl ?_ ?_; rotate_left; (focus (try go_simp); fail)))
            exact rd_nil
          refine Tx.done (by kernel_rfl) ?_
          have k1 := k1.below hS_2
          have kb := bel kb hS_2
          clear hS_2
          go_wp2_with fail
          refine ⟨⟨k1, kb, 1, by omega, rfl, ?_⟩, by simp [intOf]; omega⟩
          exact hstep.out q5.out (fun h => absurd h (by omega))
        · have q6 : Hid (numB z = false) := Lib.hid (by simpa using q5)
          have small_t : ∀ w : World, Calls Try.prog 37 #[.int .i64 z] w fun e w' => e = .returned (.bool false) ∧ Below w.heap.size w w' := fun w => (small_any z w).mono (fun e w' h => ⟨by rw [h.1, q6.out], by rw [h.2]; exact Below.refl _ _⟩)
          replace small_t := Lib.hid small_t
          replace q5 := Lib.hid q5
          go_upto_region 6 with (first | (refine wpList_load_arr2 rfl _ _ rfl _ rfl (by decide +kernel) _ (by assumption) (by first | (rw [lims_len]; kernel_rfl) | (rw [el_rep]; kernel_rfl) | (rw [el_len]; kernel_rfl) | (rw [byts_len]; kernel_rfl) | (rw [us_len]; kernel_rfl) | (rw [bytn_len]; kernel_rfl) | (rw [ens_len, digs_len]; kernel_rfl) | kernel_rfl) ?_) | (refine wpList_store_arr rfl _ _ _ rfl _ _ rfl rfl _ (by first | assumption | exact Arr.new _ _ _) (by first | (rw [lims_len]; kernel_rfl) | (rw [el_rep]; kernel_rfl) | (rw [el_len]; kernel_rfl) | (rw [byts_len]; kernel_rfl) | (rw [us_len]; kernel_rfl) | (rw [bytn_len]; kernel_rfl) | (rw [ens_len, digs_len]; kernel_rfl) | kernel_rfl) (by first | (rw [lims_len, lims_len]) | (rw [el_rep, el_rep]) | (rw [el_rep, el_len]; rfl) | (rw [el_len, el_rep]; rfl) | (rw [el_len, el_len]; rfl) | (rw [byts_len, byts_len]) | (rw [lims_len]; rfl) | (rw [byts_len]; rfl) | (rw [us_len, us_len]; rfl) | (rw [bytn_len, bytn_len]) | (rw [bytn_len]; rfl) | (rw [ens_len, ens_len, digs_len, digs_len]) | rfl) (by first | exact lims_one _ _ | exact el_one _ | exact byts_one _ | exact us_one _ | exact bytn_one _ _ | exact ens_one _ | (intro v hv; simp at hv; rcases hv with rfl | rfl | rfl | rfl <;> rfl)) ?_))
          refine Tx.start (fun w' => Below (wr).heap.size (wr) w') 9999 25 rfl (by kernel_rfl) ?_
          have hS_3 : Below (wr).heap.size (wr) (World.drew wr) := (Below.refl _ _).drew
          refine Tx.seg (A := ?_) 20 31 (by kernel_rfl) (by exact hS_3) [0, 1, 2, 3, 4] (by kernel_rfl) ?_ ?_
          rotate_left
          · intro w' hB
            have e0 := k1.below hB
            have x1 := e0.cell (j := 1) rfl
            have x7 : w'.cell? ⟨b, o, none⟩ = some (.int .i64 z) := (by rw [hB.cell (p := ⟨b, o, none⟩) (World.block_lt_of_cell? wr _ hw0)]; exact hw0)
            iterate 5 (first | (refine rd_skip rfl rfl ?_; simp only [Act.put, List.setIfInBounds_toArray, List.set_cons_zero, List.set_cons_succ]) | (refine rd_load_arr rfl rfl _ _ rfl _ rfl (by decide +kernel) _ (by assumption) (by first | (rw [lims_len]; kernel_rfl) | (rw [el_rep]; kernel_rfl) | (rw [el_len]; kernel_rfl) | (rw [byts_len]; kernel_rfl) | (rw [us_len]; kernel_rfl) | (rw [bytn_len]; kernel_rfl) | (rw [ens_len, digs_len]; kernel_rfl) | kernel_rfl) ?_; simp only [Act.put, List.setIfInBounds_toArray, List.set_cons_zero, List.set_cons_succ]) | (refine rd_take (v := ?_) rfl rfl ?_ ?_; rotate_left; (focus (go_simp; try (with_reducible rfl))); simp only [Act.put, List.setIfInBounds_toArray, List.set_cons_zero, List.set_cons_succ]) | (refine rd_take (v := ?_) rfl rfl ?_ ?_; rotate_left; (focus (try go_simp); fail)))
            exact rd_nil
          refine Tx.eff 5 63 rfl (by decide +kernel) (fun K hK => ?_)
          go_simp
          refine (small_t.out _).mono ?_
          rintro e w_4 ⟨rfl, hb_4⟩
          have hS_4 := ext_trans hS_3 (Nat.le_refl _) hb_4
          refine hK (fun w' => Below (wr).heap.size (wr) w') _ _ hS_4 (fun _ h => h) ?_
          clear hK K hb_4 hS_3
          try simp only [Act.put, List.setIfInBounds_toArray, List.set_cons_zero, List.set_cons_succ]
          refine Tx.seg (A := ?_) 0 33554431 (by kernel_rfl) (by exact hS_4) [6, 7, 8, 9, 10, 11, 12, 13, 14, 15, 16, 17, 18, 19, 20, 21, 22, 23, 24] (by kernel_rfl) ?_ ?_
          rotate_left
          · intro w' hB
            have e0 := k1.below hB
            have x1 := e0.cell (j := 1) rfl
            have x7 : w'.cell? ⟨b, o, none⟩ = some (.int .i64 z) := (by rw [hB.cell (p := ⟨b, o, none⟩) (World.block_lt_of_cell? wr _ hw0)]; exact hw0)
            iterate 19 (first | (refine rd_skip rfl rfl ?_; simp only [Act.put, List.setIfInBounds_toArray, List.set_cons_zero, List.set_cons_succ]) | (refine rd_load_arr rfl rfl _ _ rfl _ rfl (by decide +kernel) _ (by assumption) (by first | (rw [lims_len]; kernel_rfl) | (rw [el_rep]; kernel_rfl) | (rw [el_len]; kernel_rfl) | (rw [byts_len]; kernel_rfl) | (rw [us_len]; kernel_rfl) | (rw [bytn_len]; kernel_rfl) | (rw [ens_len, digs_len]; kernel_rfl) | kernel_rfl) ?_; simp only [Act.put, List.setIfInBounds_toArray, List.set_cons_zero, List.set_cons_succ]) | (refine rd_take (v := ?_) rfl rfl ?_ ?_; rotate_left; (focus (go_simp; try (with_reducible rfl))); simp only [Act.put, List.setIfInBounds_toArray, List.set_cons_zero, List.set_cons_succ]) | (refine rd_take (v := ?_) rfl rfl ?_ ?_; rotate_left; (focus (try go_simp); fail)))
            exact rd_nil
          refine Tx.done (by kernel_rfl) ?_
          have k1 := k1.below hS_4
          have kb := bel kb hS_4
          clear hS_4
          go_wp2_with fail
          go_ret
          exact hno.out _ (hbad.out (fun h => q5.out h.1)) kb
      | succ i =>
        have hc1' := hcc i _ (ints_get (show i < l.length by omega))
        have hw1 : wr.cell? ⟨b, o + i, none⟩ = some (.int .i64 l[i]) := by rw [kb.cell (World.block_lt_of_cell? w _ hc1')]; exact hc1'
        obtain ⟨z, hz⟩ : ∃ z, l[i + 1] = z := ⟨_, rfl⟩
        obtain ⟨y, hy⟩ : ∃ y, l[i] = y := ⟨_, rfl⟩
        simp only [Nat.add_sub_cancel, hz, hy] at hw0 hw1 hstep hbad
        clear hc0 hcc hc1'
        replace hz := Lib.hid hz
        replace hy := Lib.hid hy
        have iwj : IntKind.i64.wrap ((i : Int) + 1 - 1) = (i : Int) := i64_in' (by omega) (by omega)
        have gt0 : decide ((0 : Int) < (i : Int) + 1) = true := by simp <;> omega
        have hi0 : (0 : Int) ≤ (i : Int) + 1 := by omega
        have hi1 : (i : Int) + 1 < (l.length : Int) := by omega
        have hi2 : (i : Int) < (l.length : Int) := by omega
        have iwi : IntKind.i64.wrap (i : Int) = (i : Int) := i64_in (by omega)
        by_cases q5 : numB z = true
        · replace q5 := Lib.hid q5
          have small_t : ∀ w : World, Calls Try.prog 37 #[.int .i64 z] w fun e w' => e = .returned (.bool true) ∧ Below w.heap.size w w' := fun w => (small_any z w).mono (fun e w' h => ⟨by rw [h.1, q5.out], by rw [h.2]; exact Below.refl _ _⟩)
          replace small_t := Lib.hid small_t
          by_cases q6 : y < z
          · have q7 : decide (z ≤ y) = false := by simp; omega
            go_upto_region 6 with (first | (refine wpList_load_arr2 rfl _ _ rfl _ rfl (by decide +kernel) _ (by assumption) (by first | (rw [lims_len]; kernel_rfl) | (rw [el_rep]; kernel_rfl) | (rw [el_len]; kernel_rfl) | (rw [byts_len]; kernel_rfl) | (rw [us_len]; kernel_rfl) | (rw [bytn_len]; kernel_rfl) | (rw [ens_len, digs_len]; kernel_rfl) | kernel_rfl) ?_) | (refine wpList_store_arr rfl _ _ _ rfl _ _ rfl rfl _ (by first | assumption | exact Arr.new _ _ _) (by first | (rw [lims_len]; kernel_rfl) | (rw [el_rep]; kernel_rfl) | (rw [el_len]; kernel_rfl) | (rw [byts_len]; kernel_rfl) | (rw [us_len]; kernel_rfl) | (rw [bytn_len]; kernel_rfl) | (rw [ens_len, digs_len]; kernel_rfl) | kernel_rfl) (by first | (rw [lims_len, lims_len]) | (rw [el_rep, el_rep]) | (rw [el_rep, el_len]; rfl) | (rw [el_len, el_rep]; rfl) | (rw [el_len, el_len]; rfl) | (rw [byts_len, byts_len]) | (rw [lims_len]; rfl) | (rw [byts_len]; rfl) | (rw [us_len, us_len]; rfl) | (rw [bytn_len, bytn_len]) | (rw [bytn_len]; rfl) | (rw [ens_len, ens_len, digs_len, digs_len]) | rfl) (by first | exact lims_one _ _ | exact el_one _ | exact byts_one _ | exact us_one _ | exact bytn_one _ _ | exact ens_one _ | (intro v hv; simp at hv; rcases hv with rfl | rfl | rfl | rfl <;> rfl)) ?_))
            refine Tx.start (fun w' => Below (wr).heap.size (wr) w') 9999 25 rfl (by kernel_rfl) ?_
            have hS_5 : Below (wr).heap.size (wr) (World.drew wr) := (Below.refl _ _).drew
            refine Tx.seg (A := ?_) 20 31 (by kernel_rfl) (by exact hS_5) [0, 1, 2, 3, 4] (by kernel_rfl) ?_ ?_
            rotate_left
            · intro w' hB
              have e0 := k1.below hB
              have x1 := e0.cell (j := 1) rfl
              have x7 : w'.cell? ⟨b, o + (i + 1), none⟩ = some (.int .i64 z) := (by rw [hB.cell (p := ⟨b, o + (i + 1), none⟩) (World.block_lt_of_cell? wr _ hw0)]; exact hw0)
              have x9 : w'.cell? ⟨b, o + i, none⟩ = some (.int .i64 y) := (by rw [hB.cell (p := ⟨b, o + i, none⟩) (World.block_lt_of_cell? wr _ hw1)]; exact hw1)
              iterate 5 (first | (refine rd_skip rfl rfl ?_; simp only [Act.put, List.setIfInBounds_toArray, List.set_cons_zero, List.set_cons_succ]) | (refine rd_load_arr rfl rfl _ _ rfl _ rfl (by decide +kernel) _ (by assumption) (by first | (rw [lims_len]; kernel_rfl) | (rw [el_rep]; kernel_rfl) | (rw [el_len]; kernel_rfl) | (rw [byts_len]; kernel_rfl) | (rw [us_len]; kernel_rfl) | (rw [bytn_len]; kernel_rfl) | (rw [ens_len, digs_len]; kernel_rfl) | kernel_rfl) ?_; simp only [Act.put, List.setIfInBounds_toArray, List.set_cons_zero, List.set_cons_succ]) | (refine rd_take (v := ?_) rfl rfl ?_ ?_; rotate_left; (focus (go_simp; try (with_reducible rfl))); simp only [Act.put, List.setIfInBounds_toArray, List.set_cons_zero, List.set_cons_succ]) | (refine rd_take (v := ?_) rfl rfl ?_ ?_; rotate_left; (focus (try go_simp); fail)))
              exact rd_nil
            refine Tx.eff 5 63 rfl (by decide +kernel) (fun K hK => ?_)
            go_simp
            refine (small_t.out _).mono ?_
            rintro e w_6 ⟨rfl, hb_6⟩
            have hS_6 := ext_trans hS_5 (Nat.le_refl _) hb_6
            refine hK (fun w' => Below (wr).heap.size (wr) w') _ _ hS_6 (fun _ h => h) ?_
            clear hK K hb_6 hS_5
            try simp only [Act.put, List.setIfInBounds_toArray, List.set_cons_zero, List.set_cons_succ]
            refine Tx.seg (A := ?_) 0 33554431 (by kernel_rfl) (by exact hS_6) [6, 7, 8, 9, 10, 11, 12, 13, 14, 15, 16, 17, 18, 19, 20, 21, 22, 23, 24] (by kernel_rfl) ?_ ?_
            rotate_left
            · intro w' hB
              have e0 := k1.below hB
              have x1 := e0.cell (j := 1) rfl
              have x7 : w'.cell? ⟨b, o + (i + 1), none⟩ = some (.int .i64 z) := (by rw [hB.cell (p := ⟨b, o + (i + 1), none⟩) (World.block_lt_of_cell? wr _ hw0)]; exact hw0)
              have x9 : w'.cell? ⟨b, o + i, none⟩ = some (.int .i64 y) := (by rw [hB.cell (p := ⟨b, o + i, none⟩) (World.block_lt_of_cell? wr _ hw1)]; exact hw1)
              iterate 19 (first | (refine rd_skip rfl rfl ?_; simp only [Act.put, List.setIfInBounds_toArray, List.set_cons_zero, List.set_cons_succ]) | (refine rd_load_arr rfl rfl _ _ rfl _ rfl (by decide +kernel) _ (by assumption) (by first | (rw [lims_len]; kernel_rfl) | (rw [el_rep]; kernel_rfl) | (rw [el_len]; kernel_rfl) | (rw [byts_len]; kernel_rfl) | (rw [us_len]; kernel_rfl) | (rw [bytn_len]; kernel_rfl) | (rw [ens_len, digs_len]; kernel_rfl) | kernel_rfl) ?_; simp only [Act.put, List.setIfInBounds_toArray, List.set_cons_zero, List.set_cons_succ]) | (refine rd_take (v := ?_) rfl rfl ?_ ?_; rotate_left; (focus (go_simp; try (with_reducible rfl))); simp only [Act.put, List.setIfInBounds_toArray, List.set_cons_zero, List.set_cons_succ]) | (refine rd_take (v := ?_) rfl rfl ?_ ?_; rotate_left; (focus (try go_simp); fail)))
              exact rd_nil
            refine Tx.done (by kernel_rfl) ?_
            have k1 := k1.below hS_6
            have kb := bel kb hS_6
            clear hS_6
            go_wp2_with fail
            refine ⟨⟨k1, kb, i + 1 + 1, by omega, by go_num, ?_⟩, by simp [intOf]; omega⟩
            exact hstep.out q5.out (fun _ => q6)
          · have q7 : decide (z ≤ y) = true := by simp; omega
            go_upto_region 6 with (first | (refine wpList_load_arr2 rfl _ _ rfl _ rfl (by decide +kernel) _ (by assumption) (by first | (rw [lims_len]; kernel_rfl) | (rw [el_rep]; kernel_rfl) | (rw [el_len]; kernel_rfl) | (rw [byts_len]; kernel_rfl) | (rw [us_len]; kernel_rfl) | (rw [bytn_len]; kernel_rfl) | (rw [ens_len, digs_len]; kernel_rfl) | kernel_rfl) ?_) | (refine wpList_store_arr rfl _ _ _ rfl _ _ rfl rfl _ (by first | assumption | exact Arr.new _ _ _) (by first | (rw [lims_len]; kernel_rfl) | (rw [el_rep]; kernel_rfl) | (rw [el_len]; kernel_rfl) | (rw [byts_len]; kernel_rfl) | (rw [us_len]; kernel_rfl) | (rw [bytn_len]; kernel_rfl) | (rw [ens_len, digs_len]; kernel_rfl) | kernel_rfl) (by first | (rw [lims_len, lims_len]) | (rw [el_rep, el_rep]) | (rw [el_rep, el_len]; rfl) | (rw [el_len, el_rep]; rfl) | (rw [el_len, el_len]; rfl) | (rw [byts_len, byts_len]) | (rw [lims_len]; rfl) | (rw [byts_len]; rfl) | (rw [us_len, us_len]; rfl) | (rw [bytn_len, bytn_len]) | (rw [bytn_len]; rfl) | (rw [ens_len, ens_len, digs_len, digs_len]) | rfl) (by first | exact lims_one _ _ | exact el_one _ | exact byts_one _ | exact us_one _ | exact bytn_one _ _ | exact ens_one _ | (intro v hv; simp at hv; rcases hv with rfl | rfl | rfl | rfl <;> rfl)) ?_))
            refine Tx.start (fun w' => Below (wr).heap.size (wr) w') 9999 25 rfl (by kernel_rfl) ?_
            have hS_7 : Below (wr).heap.size (wr) (World.drew wr) := (Below.refl _ _).drew
            refine Tx.seg (A := ?_) 20 31 (by kernel_rfl) (by exact hS_7) [0, 1, 2, 3, 4] (by kernel_rfl) ?_ ?_
            rotate_left
            · intro w' hB
              have e0 := k1.below hB
              have x1 := e0.cell (j := 1) rfl
              have x7 : w'.cell? ⟨b, o + (i + 1), none⟩ = some (.int .i64 z) := (by rw [hB.cell (p := ⟨b, o + (i + 1), none⟩) (World.block_lt_of_cell? wr _ hw0)]; exact hw0)
              have x9 : w'.cell? ⟨b, o + i, none⟩ = some (.int .i64 y) := (by rw [hB.cell (p := ⟨b, o + i, none⟩) (World.block_lt_of_cell? wr _ hw1)]; exact hw1)
              iterate 5 (first | (refine rd_skip rfl rfl ?_; simp only [Act.put, List.setIfInBounds_toArray, List.set_cons_zero, List.set_cons_succ]) | (refine rd_load_arr rfl rfl _ _ rfl _ rfl (by decide +kernel) _ (by assumption) (by first | (rw [lims_len]; kernel_rfl) | (rw [el_rep]; kernel_rfl) | (rw [el_len]; kernel_rfl) | (rw [byts_len]; kernel_rfl) | (rw [us_len]; kernel_rfl) | (rw [bytn_len]; kernel_rfl) | (rw [ens_len, digs_len]; kernel_rfl) | kernel_rfl) ?_; simp only [Act.put, List.setIfInBounds_toArray, List.set_cons_zero, List.set_cons_succ]) | (refine rd_take (v := ?_) rfl rfl ?_ ?_; rotate_left; (focus (go_simp; try (with_reducible rfl))); simp only [Act.put, List.setIfInBounds_toArray, List.set_cons_zero, List.set_cons_succ]) | (refine rd_take (v := ?_) rfl rfl ?_ ?_; rotate_left; (focus (try go_simp); fail)))
              exact rd_nil
            refine Tx.eff 5 63 rfl (by decide +kernel) (fun K hK => ?_)
            go_simp
            refine (small_t.out _).mono ?_
            rintro e w_8 ⟨rfl, hb_8⟩
            have hS_8 := ext_trans hS_7 (Nat.le_refl _) hb_8
            refine hK (fun w' => Below (wr).heap.size (wr) w') _ _ hS_8 (fun _ h => h) ?_
            clear hK K hb_8 hS_7
            try simp only [Act.put, List.setIfInBounds_toArray, List.set_cons_zero, List.set_cons_succ]
            refine Tx.seg (A := ?_) 0 33554431 (by kernel_rfl) (by exact hS_8) [6, 7, 8, 9, 10, 11, 12, 13, 14, 15, 16, 17, 18, 19, 20, 21, 22, 23, 24] (by kernel_rfl) ?_ ?_
            rotate_left
            · intro w' hB
              have e0 := k1.below hB
              have x1 := e0.cell (j := 1) rfl
              have x7 : w'.cell? ⟨b, o + (i + 1), none⟩ = some (.int .i64 z) := (by rw [hB.cell (p := ⟨b, o + (i + 1), none⟩) (World.block_lt_of_cell? wr _ hw0)]; exact hw0)
              have x9 : w'.cell? ⟨b, o + i, none⟩ = some (.int .i64 y) := (by rw [hB.cell (p := ⟨b, o + i, none⟩) (World.block_lt_of_cell? wr _ hw1)]; exact hw1)
              iterate 19 (first | (refine rd_skip rfl rfl ?_; simp only [Act.put, List.setIfInBounds_toArray, List.set_cons_zero, List.set_cons_succ]) | (refine rd_load_arr rfl rfl _ _ rfl _ rfl (by decide +kernel) _ (by assumption) (by first | (rw [lims_len]; kernel_rfl) | (rw [el_rep]; kernel_rfl) | (rw [el_len]; kernel_rfl) | (rw [byts_len]; kernel_rfl) | (rw [us_len]; kernel_rfl) | (rw [bytn_len]; kernel_rfl) | (rw [ens_len, digs_len]; kernel_rfl) | kernel_rfl) ?_; simp only [Act.put, List.setIfInBounds_toArray, List.set_cons_zero, List.set_cons_succ]) | (refine rd_take (v := ?_) rfl rfl ?_ ?_; rotate_left; (focus (go_simp; try (with_reducible rfl))); simp only [Act.put, List.setIfInBounds_toArray, List.set_cons_zero, List.set_cons_succ]) | (refine rd_take (v := ?_) rfl rfl ?_ ?_; rotate_left; (focus (try go_simp); fail)))
              exact rd_nil
            refine Tx.done (by kernel_rfl) ?_
            have k1 := k1.below hS_8
            have kb := bel kb hS_8
            clear hS_8
            go_wp2_with fail
            go_ret
            exact hno.out _ (hbad.out (fun h => by have := h.2 (by omega); omega)) kb
        · have q6 : Hid (numB z = false) := Lib.hid (by simpa using q5)
          have small_t : ∀ w : World, Calls Try.prog 37 #[.int .i64 z] w fun e w' => e = .returned (.bool false) ∧ Below w.heap.size w w' := fun w => (small_any z w).mono (fun e w' h => ⟨by rw [h.1, q6.out], by rw [h.2]; exact Below.refl _ _⟩)
          replace small_t := Lib.hid small_t
          replace q5 := Lib.hid q5
          go_upto_region 6 with (first | (refine wpList_load_arr2 rfl _ _ rfl _ rfl (by decide +kernel) _ (by assumption) (by first | (rw [lims_len]; kernel_rfl) | (rw [el_rep]; kernel_rfl) | (rw [el_len]; kernel_rfl) | (rw [byts_len]; kernel_rfl) | (rw [us_len]; kernel_rfl) | (rw [bytn_len]; kernel_rfl) | (rw [ens_len, digs_len]; kernel_rfl) | kernel_rfl) ?_) | (refine wpList_store_arr rfl _ _ _ rfl _ _ rfl rfl _ (by first | assumption | exact Arr.new _ _ _) (by first | (rw [lims_len]; kernel_rfl) | (rw [el_rep]; kernel_rfl) | (rw [el_len]; kernel_rfl) | (rw [byts_len]; kernel_rfl) | (rw [us_len]; kernel_rfl) | (rw [bytn_len]; kernel_rfl) | (rw [ens_len, digs_len]; kernel_rfl) | kernel_rfl) (by first | (rw [lims_len, lims_len]) | (rw [el_rep, el_rep]) | (rw [el_rep, el_len]; rfl) | (rw [el_len, el_rep]; rfl) | (rw [el_len, el_len]; rfl) | (rw [byts_len, byts_len]) | (rw [lims_len]; rfl) | (rw [byts_len]; rfl) | (rw [us_len, us_len]; rfl) | (rw [bytn_len, bytn_len]) | (rw [bytn_len]; rfl) | (rw [ens_len, ens_len, digs_len, digs_len]) | rfl) (by first | exact lims_one _ _ | exact el_one _ | exact byts_one _ | exact us_one _ | exact bytn_one _ _ | exact ens_one _ | (intro v hv; simp at hv; rcases hv with rfl | rfl | rfl | rfl <;> rfl)) ?_))
          refine Tx.start (fun w' => Below (wr).heap.size (wr) w') 9999 25 rfl (by kernel_rfl) ?_
          have hS_9 : Below (wr).heap.size (wr) (World.drew wr) := (Below.refl _ _).drew
          refine Tx.seg (A := ?_) 20 31 (by kernel_rfl) (by exact hS_9) [0, 1, 2, 3, 4] (by kernel_rfl) ?_ ?_
          rotate_left
          · intro w' hB
            have e0 := k1.below hB
            have x1 := e0.cell (j := 1) rfl
            have x7 : w'.cell? ⟨b, o + (i + 1), none⟩ = some (.int .i64 z) := (by rw [hB.cell (p := ⟨b, o + (i + 1), none⟩) (World.block_lt_of_cell? wr _ hw0)]; exact hw0)
            have x9 : w'.cell? ⟨b, o + i, none⟩ = some (.int .i64 y) := (by rw [hB.cell (p := ⟨b, o + i, none⟩) (World.block_lt_of_cell? wr _ hw1)]; exact hw1)
            iterate 5 (first | (refine rd_skip rfl rfl ?_; simp only [Act.put, List.setIfInBounds_toArray, List.set_cons_zero, List.set_cons_succ]) | (refine rd_load_arr rfl rfl _ _ rfl _ rfl (by decide +kernel) _ (by assumption) (by first | (rw [lims_len]; kernel_rfl) | (rw [el_rep]; kernel_rfl) | (rw [el_len]; kernel_rfl) | (rw [byts_len]; kernel_rfl) | (rw [us_len]; kernel_rfl) | (rw [bytn_len]; kernel_rfl) | (rw [ens_len, digs_len]; kernel_rfl) | kernel_rfl) ?_; simp only [Act.put, List.setIfInBounds_toArray, List.set_cons_zero, List.set_cons_succ]) | (refine rd_take (v := ?_) rfl rfl ?_ ?_; rotate_left; (focus (go_simp; try (with_reducible rfl))); simp only [Act.put, List.setIfInBounds_toArray, List.set_cons_zero, List.set_cons_succ]) | (refine rd_take (v := ?_) rfl rfl ?_ ?_; rotate_left; (focus (try go_simp); fail)))
            exact rd_nil
          refine Tx.eff 5 63 rfl (by decide +kernel) (fun K hK => ?_)
          go_simp
          refine (small_t.out _).mono ?_
          rintro e w_10 ⟨rfl, hb_10⟩
          have hS_10 := ext_trans hS_9 (Nat.le_refl _) hb_10
          refine hK (fun w' => Below (wr).heap.size (wr) w') _ _ hS_10 (fun _ h => h) ?_
          clear hK K hb_10 hS_9
          try simp only [Act.put, List.setIfInBounds_toArray, List.set_cons_zero, List.set_cons_succ]
          refine Tx.seg (A := ?_) 0 33554431 (by kernel_rfl) (by exact hS_10) [6, 7, 8, 9, 10, 11, 12, 13, 14, 15, 16, 17, 18, 19, 20, 21, 22, 23, 24] (by kernel_rfl) ?_ ?_
          rotate_left
          · intro w' hB
            have e0 := k1.below hB
            have x1 := e0.cell (j := 1) rfl
            have x7 : w'.cell? ⟨b, o + (i + 1), none⟩ = some (.int .i64 z) := (by rw [hB.cell (p := ⟨b, o + (i + 1), none⟩) (World.block_lt_of_cell? wr _ hw0)]; exact hw0)
            have x9 : w'.cell? ⟨b, o + i, none⟩ = some (.int .i64 y) := (by rw [hB.cell (p := ⟨b, o + i, none⟩) (World.block_lt_of_cell? wr _ hw1)]; exact hw1)
            iterate 19 (first | (refine rd_skip rfl rfl ?_; simp only [Act.put, List.setIfInBounds_toArray, List.set_cons_zero, List.set_cons_succ]) | (refine rd_load_arr rfl rfl _ _ rfl _ rfl (by decide +kernel) _ (by assumption) (by first | (rw [lims_len]; kernel_rfl) | (rw [el_rep]; kernel_rfl) | (rw [el_len]; kernel_rfl) | (rw [byts_len]; kernel_rfl) | (rw [us_len]; kernel_rfl) | (rw [bytn_len]; kernel_rfl) | (rw [ens_len, digs_len]; kernel_rfl) | kernel_rfl) ?_; simp only [Act.put, List.setIfInBounds_toArray, List.set_cons_zero, List.set_cons_succ]) | (refine rd_take (v := ?_) rfl rfl ?_ ?_; rotate_left; (focus (go_simp; try (with_reducible rfl))); simp only [Act.put, List.setIfInBounds_toArray, List.set_cons_zero, List.set_cons_succ]) | (refine rd_take (v := ?_) rfl rfl ?_ ?_; rotate_left; (focus (try go_simp); fail)))
            exact rd_nil
          refine Tx.done (by kernel_rfl) ?_
          have k1 := k1.below hS_10
          have kb := bel kb hS_10
          clear hS_10
          go_wp2_with fail
          go_ret
          exact hno.out _ (hbad.out (fun h => q5.out h.1)) kb
    · obtain rfl : j = l.length := by omega
      have r0 := Lib.hid (cs_r0 k1)
      have r1 := Lib.hid (cs_r1 k1)
      replace k1 := Lib.hid k1
      replace kb := Lib.hid kb
      replace hrv := hrv
      clear hlt hj
      go_wp2_with fail
      clear x0 x1 x2 x3 x5 x6 x8 r0 r1
      go_loopw [4] (fun jv wr => Arr wr w.heap.size (Stt.cs ⟨f, l, m0, d0, t0, m1, d1, t1, a⟩ ⟨.slice ar l.length cr, .slice a0 m0.length c0, .slice a1 m1.length c1⟩) ∧ Below w.heap.size w wr ∧ ∃ j : Nat, j ≤ 2 ∧ jv = .int .i64 j ∧ (0 < j → slotB m0 d0 t0 = true) ∧ (1 < j → slotB m1 d1 t1 = true)) (fun jv _ => 2 - (intOf jv).toNat)
      case atStart => exact ⟨k1.out, kb.out, 0, by omega, rfl, fun h => absurd h (by omega), fun h => absurd h (by omega)⟩
      case round =>
        clear k1 kb
        rename_i wq _
        obtain ⟨k1, kb, j, hj, rfl, hk0, hk1⟩ := hrel
        have r0 := Lib.hid (cs_r0 k1)
        have r1 := Lib.hid (cs_r1 k1)
        replace k1 := Lib.hid k1
        replace kb := Lib.hid kb
        replace hk0 := Lib.hid hk0
        replace hk1 := Lib.hid hk1
        obtain rfl | rfl | rfl : j = 0 ∨ j = 1 ∨ j = 2 := by omega
        · skip
          go_upto_region 12 with (first | (refine wpList_load_mid2 rfl _ _ rfl _ _ rfl (by kernel_rfl) _ r0.out (by first | (rw [lims_len]; kernel_rfl) | (rw [el_rep]; kernel_rfl) | (rw [el_len]; kernel_rfl) | (rw [byts_len]; kernel_rfl) | (rw [us_len]; kernel_rfl) | (rw [bytn_len]; kernel_rfl) | (rw [ens_len, digs_len]; kernel_rfl) | kernel_rfl) ?_) | fail)
          refine wp_new1 (fun W2 hsz k2 kb2 => ?_)
          have y0 := k2.cell (j := 0) rfl
          have y1 := k2.cell (j := 1) rfl
          have y2 := k2.cell (j := 2) rfl
          try simp only at y0 y1 y2
          have k1 := Lib.hid (k1.out.below kb2)
          have x0 := k1.out.cell (j := 0) rfl
          have x1 := k1.out.cell (j := 1) rfl
          have x2 := k1.out.cell (j := 2) rfl
          have x3 := k1.out.cell (j := 3) rfl
          have x5 := k1.out.cell (j := 5) rfl
          have x6 := k1.out.cell (j := 6) rfl
          have x8 := k1.out.cell (j := 8) rfl
          simp only at x0 x1 x2 x3 x5 x6 x8
          have kb := Lib.hid (bel kb.out kb2)
          have hkb2 := Lib.hid kb2
          clear hsz kb2
          replace k2 := Lib.hid k2
          by_cases c0 : m0.length = 0
          · have iw : ((m0.length : Nat) : Int) = 0 := by omega
            have hs := slotB_0 (d := d0) (t := t0) c0
            cases d0 with
            | true =>
              replace hs := Lib.hid hs
              go_wp2_with fail
              go_ret
              exact hno.out _ (fun h => by have := h.s0; simp only [hs.out] at this; cases this) kb.out
            | false =>
              by_cases c1 : t0 = 0
              · subst c1
                replace hs := Lib.hid hs
                go_wp2_with fail
                refine ⟨⟨k1.out, kb.out, 0 + 1, by omega, by go_num, ?_, ?_⟩, by simp [intOf]⟩ <;> intro qq <;> first | exact hs.out | exact hk0.out (by decide) | exact absurd qq (by omega)
              · replace hs := Lib.hid hs
                go_wp2_with fail
                go_ret
                exact hno.out _ (fun h => by have := h.s0; simp only [hs.out] at this; simp [c1] at this) kb.out
          · have iw : ¬ ((m0.length : Nat) : Int) = 0 := by omega
            have hs := slotB_1 (d := d0) (t := t0) c0
            by_cases c1 : ((m0.length : Nat) : Int) = 300
            · by_cases c2 : t0 < 0
              · replace hs := Lib.hid hs
                replace c1 := Lib.hid c1
                have iw3 : ((m0.length : Nat) : Int) = 300 := c1.out
                go_wp2_with fail
                go_ret
                exact hno.out _ (fun h => by have := h.s0; simp only [hs.out] at this; simp at this; omega) kb.out
              · by_cases c3 : 3 < t0
                · replace hs := Lib.hid hs
                  go_wp2_with fail
                  go_ret
                  exact hno.out _ (fun h => by have := h.s0; simp only [hs.out] at this; simp at this; omega) kb.out
                · replace hs := Lib.hid hs
                  go_wp2_with fail
                  refine ⟨⟨k1.out, kb.out, 0 + 1, by omega, by go_num, ?_, ?_⟩, by simp [intOf]⟩ <;> intro qq <;> first | (rw [hs.out]; simp; omega) | exact hk0.out (by decide) | exact absurd qq (by omega)
            · replace hs := Lib.hid hs
              go_wp2_with fail
              go_ret
              exact hno.out _ (fun h => by have := h.s0; simp only [hs.out] at this; simp [c1] at this) kb.out
        · skip
          go_upto_region 12 with (first | (refine wpList_load_mid2 rfl _ _ rfl _ _ rfl (by kernel_rfl) _ r1.out (by first | (rw [lims_len]; kernel_rfl) | (rw [el_rep]; kernel_rfl) | (rw [el_len]; kernel_rfl) | (rw [byts_len]; kernel_rfl) | (rw [us_len]; kernel_rfl) | (rw [bytn_len]; kernel_rfl) | (rw [ens_len, digs_len]; kernel_rfl) | kernel_rfl) ?_) | fail)
          refine wp_new1 (fun W2 hsz k2 kb2 => ?_)
          have y0 := k2.cell (j := 0) rfl
          have y1 := k2.cell (j := 1) rfl
          have y2 := k2.cell (j := 2) rfl
          try simp only at y0 y1 y2
          have k1 := Lib.hid (k1.out.below kb2)
          have x0 := k1.out.cell (j := 0) rfl
          have x1 := k1.out.cell (j := 1) rfl
          have x2 := k1.out.cell (j := 2) rfl
          have x3 := k1.out.cell (j := 3) rfl
          have x5 := k1.out.cell (j := 5) rfl
          have x6 := k1.out.cell (j := 6) rfl
          have x8 := k1.out.cell (j := 8) rfl
          simp only at x0 x1 x2 x3 x5 x6 x8
          have kb := Lib.hid (bel kb.out kb2)
          have hkb2 := Lib.hid kb2
          clear hsz kb2
          replace k2 := Lib.hid k2
          by_cases c0 : m1.length = 0
          · have iw : ((m1.length : Nat) : Int) = 0 := by omega
            have hs := slotB_0 (d := d1) (t := t1) c0
            cases d1 with
            | true =>
              replace hs := Lib.hid hs
              go_wp2_with fail
              go_ret
              exact hno.out _ (fun h => by have := h.s1; simp only [hs.out] at this; cases this) kb.out
            | false =>
              by_cases c1 : t1 = 0
              · subst c1
                replace hs := Lib.hid hs
                go_wp2_with fail
                refine ⟨⟨k1.out, kb.out, 1 + 1, by omega, by go_num, ?_, ?_⟩, by simp [intOf]⟩ <;> intro qq <;> first | exact hs.out | exact hk0.out (by decide) | exact absurd qq (by omega)
              · replace hs := Lib.hid hs
                go_wp2_with fail
                go_ret
                exact hno.out _ (fun h => by have := h.s1; simp only [hs.out] at this; simp [c1] at this) kb.out
          · have iw : ¬ ((m1.length : Nat) : Int) = 0 := by omega
            have hs := slotB_1 (d := d1) (t := t1) c0
            by_cases c1 : ((m1.length : Nat) : Int) = 300
            · by_cases c2 : t1 < 0
              · replace hs := Lib.hid hs
                replace c1 := Lib.hid c1
                have iw3 : ((m1.length : Nat) : Int) = 300 := c1.out
                go_wp2_with fail
                go_ret
                exact hno.out _ (fun h => by have := h.s1; simp only [hs.out] at this; simp at this; omega) kb.out
              · by_cases c3 : 3 < t1
                · replace hs := Lib.hid hs
                  go_wp2_with fail
                  go_ret
                  exact hno.out _ (fun h => by have := h.s1; simp only [hs.out] at this; simp at this; omega) kb.out
                · replace hs := Lib.hid hs
                  go_wp2_with fail
                  refine ⟨⟨k1.out, kb.out, 1 + 1, by omega, by go_num, ?_, ?_⟩, by simp [intOf]⟩ <;> intro qq <;> first | (rw [hs.out]; simp; omega) | exact hk0.out (by decide) | exact absurd qq (by omega)
            · replace hs := Lib.hid hs
              go_wp2_with fail
              go_ret
              exact hno.out _ (fun h => by have := h.s1; simp only [hs.out] at this; simp [c1] at this) kb.out
        · have s0 := Lib.hid (hk0.out (by decide))
          have s1 := Lib.hid (hk1.out (by decide))
          have x2 := k1.out.cell (j := 2) rfl
          have x3 := k1.out.cell (j := 3) rfl
          have x5 := k1.out.cell (j := 5) rfl
          have x6 := k1.out.cell (j := 6) rfl
          have x8 := k1.out.cell (j := 8) rfl
          simp only at x2 x3 x5 x6 x8
          clear hk0 hk1
          have ha : a = -1 ∨ a = 0 ∨ a = 1 := by omega
          clear q2 q3 q4 iw
          rcases ha with rfl | rfl | rfl
          · go_wp2_with fail
            go_ret
            exact ⟨_, rfl, by simp only [true_iff]; exact hmk.out q1.out hlen (by decide) (by decide) hrv.out (fun h => absurd h (by simp)) (fun h => absurd h (by simp)) s0.out s1.out, kb.out⟩
          · by_cases q2 : m0.length = 0
            · have iw : ¬ (0 : Int) < ((m0.length : Nat) : Int) := by omega
              go_wp2_with fail
              go_ret
              exact hno.out _ (fun h => (h.a0 rfl).1 q2) kb.out
            have iw : (0 : Int) < ((m0.length : Nat) : Int) := by omega
            cases d0 with
            | false =>
              go_wp2_with fail
              go_ret
              exact hno.out _ (fun h => by have := (h.a0 rfl).2; simp at this) kb.out
            | true =>
              go_wp2_with fail
              go_ret
              exact ⟨_, rfl, by simp only [true_iff]; exact hmk.out q1.out hlen (by decide) (by decide) hrv.out (fun _ => ⟨q2, by trivial⟩) (fun h => absurd h (by simp)) s0.out s1.out, kb.out⟩
          · by_cases q2 : m1.length = 0
            · have iw : ¬ (0 : Int) < ((m1.length : Nat) : Int) := by omega
              go_wp2_with fail
              go_ret
              exact hno.out _ (fun h => (h.a1 rfl).1 q2) kb.out
            have iw : (0 : Int) < ((m1.length : Nat) : Int) := by omega
            cases d1 with
            | false =>
              go_wp2_with fail
              go_ret
              exact hno.out _ (fun h => by have := (h.a1 rfl).2; simp at this) kb.out
            | true =>
              go_wp2_with fail
              go_ret
              exact ⟨_, rfl, by simp only [true_iff]; exact hmk.out q1.out hlen (by decide) (by decide) hrv.out (fun h => absurd h (by simp)) (fun _ => ⟨q2, by trivial⟩) s0.out s1.out, kb.out⟩

end Go.Proofs.Ytkipejhjpfakpaa
