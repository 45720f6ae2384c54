/- slots: SameState, Big, alive; small ones. -/
import Derived.Test.YtkipejhjpfakpaaSt9
import Derived.Test.YtkipejhjpfakpaaPh
import Derived.Laws.MakeOwn
namespace Go.Proofs.Ytkipejhjpfakpaa
open Go.RowKit

theorem str {w : World} {v : Value} {bs : List UInt8} (h : Sl w v (u8s bs)) : (convert 23 9 v).run Try.prog w = .ok (.string ⟨bs.toArray⟩) w :=
  run_string_sl h _ 5 _ Try.underlying23 Try.underlying5 Try.underlying9

theorem num_any (n : Int) (w : World) : Calls Try.prog 23 #[.int .i64 n] w fun e w' => e = .returned (.int .i64 n) ∧ w' = w := by
  go_enter Try.func23, Try.ntmps23
  go_wp2_with fail
  go_ret
  exact ⟨rfl, rfl⟩

def bitI (b : Bool) : Int := if b = true then 1 else 0
theorem bit_any (b : Bool) (w : World) : Calls Try.prog 49 #[.bool b] w fun e w' => e = .returned (.int .i64 (bitI b)) ∧ w' = w := by
  cases b with
  | false =>
    go_enter Try.func49, Try.ntmps49
    go_wp2_with fail
    go_ret
    exact ⟨rfl, rfl⟩
  | true =>
    go_enter Try.func49, Try.ntmps49
    go_wp2_with fail
    go_ret
    exact ⟨rfl, rfl⟩

/-- Has a state too much? -/
def bigB (S : Stt) : Bool := decide (60 < S.rev.length) || decide (1000 < S.m0.length) || decide (1000 < S.m1.length)
theorem big_fit {S : Stt} (h : bigB S = false) : S.rev.length ≤ 60 ∧ S.m0.length ≤ 1000 ∧ S.m1.length ≤ 1000 := by
  unfold bigB at h
  simp at h
  omega

theorem big_any (S : Stt) (v : Sv) (w : World) (h : StOk w S v) : Calls Try.prog 12 #[.agg (S.cs v).toArray] w fun e w' => e = .returned (.bool (bigB S)) ∧ Below w.heap.size w w' := by
  obtain ⟨f, l, m0, d0, t0, m1, d1, t1, a⟩ := S
  obtain ⟨vr, v0, v1⟩ := v
  obtain ⟨hr, h0, h1⟩ := h
  simp only at hr h0 h1
  obtain ⟨ar, cr, rfl, hc1, hc2⟩ := slice_of hr
  obtain ⟨a0, c0, rfl, hc3, hc4⟩ := slice_of h0
  obtain ⟨a1, c1, rfl, hc5, hc6⟩ := slice_of h1
  rw [ints_len] at hc1
  rw [u8s_len] at hc3 hc5
  simp only [ints_len, u8s_len]
  clear hr h0 h1
  have hx : bigB ⟨f, l, m0, d0, t0, m1, d1, t1, a⟩ = (decide (60 < l.length) || decide (1000 < m0.length) || decide (1000 < m1.length)) := rfl
  rw [hx]
  clear hx
  go_enter Try.func12, Try.ntmps12
  go_upto_region 1 with fail
  refine wp_new1 (fun W hsz k1 kb => ?_)
  have x1 := k1.cell (j := 1) rfl
  have x2 := k1.cell (j := 2) rfl
  have x5 := k1.cell (j := 5) rfl
  clear hsz
  by_cases q1 : 60 < l.length
  · have iw : (60 : Int) < (l.length : Int) := by omega
    have e1 := Lib.hid (show (decide (60 < l.length) || decide (1000 < m0.length) || decide (1000 < m1.length)) = true by simp [q1])
    clear q1
    go_wp2_with fail
    go_ret
    exact ⟨by rw [e1.out] <;> rfl, kb⟩
  · have iw : ¬ (60 : Int) < (l.length : Int) := by omega
    by_cases q2 : 1000 < m0.length
    · have iw2 : (1000 : Int) < (m0.length : Int) := by omega
      have e1 := Lib.hid (show (decide (60 < l.length) || decide (1000 < m0.length) || decide (1000 < m1.length)) = true by simp [q1, q2])
      clear q1 q2
      go_wp2_with fail
      go_ret
      exact ⟨by rw [e1.out] <;> rfl, kb⟩
    · have iw2 : ¬ (1000 : Int) < (m0.length : Int) := by omega
      by_cases q3 : 1000 < m1.length
      · have iw3 : (1000 : Int) < (m1.length : Int) := by omega
        have e1 := Lib.hid (show (decide (60 < l.length) || decide (1000 < m0.length) || decide (1000 < m1.length)) = true by simp [q1, q2, q3])
        clear q1 q2 q3
        go_wp2_with fail
        go_ret
        exact ⟨by rw [e1.out] <;> rfl, kb⟩
      · have iw3 : ¬ (1000 : Int) < (m1.length : Int) := by omega
        have e1 := Lib.hid (show (decide (60 < l.length) || decide (1000 < m0.length) || decide (1000 < m1.length)) = false by simp [q1, q2, q3])
        clear q1 q2 q3
        go_wp2_with fail
        go_ret
        exact ⟨by rw [e1.out] <;> rfl, kb⟩

set_option maxHeartbeats 4000000 in
set_option maxRecDepth 100000 in
theorem sameState_any (S : Stt) (v u : Sv) (w : World) (h1 : StOk w S v) (h2 : StOk w S u) (hf : StFit S) :
    Calls Try.prog 25 #[.agg (S.cs v).toArray, .agg (S.cs u).toArray] w fun e w' => e = .returned (.bool true) ∧ Below w.heap.size w w' := by
  obtain ⟨f, l, m0, d0, t0, m1, d1, t1, a⟩ := S
  obtain ⟨vr, v0, v1⟩ := v
  obtain ⟨ur, u0, u1⟩ := u
  obtain ⟨hr, h0, h1⟩ := h1
  obtain ⟨gr, g0, g1⟩ := h2
  obtain ⟨hf1, hf2, hf3⟩ := hf
  simp only at hr h0 h1 gr g0 g1 hf1 hf2 hf3
  obtain ⟨ar, cr, rfl, hc1, hc2⟩ := slice_of hr
  obtain ⟨br, dr, rfl, hd1, hd2⟩ := slice_of gr
  rw [ints_len] at hr gr hc1 hd1
  simp only [ints_len]
  have hr := Lib.hid hr
  have gr := Lib.hid gr
  have h0 := Lib.hid h0
  have h1 := Lib.hid h1
  have g0 := Lib.hid g0
  have g1 := Lib.hid g1
  go_enter Try.func25, Try.ntmps25
  go_upto_region 1 with fail
  refine wp_new2 (fun W hsz k1 k2 kb => ?_)
  have k1 : Arr W w.heap.size (Stt.cs ⟨f, l, m0, d0, t0, m1, d1, t1, a⟩ ⟨.slice ar l.length cr, v0, v1⟩) := k1
  have k2 : Arr W (w.heap.size + 1) (Stt.cs ⟨f, l, m0, d0, t0, m1, d1, t1, a⟩ ⟨.slice br l.length dr, u0, u1⟩) := k2
  obtain ⟨G, hG⟩ : ∃ G, w.heap.size = G := ⟨_, rfl⟩
  rw [hG] at k1 k2 hsz ⊢
  replace hG := Lib.hid hG
  clear hsz
  have x0 := k1.cell (j := 0) rfl
  have x1 := k1.cell (j := 1) rfl
  have x8 := k1.cell (j := 8) rfl
  have y0 := k2.cell (j := 0) rfl
  have y1 := k2.cell (j := 1) rfl
  have y8 := k2.cell (j := 8) rfl
  simp only at x0 x1 x8 y0 y1 y8
  go_wp2_with fail
  clear x0 x1 x8 y0 y1 y8
  go_loopw [5] (fun jv wr => Arr wr G (Stt.cs ⟨f, l, m0, d0, t0, m1, d1, t1, a⟩ ⟨.slice ar l.length cr, v0, v1⟩) ∧ Arr wr (G + 1) (Stt.cs ⟨f, l, m0, d0, t0, m1, d1, t1, a⟩ ⟨.slice br l.length dr, u0, u1⟩) ∧ Below w.heap.size w wr ∧ ∃ j : Nat, j ≤ l.length ∧ jv = .int .i64 j) (fun jv _ => l.length - (intOf jv).toNat)
  case atStart => exact ⟨k1, k2, kb, 0, by omega, rfl⟩
  case round =>
    clear k1 k2 kb
    obtain ⟨k1, k2, kb, j, hj, rfl⟩ := hrel
    have x1 := k1.cell (j := 1) rfl
    simp only at x1
    by_cases hlt : j < l.length
    · obtain ⟨b, o, rfl, -, -, -, hcc⟩ := hr.out.at (by rw [ints_len]; omega)
      obtain ⟨b', o', rfl, -, -, -, hdd⟩ := gr.out.at (by rw [ints_len]; omega)
      have hc0 := hcc j _ (ints_get hlt)
      have hd0 := hdd j _ (ints_get hlt)
      have hw0 : wr.cell? ⟨b, o + j, none⟩ = some (.int .i64 l[j]) := by rw [kb.cell (World.block_lt_of_cell? w _ hc0)]; exact hc0
      have hw1 : wr.cell? ⟨b', o' + j, none⟩ = some (.int .i64 l[j]) := by rw [kb.cell (World.block_lt_of_cell? w _ hd0)]; exact hd0
      obtain ⟨z, hz⟩ : ∃ z, l[j] = z := ⟨_, rfl⟩
      simp only [hz] at hw0 hw1
      clear hc0 hd0 hcc hdd hz
      go_upto_region 6 with (first | (refine wpList_load_arr2 rfl _ _ rfl _ rfl (by decide +kernel) _ (by assumption) (by first | (rw [lims_len]; kernel_rfl) | (rw [el_rep]; kernel_rfl) | (rw [el_len]; kernel_rfl) | (rw [byts_len]; kernel_rfl) | (rw [us_len]; kernel_rfl) | (rw [bytn_len]; kernel_rfl) | (rw [ens_len, digs_len]; kernel_rfl) | kernel_rfl) ?_) | (refine wpList_store_arr rfl _ _ _ rfl _ _ rfl rfl _ (by first | assumption | exact Arr.new _ _ _) (by first | (rw [lims_len]; kernel_rfl) | (rw [el_rep]; kernel_rfl) | (rw [el_len]; kernel_rfl) | (rw [byts_len]; kernel_rfl) | (rw [us_len]; kernel_rfl) | (rw [bytn_len]; kernel_rfl) | (rw [ens_len, digs_len]; kernel_rfl) | kernel_rfl) (by first | (rw [lims_len, lims_len]) | (rw [el_rep, el_rep]) | (rw [el_rep, el_len]; rfl) | (rw [el_len, el_rep]; rfl) | (rw [el_len, el_len]; rfl) | (rw [byts_len, byts_len]) | (rw [lims_len]; rfl) | (rw [byts_len]; rfl) | (rw [us_len, us_len]; rfl) | (rw [bytn_len, bytn_len]) | (rw [bytn_len]; rfl) | (rw [ens_len, ens_len, digs_len, digs_len]) | rfl) (by first | exact lims_one _ _ | exact el_one _ | exact byts_one _ | exact us_one _ | exact bytn_one _ _ | exact ens_one _ | (intro v hv; simp at hv; rcases hv with rfl | rfl | rfl | rfl <;> rfl)) ?_))
      refine Tx.start (fun w' => Below (wr).heap.size (wr) w') 9999 11 rfl (by kernel_rfl) ?_
      have hS_1 : Below (wr).heap.size (wr) (World.drew wr) := (Below.refl _ _).drew
      refine Tx.seg (A := ?_) 0 2047 (by kernel_rfl) (by exact hS_1) [0, 1, 2, 3, 4, 5, 6, 7, 8, 9, 10] (by kernel_rfl) ?_ ?_
      rotate_left
      · intro w' hB
        have e0 := k1.below hB
        have e1 := k2.below hB
        have x1 := e0.cell (j := 1) rfl
        have y1 := e1.cell (j := 1) rfl
        have x7 : w'.cell? ⟨b, o + j, none⟩ = some (.int .i64 z) := (by rw [hB.cell (p := ⟨b, o + j, none⟩) (World.block_lt_of_cell? wr _ hw0)]; exact hw0)
        have y7 : w'.cell? ⟨b', o' + j, none⟩ = some (.int .i64 z) := (by rw [hB.cell (p := ⟨b', o' + j, none⟩) (World.block_lt_of_cell? wr _ hw1)]; exact hw1)
        iterate 11 (first | (refine rd_skip rfl rfl ?_; simp only [Act.put, List.setIfInBounds_toArray, List.set_cons_zero, List.set_cons_succ]) | (refine rd_load_arr rfl rfl _ _ rfl _ rfl (by decide +kernel) _ (by assumption) (by first | (rw [lims_len]; kernel_rfl) | (rw [el_rep]; kernel_rfl) | (rw [el_len]; kernel_rfl) | (rw [byts_len]; kernel_rfl) | (rw [us_len]; kernel_rfl) | (rw [bytn_len]; kernel_rfl) | (rw [ens_len, digs_len]; kernel_rfl) | kernel_rfl) ?_; simp only [Act.put, List.setIfInBounds_toArray, List.set_cons_zero, List.set_cons_succ]) | (refine rd_take (v := ?_) rfl rfl ?_ ?_; rotate_left; (focus (go_simp; try (with_reducible rfl))); simp only [Act.put, List.setIfInBounds_toArray, List.set_cons_zero, List.set_cons_succ]) | (refine rd_take (v := ?_) rfl rfl ?_ ?_; rotate_left; (focus (try go_simp); fail)))
        exact rd_nil
      refine Tx.done (by kernel_rfl) ?_
      have k1 := k1.below hS_1
      have k2 := k2.below hS_1
      have kb := bel kb hS_1
      clear hS_1
      go_wp2_with fail
      exact ⟨⟨k1, k2, kb, j + 1, by omega, by go_num⟩, by simp [intOf]; omega⟩
    · obtain rfl : j = l.length := by omega
      clear hlt hj
      go_wp2_with fail
      clear x1
      go_loopw [6] (fun jv wr => Arr wr G (Stt.cs ⟨f, l, m0, d0, t0, m1, d1, t1, a⟩ ⟨.slice ar l.length cr, v0, v1⟩) ∧ Arr wr (G + 1) (Stt.cs ⟨f, l, m0, d0, t0, m1, d1, t1, a⟩ ⟨.slice br l.length dr, u0, u1⟩) ∧ Below w.heap.size w wr ∧ ∃ j : Nat, j ≤ 2 ∧ jv = .int .i64 j) (fun jv _ => 2 - (intOf jv).toNat)
      case atStart => exact ⟨k1, k2, kb, 0, by omega, rfl⟩
      case round =>
        clear k1 k2 kb
        obtain ⟨k1, k2, kb, j, hj, rfl⟩ := hrel
        obtain rfl | rfl | rfl : j = 0 ∨ j = 1 ∨ j = 2 := by omega
        · skip
          have n1 := Lib.hid (h0.out.below kb)
          have n2 := Lib.hid (g0.out.below kb)
          go_upto_region 11 with (first | (refine wpList_load_arr2 rfl _ _ rfl _ rfl (by decide +kernel) _ (by assumption) (by first | (rw [lims_len]; kernel_rfl) | (rw [el_rep]; kernel_rfl) | (rw [el_len]; kernel_rfl) | (rw [byts_len]; kernel_rfl) | (rw [us_len]; kernel_rfl) | (rw [bytn_len]; kernel_rfl) | (rw [ens_len, digs_len]; kernel_rfl) | kernel_rfl) ?_) | (refine wpList_store_arr rfl _ _ _ rfl _ _ rfl rfl _ (by first | assumption | exact Arr.new _ _ _) (by first | (rw [lims_len]; kernel_rfl) | (rw [el_rep]; kernel_rfl) | (rw [el_len]; kernel_rfl) | (rw [byts_len]; kernel_rfl) | (rw [us_len]; kernel_rfl) | (rw [bytn_len]; kernel_rfl) | (rw [ens_len, digs_len]; kernel_rfl) | kernel_rfl) (by first | (rw [lims_len, lims_len]) | (rw [el_rep, el_rep]) | (rw [el_rep, el_len]; rfl) | (rw [el_len, el_rep]; rfl) | (rw [el_len, el_len]; rfl) | (rw [byts_len, byts_len]) | (rw [lims_len]; rfl) | (rw [byts_len]; rfl) | (rw [us_len, us_len]; rfl) | (rw [bytn_len, bytn_len]) | (rw [bytn_len]; rfl) | (rw [ens_len, ens_len, digs_len, digs_len]) | rfl) (by first | exact lims_one _ _ | exact el_one _ | exact byts_one _ | exact us_one _ | exact bytn_one _ _ | exact ens_one _ | (intro v hv; simp at hv; rcases hv with rfl | rfl | rfl | rfl <;> rfl)) ?_))
          refine Tx.start (fun w' => Below (wr).heap.size (wr) w') 9999 39 rfl (by kernel_rfl) ?_
          have hS_2 : Below (wr).heap.size (wr) (World.drew wr) := (Below.refl _ _).drew
          refine Tx.seg (A := ?_) 0 549755813887 (by kernel_rfl) (by exact hS_2) [0, 1, 2, 3, 4, 5, 6, 7, 8, 9, 10, 11, 12, 13, 14, 15, 16, 17, 18, 19, 20, 21, 22, 23, 24, 25, 26, 27, 28, 29, 30, 31, 32, 33, 34, 35, 36, 37, 38] (by kernel_rfl) ?_ ?_
          rotate_left
          · intro w' hB
            have e0 := k1.below hB
            have e1 := k2.below hB
            have x2 := e0.cell (j := 2) rfl
            have y2 := e1.cell (j := 2) rfl
            have x3 := e0.cell (j := 3) rfl
            have y3 := e1.cell (j := 3) rfl
            have x4 := e0.cell (j := 4) rfl
            have y4 := e1.cell (j := 4) rfl
            have s1 := str (n1.out.below hB)
            have s2 := str (n2.out.below hB)
            iterate 39 (first | (refine rd_skip rfl rfl ?_; simp only [Act.put, List.setIfInBounds_toArray, List.set_cons_zero, List.set_cons_succ]) | (refine rd_load_arr rfl rfl _ _ rfl _ rfl (by decide +kernel) _ (by assumption) (by first | (rw [lims_len]; kernel_rfl) | (rw [el_rep]; kernel_rfl) | (rw [el_len]; kernel_rfl) | (rw [byts_len]; kernel_rfl) | (rw [us_len]; kernel_rfl) | (rw [bytn_len]; kernel_rfl) | (rw [ens_len, digs_len]; kernel_rfl) | kernel_rfl) ?_; simp only [Act.put, List.setIfInBounds_toArray, List.set_cons_zero, List.set_cons_succ]) | (refine rd_take (v := ?_) rfl rfl ?_ ?_; rotate_left; (focus (go_simp; try (with_reducible rfl))); simp only [Act.put, List.setIfInBounds_toArray, List.set_cons_zero, List.set_cons_succ]) | (refine rd_take (v := ?_) rfl rfl ?_ ?_; rotate_left; (focus (try go_simp); fail)))
            exact rd_nil
          refine Tx.done (by kernel_rfl) ?_
          have k1 := k1.below hS_2
          have k2 := k2.below hS_2
          have kb := bel kb hS_2
          clear hS_2
          go_wp2_with fail
          exact ⟨⟨k1, k2, kb, 0 + 1, by omega, by go_num⟩, by simp [intOf]⟩
        · skip
          have n1 := Lib.hid (h1.out.below kb)
          have n2 := Lib.hid (g1.out.below kb)
          go_upto_region 11 with (first | (refine wpList_load_arr2 rfl _ _ rfl _ rfl (by decide +kernel) _ (by assumption) (by first | (rw [lims_len]; kernel_rfl) | (rw [el_rep]; kernel_rfl) | (rw [el_len]; kernel_rfl) | (rw [byts_len]; kernel_rfl) | (rw [us_len]; kernel_rfl) | (rw [bytn_len]; kernel_rfl) | (rw [ens_len, digs_len]; kernel_rfl) | kernel_rfl) ?_) | (refine wpList_store_arr rfl _ _ _ rfl _ _ rfl rfl _ (by first | assumption | exact Arr.new _ _ _) (by first | (rw [lims_len]; kernel_rfl) | (rw [el_rep]; kernel_rfl) | (rw [el_len]; kernel_rfl) | (rw [byts_len]; kernel_rfl) | (rw [us_len]; kernel_rfl) | (rw [bytn_len]; kernel_rfl) | (rw [ens_len, digs_len]; kernel_rfl) | kernel_rfl) (by first | (rw [lims_len, lims_len]) | (rw [el_rep, el_rep]) | (rw [el_rep, el_len]; rfl) | (rw [el_len, el_rep]; rfl) | (rw [el_len, el_len]; rfl) | (rw [byts_len, byts_len]) | (rw [lims_len]; rfl) | (rw [byts_len]; rfl) | (rw [us_len, us_len]; rfl) | (rw [bytn_len, bytn_len]) | (rw [bytn_len]; rfl) | (rw [ens_len, ens_len, digs_len, digs_len]) | rfl) (by first | exact lims_one _ _ | exact el_one _ | exact byts_one _ | exact us_one _ | exact bytn_one _ _ | exact ens_one _ | (intro v hv; simp at hv; rcases hv with rfl | rfl | rfl | rfl <;> rfl)) ?_))
          refine Tx.start (fun w' => Below (wr).heap.size (wr) w') 9999 39 rfl (by kernel_rfl) ?_
          have hS_3 : Below (wr).heap.size (wr) (World.drew wr) := (Below.refl _ _).drew
          refine Tx.seg (A := ?_) 0 549755813887 (by kernel_rfl) (by exact hS_3) [0, 1, 2, 3, 4, 5, 6, 7, 8, 9, 10, 11, 12, 13, 14, 15, 16, 17, 18, 19, 20, 21, 22, 23, 24, 25, 26, 27, 28, 29, 30, 31, 32, 33, 34, 35, 36, 37, 38] (by kernel_rfl) ?_ ?_
          rotate_left
          · intro w' hB
            have e0 := k1.below hB
            have e1 := k2.below hB
            have x2 := e0.cell (j := 5) rfl
            have y2 := e1.cell (j := 5) rfl
            have x3 := e0.cell (j := 6) rfl
            have y3 := e1.cell (j := 6) rfl
            have x4 := e0.cell (j := 7) rfl
            have y4 := e1.cell (j := 7) rfl
            have s1 := str (n1.out.below hB)
            have s2 := str (n2.out.below hB)
            iterate 39 (first | (refine rd_skip rfl rfl ?_; simp only [Act.put, List.setIfInBounds_toArray, List.set_cons_zero, List.set_cons_succ]) | (refine rd_load_arr rfl rfl _ _ rfl _ rfl (by decide +kernel) _ (by assumption) (by first | (rw [lims_len]; kernel_rfl) | (rw [el_rep]; kernel_rfl) | (rw [el_len]; kernel_rfl) | (rw [byts_len]; kernel_rfl) | (rw [us_len]; kernel_rfl) | (rw [bytn_len]; kernel_rfl) | (rw [ens_len, digs_len]; kernel_rfl) | kernel_rfl) ?_; simp only [Act.put, List.setIfInBounds_toArray, List.set_cons_zero, List.set_cons_succ]) | (refine rd_take (v := ?_) rfl rfl ?_ ?_; rotate_left; (focus (go_simp; try (with_reducible rfl))); simp only [Act.put, List.setIfInBounds_toArray, List.set_cons_zero, List.set_cons_succ]) | (refine rd_take (v := ?_) rfl rfl ?_ ?_; rotate_left; (focus (try go_simp); fail)))
            exact rd_nil
          refine Tx.done (by kernel_rfl) ?_
          have k1 := k1.below hS_3
          have k2 := k2.below hS_3
          have kb := bel kb hS_3
          clear hS_3
          go_wp2_with fail
          exact ⟨⟨k1, k2, kb, 1 + 1, by omega, by go_num⟩, by simp [intOf]⟩
        · go_wp2_with fail
          go_ret
          exact ⟨rfl, kb⟩

theorem make_u8 (n : Nat) (hn : n ≤ 1000) (w : World) : (Instr.makeSlice 23 (.int .i64 (n : Int)) (.int .i64 (n : Int))).run Try.prog w = .ok (.slice (some ⟨w.heap.size, 0, none⟩) n n) (w.alloc (.cells (u8s (List.replicate n 0)).toArray 5)) := by
  obtain ⟨i, hi, hz0, hz1, hz2⟩ := info_parts info_u8
  have h := run_makeSlice (P := Try.prog) w 23 5 i _ Try.underlying23 hi hz0 .i64 .i64 (n : Int) (n : Int) (by omega) (by omega) (by rw [hz1]; omega) (by rw [hz2]; omega) (by omega)
  rw [hz1, Int.toNat_natCast, Nat.mul_one] at h
  have e : madeCells (Value.int .u8 0).cells n = (u8s (List.replicate n 0)).toArray := by
    apply Array.ext
    · rw [size_madeCells]; simp [u8s]
    · intro j h1 h2
      simp [madeCells, u8s, Value.cells, Nat.mod_one]
  rw [e] at h
  exact h
theorem Sl.of_arr {w : World} {g : Nat} {xs : List Value} (h : Arr w g xs) (hl : xs.length ≤ maxLen) : Sl w (.slice (some ⟨g, 0, none⟩) xs.length xs.length) xs :=
  Sl.of_part h rfl (Nat.le_refl _) hl (fun j _ => by rw [Nat.zero_add])

/-- A state handed back, as one of a pool's values. -/
def Ph.st (S : Stt) (B : Nat) : Ph := ⟨fun v w => ∃ d : Sv, v = .agg (S.cs d).toArray ∧ StOwn B w S d, fun _ _ _ ⟨d, h1, h2⟩ hb => ⟨d, h1, h2.below hb⟩, false, fun h => by cases h⟩

theorem newS_may : mayP newS := by
  refine ⟨rfl, by decide, by decide, by decide, fun i h => absurd h (by simp [newS]), fun h => absurd h (by decide), fun h => absurd h (by decide), rfl, rfl⟩

set_option maxHeartbeats 1000000 in
set_option maxRecDepth 100000 in
theorem alive_any (w : World) : Calls Try.prog 11 #[] w fun e w' => e = .returned (.bool true) ∧ Below w.heap.size w w' := by
  have hmk : ∀ w, (Instr.makeSlice 23 (.int .i64 300) (.int .i64 300)).run Try.prog w = .ok (.slice (some ⟨w.heap.size, 0, none⟩) 300 300) (w.alloc (.cells (u8s (List.replicate 300 0)).toArray 5)) := fun w => make_u8 300 (by decide) w
  have kb := Below.refl w.heap.size w
  go_enter Try.func11, Try.ntmps11
  go_wp2_with fail
  refine (new_any _).mono ?_
  rintro e w1 ⟨v1, rfl, ho1, hb⟩
  have kb := hb
  have hone := Lib.hid (StOk.one ho1.ok)
  have ho1 := Lib.hid ho1
  clear hb
  go_upto_region 2 with (first | (refine wpl_storeG rfl _ _ _ rfl _ _ rfl rfl _ (Arr.new _ _ _) (by kernel_rfl) rfl hone.out (fun W3 k1 hg hsz => ?_)))
  have hb := below_new hg
  have ho1 := Lib.hid (ho1.out.below hb)
  have kb := bel kb hb
  have kb0 := kb.size
  clear hg hb hsz
  generalize w1.heap.size = g1 at *
  refine Tx.start (fun w' => Below (W3).heap.size (W3) w') 4 5 rfl (by kernel_rfl) ?_
  have hS_4 : Below (W3).heap.size (W3) (World.drew W3) := (Below.refl _ _).drew
  refine Tx.seg (A := ?_) 4 1 (by kernel_rfl) (by exact hS_4) [0] (by kernel_rfl) ?_ ?_
  rotate_left
  · intro w' hB
    have k1 := k1.below hB
    iterate 1 (first | (refine rd_skip rfl rfl ?_; simp only [Act.put, List.setIfInBounds_toArray, List.set_cons_zero, List.set_cons_succ]) | (refine rd_load_arr rfl rfl _ _ rfl _ rfl (by decide +kernel) _ (by assumption) (by first | (rw [lims_len]; kernel_rfl) | (rw [el_rep]; kernel_rfl) | (rw [el_len]; kernel_rfl) | (rw [byts_len]; kernel_rfl) | (rw [us_len]; kernel_rfl) | (rw [bytn_len]; kernel_rfl) | (rw [ens_len, digs_len]; kernel_rfl) | kernel_rfl) ?_; simp only [Act.put, List.setIfInBounds_toArray, List.set_cons_zero, List.set_cons_succ]) | (refine rd_take (v := ?_) rfl rfl ?_ ?_; rotate_left; (focus (go_simp; try (with_reducible rfl))); simp only [Act.put, List.setIfInBounds_toArray, List.set_cons_zero, List.set_cons_succ]) | (refine rd_take (v := ?_) rfl rfl ?_ ?_; rotate_left; (focus (try go_simp); fail)))
    exact rd_nil
  refine Tx.poolB 1 15 [(1, 5), (2, 6), (3, 2)] [(false, []), (false, [(1, 5)]), (false, [])] [(1, Ph.sl 300 (u8s (List.replicate 300 0))), (2, Ph.st (putS newS (List.replicate 300 0)) W3.heap.size), (3, Ph.arr W3.heap.size (zeroS.cs nilSv))] (by kernel_rfl) (by kernel_rfl) (by first | assumption | exact (Below.refl _ _).drew) ?_ ?_
  · refine ⟨⟨_, rfl, ?_⟩, ⟨_, rfl, ?_⟩, ⟨_, rfl, ?_⟩, trivial⟩
    · intro vs w1 hS hE hD K hK
      clear hD
      simp only [fillL, Act.put, List.setIfInBounds_toArray, List.set_cons_zero, List.set_cons_succ] at hK ⊢
      go_simp
      exact hK _ _ ⟨_, rfl, Sl.of_arr (Arr.new _ _ _) (by unfold maxLen; decide)⟩ (below_alloc _ _) nofun
    · intro vs w1 hS hE hD K hK
      obtain ⟨q1, -⟩ := hD
      simp only [fillL, Act.put, List.setIfInBounds_toArray, List.set_cons_zero, List.set_cons_succ] at hK ⊢
      obtain ⟨d1, e1, hs1⟩ := q1
      rw [e1] at hK ⊢
      rw [show vs _ = _ from e1] at hs1
      clear e1
      go_simp
      refine (put_any newS v1 _ (List.replicate 300 0) _ (ho1.out.ok.below hS) hs1 (by simp)).mono ?_
      rintro e w2 ⟨v2, rfl, ho2, hb2⟩
      exact hK _ _ ⟨v2, rfl, ho2.mono hE.size⟩ hb2 nofun
    · intro vs w1 hS hE hD K hK
      clear hD
      simp only [fillL, Act.put, List.setIfInBounds_toArray, List.set_cons_zero, List.set_cons_succ] at hK ⊢
      go_simp
      exact hK _ _ ⟨_, rfl, Nat.le_trans (by first | exact Nat.le_refl _ | omega | (simp; omega)) hE.size, Arr.new _ _ _⟩ (below_alloc _ _) (fun _ => ⟨_, rfl, Nat.le_refl _⟩)
  intro vs w_p0 hS_p0 hE_p0 hP hD
  obtain ⟨q1, q2, q3, -⟩ := hP
  simp only [fillL, Act.put, List.setIfInBounds_toArray, List.set_cons_zero, List.set_cons_succ]
  obtain ⟨d1, e1, hs1⟩ := q1
  rw [e1]
  rw [show vs _ = _ from e1] at hs1
  clear e1
  obtain ⟨d2, e2, hs2⟩ := q2
  rw [e2]
  clear e2
  obtain ⟨g3, e3, hg3, ha3⟩ := q3
  rw [e3]
  clear e3 hD vs
  have hmay := Lib.hid ((mayB_iff newS).2 newS_may)
  have htg : Hid (tgtS newS = 0) := Lib.hid (by unfold tgtS; rw [hmay.out]; rfl)
  have hput : Hid (putS newS (List.replicate 300 0) = { newS with m0 := List.replicate 300 0, d0 := false, t0 := 0 }) := Lib.hid (by unfold putS chg; rw [hmay.out]; rfl)
  have hlt : g1 < g3 := Nat.lt_of_lt_of_le k1.lt hg3
  have hoff1 := Lib.hid (ho1.out.off hg3)
  have k1 := k1.below hS_p0
  have ho1 := Lib.hid (ho1.out.below hS_p0)
  have kb := bel kb hS_p0
  clear hS_p0 hE_p0 hs1
  have hone := Lib.hid (StOk.one hs2.ok)
  have hs2 := Lib.hid hs2
  refine Tx.bar 31 rfl (by decide +kernel) (fun K hK => ?_)
  refine step_storeG rfl _ _ _ rfl _ _ rfl rfl _ ha3 (by kernel_rfl) rfl hone.out (fun W4 k3 hg hsz => ?_)
  have hoff2 : g1 ≠ g3 := by omega
  have k1 := k1.kept hg (by omega)
  have ho1 := Lib.hid (ho1.out.kept hg hoff1.out)
  have kb := below_gr kb hg (Nat.le_trans kb0 hg3) kb.size
  obtain ⟨a3, c3, hsh⟩ := own_shape hs2.out.m0
  rw [show (putS newS (List.replicate 300 0)).m0 = List.replicate 300 0 by rw [hput.out]] at hsh
  have x2 := k3.cell (j := 2) rfl
  rw [hsh] at x2
  clear hg hsh hone
  refine hK (fun _ => True) 9999 _ _ ?_
  clear hK K
  try simp only [Act.put]
  try simp only [List.setIfInBounds_toArray, List.set_cons_zero, List.set_cons_succ]
  refine Tx.done (by kernel_rfl) ?_
  have x3 := k1.cell (j := 8) rfl
  replace x3 : W4.cell? ⟨g1, 8, none⟩ = some (.int .i64 (-1)) := x3
  go_wp2_with (first | (refine wpList_load_arr2 rfl _ _ rfl _ rfl (by decide +kernel) _ (by assumption) (by first | (rw [lims_len]; kernel_rfl) | (rw [el_rep]; kernel_rfl) | (rw [el_len]; kernel_rfl) | (rw [byts_len]; kernel_rfl) | (rw [us_len]; kernel_rfl) | (rw [bytn_len]; kernel_rfl) | (rw [ens_len, digs_len]; kernel_rfl) | kernel_rfl) ?_) | fail)
  refine (target2_any newS v1 _ ho1.out.ok).mono ?_
  rintro e w5 ⟨rfl, hb⟩
  rw [htg.out]
  have k1 := k1.below hb
  have ho1 := Lib.hid (ho1.out.below hb)
  have x2 : w5.cell? ⟨g3, 2, none⟩ = some (.slice a3 300 c3) := by rw [hb.cell (p := ⟨g3, 2, none⟩) (World.block_lt_of_cell? W4 _ x2)]; simpa using x2
  have x3 : w5.cell? ⟨g1, 8, none⟩ = some (.int .i64 (-1)) := by rw [hb.cell (p := ⟨g1, 8, none⟩) (World.block_lt_of_cell? W4 _ x3)]; exact x3
  have kb := bel kb hb
  clear hb k3
  go_wp2_with (first | (refine wpList_load_arr2 rfl _ _ rfl _ rfl (by decide +kernel) _ (by assumption) (by first | (rw [lims_len]; kernel_rfl) | (rw [el_rep]; kernel_rfl) | (rw [el_len]; kernel_rfl) | (rw [byts_len]; kernel_rfl) | (rw [us_len]; kernel_rfl) | (rw [bytn_len]; kernel_rfl) | (rw [ens_len, digs_len]; kernel_rfl) | kernel_rfl) ?_) | fail)
  refine (mayb_any newS v1 _ ho1.out.ok).mono ?_
  rintro e w6 ⟨rfl, hb⟩
  rw [hmay.out]
  have x2 : w6.cell? ⟨g3, 2, none⟩ = some (.slice a3 300 c3) := by rw [hb.cell (p := ⟨g3, 2, none⟩) (World.block_lt_of_cell? w5 _ x2)]; exact x2
  have kb := bel kb hb
  clear hb k1
  go_wp2_with fail
  go_ret
  exact ⟨rfl, kb⟩

end Go.Proofs.Ytkipejhjpfakpaa
