/- slots: May. -/
import Derived.Test.YtkipejhjpfakpaaSt1
namespace Go.Proofs.Ytkipejhjpfakpaa
open Go.RowKit

theorem cs_r0 {w : World} {g : Nat} {S : Stt} {v : Sv} (k : Arr w g (S.cs v)) : w.rangeAt g 2 [v.m0, .bool S.d0, .int .i64 S.t0] :=
  k.range (fun j hj => by rcases j with _ | _ | _ | j <;> first | rfl | (simp only [List.length_cons, List.length_nil] at hj; omega))
theorem cs_r1 {w : World} {g : Nat} {S : Stt} {v : Sv} (k : Arr w g (S.cs v)) : w.rangeAt g 5 [v.m1, .bool S.d1, .int .i64 S.t1] :=
  k.range (fun j hj => by rcases j with _ | _ | _ | j <;> first | rfl | (simp only [List.length_cons, List.length_nil] at hj; omega))

theorem revP_step {l : List Int} {j : Nat} (h : revP l j) (hj : j < l.length) (h1 : numB l[j] = true) (h2 : ∀ h0 : 0 < j, l[j - 1] < l[j]) : revP l (j + 1) := by
  intro i hi hij
  by_cases e : i = j
  · subst e; exact ⟨h1, h2⟩
  · exact h i hi (by omega)

theorem i64_in' {n m : Int} (e : n = m) (h : -9223372036854775808 ≤ m ∧ m ≤ 9223372036854775807) : IntKind.i64.wrap n = m := by rw [e]; exact i64_in h

theorem slice_of {w : World} {v : Value} {xs : List Value} (h : Sl w v xs) : ∃ a cap, v = .slice a xs.length cap ∧ xs.length ≤ cap ∧ cap ≤ 9223372036854775807 := by
  obtain ⟨a, cap, h1, h2, h3, -⟩ := h
  exact ⟨a, cap, h1, h2, by unfold maxLen at h3; omega⟩

/-- What May answers. -/
def MayPost (S : Stt) (w : World) (e : Ending) (w' : World) : Prop := ∃ r, e = .returned (.bool r) ∧ (r = true ↔ mayP S) ∧ Below w.heap.size w w'

set_option maxHeartbeats 8000000 in
set_option maxRecDepth 100000 in
theorem may_any (S : Stt) (v : Sv) (w : World) (h : StOk w S v) :
    Calls Try.prog 20 #[.agg (S.cs v).toArray] w (MayPost S w) := by
  obtain ⟨f, l, m0, d0, t0, m1, d1, t1, a⟩ := S
  obtain ⟨vr, v0, v1⟩ := v
  obtain ⟨hr, h0, h1⟩ := h
  simp only at hr h0 h1
  obtain ⟨ar, cr, rfl, hc1, hc2⟩ := slice_of hr
  obtain ⟨a0, c0, rfl, hc3, hc4⟩ := slice_of h0
  obtain ⟨a1, c1, rfl, hc5, hc6⟩ := slice_of h1
  rw [ints_len] at hr hc1
  rw [u8s_len] at h0 hc3 h1 hc5
  simp only [ints_len, u8s_len]
  have hno : ∀ (w' : World), ¬ mayP ⟨f, l, m0, d0, t0, m1, d1, t1, a⟩ → Below w.heap.size w w' → MayPost ⟨f, l, m0, d0, t0, m1, d1, t1, a⟩ w (.returned (.bool false)) w' := fun w' h1 h2 => ⟨false, rfl, by simp [h1], h2⟩
  have hmk := fun b c d e u g i j k => (mayP.mk (S := ⟨f, l, m0, d0, t0, m1, d1, t1, a⟩) b c d e u g i j k)
  simp only at hmk
  replace hr := Lib.hid hr
  replace h0 := Lib.hid h0
  replace h1 := Lib.hid h1
  replace hno := Lib.hid hno
  replace hmk := Lib.hid hmk
  go_enter Try.func20, Try.ntmps20
  go_upto_region 1 with fail
  refine wp_new1 (fun W hsz k1 kb => ?_)
  have k1 : Arr W w.heap.size (Stt.cs ⟨f, l, m0, d0, t0, m1, d1, t1, a⟩ ⟨.slice ar l.length cr, .slice a0 m0.length c0, .slice a1 m1.length c1⟩) := k1
  have x0 := k1.cell (j := 0) rfl
  have x1 := k1.cell (j := 1) rfl
  have x2 := k1.cell (j := 2) rfl
  have x3 := k1.cell (j := 3) rfl
  have x5 := k1.cell (j := 5) rfl
  have x6 := k1.cell (j := 6) rfl
  have x8 := k1.cell (j := 8) rfl
  simp only at x0 x1 x2 x3 x5 x6 x8
  have r0 := cs_r0 k1
  have r1 := cs_r1 k1
  simp only at r0 r1
  clear hsz
  replace k1 := Lib.hid k1
  replace r0 := Lib.hid r0
  replace r1 := Lib.hid r1
  go_wp2_with fail
  refine (number_any _ _).mono ?_
  rintro e w' ⟨rfl, hw⟩
  rw [hw]
  clear hw w'
  by_cases q1 : numB f = true
  rotate_left
  · rw [show numB f = false by simpa using q1]
    go_wp2_with fail
    go_ret
    exact hno.out _ (fun h => q1 h.floor) kb
  rw [q1]
  have q1 := Lib.hid q1
  by_cases q2 : 32 < l.length
  · have iw : (32 : Int) < (l.length : Int) := by omega
    go_wp2_with fail
    go_ret
    exact hno.out _ (fun h => by have := h.len; simp only at this; omega) kb
  by_cases q3 : a < -1
  · have iw : ¬ (32 : Int) < (l.length : Int) := by omega
    go_wp2_with fail
    go_ret
    exact hno.out _ (fun h => by have := h.lo; simp only at this; omega) kb
  by_cases q4 : 2 ≤ a
  · have iw : ¬ (32 : Int) < (l.length : Int) := by omega
    go_wp2_with fail
    go_ret
    exact hno.out _ (fun h => by have := h.hi; simp only at this; omega) kb
  have iw : ¬ (32 : Int) < (l.length : Int) := by omega
  have hlen : l.length ≤ 32 := by omega
  have iw2 : ¬ a < -1 := q3
  have iw3 : ¬ 2 ≤ a := q4
  go_wp2_with fail
  go_loopw [28] (fun jv wr => wr = W ∧ ∃ j : Nat, j ≤ l.length ∧ jv = .int .i64 j ∧ revP l j) (fun jv _ => l.length - (intOf jv).toNat)
  case atStart => exact ⟨rfl, 0, by omega, rfl, fun i _ h => absurd h (by omega)⟩
  case round =>
    obtain ⟨hwr, j, hj, rfl, hrv⟩ := hrel
    rw [hwr]
    clear hwr wr
    have hrv := Lib.hid hrv
    by_cases hlt : j < l.length
    · obtain ⟨b, o, rfl, -, -, -, hcc⟩ := hr.out.at (by rw [ints_len]; omega)
      have hc0 := hcc j _ (ints_get hlt)
      have hw0 : W.cell? ⟨b, o + j, none⟩ = some (.int .i64 l[j]) := by rw [kb.cell (World.block_lt_of_cell? w _ hc0)]; exact hc0
      have hstep := Lib.hid (revP_step hrv.out hlt)
      have hbad : ¬ (numB l[j] = true ∧ ∀ h0 : 0 < j, l[j - 1] < l[j]) → ¬ mayP ⟨f, l, m0, d0, t0, m1, d1, t1, a⟩ := fun h1 h2 => h1 (h2.rev j hlt hlt)
      replace hbad := Lib.hid hbad
      cases j with
      | zero =>
        obtain ⟨z, hz⟩ : ∃ z, l[0] = z := ⟨_, rfl⟩
        simp only [hz, Nat.add_zero] at hw0 hstep hbad
        clear hc0 hcc
        replace hz := Lib.hid hz
        go_wp2_with fail
        refine (number_any _ _).mono ?_
        rintro e w' ⟨rfl, hw⟩
        rw [hw]
        clear hw w'
        by_cases q5 : numB z = true
        · rw [q5]
          go_wp2_with fail
          refine ⟨⟨by trivial, 1, by omega, rfl, ?_⟩, by simp [intOf]; omega⟩
          exact hstep.out q5 (fun h => absurd h (by omega))
        · rw [show numB z = false by simpa using q5]
          go_wp2_with fail
          go_ret
          exact hno.out _ (hbad.out (fun h => q5 h.1)) kb
      | succ i =>
        have hc1' := hcc i _ (ints_get (show i < l.length by omega))
        have hw1 : W.cell? ⟨b, o + i, none⟩ = some (.int .i64 l[i]) := by rw [kb.cell (World.block_lt_of_cell? w _ hc1')]; exact hc1'
        obtain ⟨z, hz⟩ : ∃ z, l[i + 1] = z := ⟨_, rfl⟩
        obtain ⟨y, hy⟩ : ∃ y, l[i] = y := ⟨_, rfl⟩
        simp only [Nat.add_sub_cancel, hz, hy] at hw0 hw1 hstep hbad
        clear hc0 hcc hc1'
        replace hz := Lib.hid hz
        replace hy := Lib.hid hy
        have iwj : IntKind.i64.wrap ((i : Int) + 1 - 1) = (i : Int) := i64_in' (by omega) (by omega)
        go_wp2_with fail
        refine (number_any _ _).mono ?_
        rintro e w' ⟨rfl, hw⟩
        rw [hw]
        clear hw w'
        by_cases q5 : numB z = true
        · rw [q5]
          by_cases q6 : y < z
          · have q7 : ¬ z ≤ y := by omega
            go_wp2_with fail
            refine ⟨⟨by trivial, i + 1 + 1, by omega, by go_num, ?_⟩, by simp [intOf]; omega⟩
            exact hstep.out q5 (fun _ => q6)
          · have q7 : z ≤ y := by omega
            go_wp2_with fail
            go_ret
            exact hno.out _ (hbad.out (fun h => by have := h.2 (by omega); omega)) kb
        · rw [show numB z = false by simpa using q5]
          go_wp2_with fail
          go_ret
          exact hno.out _ (hbad.out (fun h => q5 h.1)) kb
    · obtain rfl : j = l.length := by omega
      go_upto_region 9 with fail
      clear hlt hj
      have ha : a = -1 ∨ a = 0 ∨ a = 1 := by omega
      clear q2 q3 q4 iw iw2 iw3
      rcases ha with rfl | rfl | rfl
      · have hmk2 := Lib.hid (fun b0 b1 => hmk.out q1.out hlen (by decide) (by decide) hrv.out (fun h => absurd h (by simp)) (fun h => absurd h (by simp)) b0 b1)
        clear hmk
        go_upto_region 11 with fail
        go_wp2_with (first | (refine wpList_load_mid2 rfl _ _ rfl _ _ rfl (by kernel_rfl) _ r0.out (by first | (rw [lims_len]; kernel_rfl) | (rw [el_rep]; kernel_rfl) | (rw [el_len]; kernel_rfl) | (rw [byts_len]; kernel_rfl) | (rw [us_len]; kernel_rfl) | (rw [bytn_len]; kernel_rfl) | (rw [ens_len, digs_len]; kernel_rfl) | kernel_rfl) ?_) | fail)
        refine (slot_any _ _ _ _ _ (h0.out.below kb)).mono ?_
        rintro e w3 ⟨rfl, hb3⟩
        have r1 := Lib.hid (cs_r1 (k1.out.below hb3))
        have kb := bel kb hb3
        clear hb3 x0 x1 x2 x3 x5 x6 x8 r0 k1
        cases s0 : slotB m0 d0 t0 with
        | false =>
          replace hmk2 := Lib.hid hmk2
          go_wp2_with fail
          go_ret
          exact hno.out _ (fun h => by have := h.s0; simp only [s0] at this; cases this) kb
        | true =>
          have s0 := Lib.hid s0
          go_wp2_with (first | (refine wpList_load_mid2 rfl _ _ rfl _ _ rfl (by kernel_rfl) _ r1.out (by first | (rw [lims_len]; kernel_rfl) | (rw [el_rep]; kernel_rfl) | (rw [el_len]; kernel_rfl) | (rw [byts_len]; kernel_rfl) | (rw [us_len]; kernel_rfl) | (rw [bytn_len]; kernel_rfl) | (rw [ens_len, digs_len]; kernel_rfl) | kernel_rfl) ?_) | fail)
          refine (slot_any _ _ _ _ _ (h1.out.below kb)).mono ?_
          rintro e w4 ⟨rfl, hb4⟩
          have kb := bel kb hb4
          clear hb4 r1
          cases s1 : slotB m1 d1 t1 with
          | false =>
            go_wp2_with fail
            go_ret
            exact hno.out _ (fun h => by have := h.s1; simp only [s1] at this; cases this) kb
          | true =>
            have s1 := Lib.hid s1
            go_wp2_with fail
            go_ret
            exact ⟨_, rfl, by simp only [true_iff]; exact hmk2.out s0.out s1.out, kb⟩
      · by_cases q2 : m0.length = 0
        · have iw : ((m0.length : Nat) : Int) = 0 := by omega
          go_wp2_with fail
          go_ret
          exact hno.out _ (fun h => (h.a0 rfl).1 q2) kb
        have iw : ¬ ((m0.length : Nat) : Int) = 0 := by omega
        cases d0 with
        | false =>
          go_wp2_with fail
          go_ret
          exact hno.out _ (fun h => by have := (h.a0 rfl).2; simp at this) kb
        | true =>
          have hmk2 := Lib.hid (fun b0 b1 => hmk.out q1.out hlen (by decide) (by decide) hrv.out (fun _ => ⟨q2, rfl⟩) (fun h => absurd h (by decide)) b0 b1)
          clear hmk
          go_upto_region 11 with fail
          go_wp2_with (first | (refine wpList_load_mid2 rfl _ _ rfl _ _ rfl (by kernel_rfl) _ r0.out (by first | (rw [lims_len]; kernel_rfl) | (rw [el_rep]; kernel_rfl) | (rw [el_len]; kernel_rfl) | (rw [byts_len]; kernel_rfl) | (rw [us_len]; kernel_rfl) | (rw [bytn_len]; kernel_rfl) | (rw [ens_len, digs_len]; kernel_rfl) | kernel_rfl) ?_) | fail)
          refine (slot_any _ _ _ _ _ (h0.out.below kb)).mono ?_
          rintro e w3 ⟨rfl, hb3⟩
          have r1 := Lib.hid (cs_r1 (k1.out.below hb3))
          have kb := bel kb hb3
          clear hb3 x0 x1 x2 x3 x5 x6 x8 r0 k1
          cases s0 : slotB m0 true t0 with
          | false =>
            replace hmk2 := Lib.hid hmk2
            go_wp2_with fail
            go_ret
            exact hno.out _ (fun h => by have := h.s0; simp only [s0] at this; cases this) kb
          | true =>
            have s0 := Lib.hid s0
            go_wp2_with (first | (refine wpList_load_mid2 rfl _ _ rfl _ _ rfl (by kernel_rfl) _ r1.out (by first | (rw [lims_len]; kernel_rfl) | (rw [el_rep]; kernel_rfl) | (rw [el_len]; kernel_rfl) | (rw [byts_len]; kernel_rfl) | (rw [us_len]; kernel_rfl) | (rw [bytn_len]; kernel_rfl) | (rw [ens_len, digs_len]; kernel_rfl) | kernel_rfl) ?_) | fail)
            refine (slot_any _ _ _ _ _ (h1.out.below kb)).mono ?_
            rintro e w4 ⟨rfl, hb4⟩
            have kb := bel kb hb4
            clear hb4 r1
            cases s1 : slotB m1 d1 t1 with
            | false =>
              go_wp2_with fail
              go_ret
              exact hno.out _ (fun h => by have := h.s1; simp only [s1] at this; cases this) kb
            | true =>
              have s1 := Lib.hid s1
              go_wp2_with fail
              go_ret
              exact ⟨_, rfl, by simp only [true_iff]; exact hmk2.out s0.out s1.out, kb⟩
      · by_cases q2 : m1.length = 0
        · have iw : ((m1.length : Nat) : Int) = 0 := by omega
          go_wp2_with fail
          go_ret
          exact hno.out _ (fun h => (h.a1 rfl).1 q2) kb
        have iw : ¬ ((m1.length : Nat) : Int) = 0 := by omega
        cases d1 with
        | false =>
          go_wp2_with fail
          go_ret
          exact hno.out _ (fun h => by have := (h.a1 rfl).2; simp at this) kb
        | true =>
          have hmk2 := Lib.hid (fun b0 b1 => hmk.out q1.out hlen (by decide) (by decide) hrv.out (fun h => absurd h (by decide)) (fun _ => ⟨q2, rfl⟩) b0 b1)
          clear hmk
          go_upto_region 11 with fail
          go_wp2_with (first | (refine wpList_load_mid2 rfl _ _ rfl _ _ rfl (by kernel_rfl) _ r0.out (by first | (rw [lims_len]; kernel_rfl) | (rw [el_rep]; kernel_rfl) | (rw [el_len]; kernel_rfl) | (rw [byts_len]; kernel_rfl) | (rw [us_len]; kernel_rfl) | (rw [bytn_len]; kernel_rfl) | (rw [ens_len, digs_len]; kernel_rfl) | kernel_rfl) ?_) | fail)
          refine (slot_any _ _ _ _ _ (h0.out.below kb)).mono ?_
          rintro e w3 ⟨rfl, hb3⟩
          have r1 := Lib.hid (cs_r1 (k1.out.below hb3))
          have kb := bel kb hb3
          clear hb3 x0 x1 x2 x3 x5 x6 x8 r0 k1
          cases s0 : slotB m0 d0 t0 with
          | false =>
            replace hmk2 := Lib.hid hmk2
            go_wp2_with fail
            go_ret
            exact hno.out _ (fun h => by have := h.s0; simp only [s0] at this; cases this) kb
          | true =>
            have s0 := Lib.hid s0
            go_wp2_with (first | (refine wpList_load_mid2 rfl _ _ rfl _ _ rfl (by kernel_rfl) _ r1.out (by first | (rw [lims_len]; kernel_rfl) | (rw [el_rep]; kernel_rfl) | (rw [el_len]; kernel_rfl) | (rw [byts_len]; kernel_rfl) | (rw [us_len]; kernel_rfl) | (rw [bytn_len]; kernel_rfl) | (rw [ens_len, digs_len]; kernel_rfl) | kernel_rfl) ?_) | fail)
            refine (slot_any _ _ _ _ _ (h1.out.below kb)).mono ?_
            rintro e w4 ⟨rfl, hb4⟩
            have kb := bel kb hb4
            clear hb4 r1
            cases s1 : slotB m1 true t1 with
            | false =>
              go_wp2_with fail
              go_ret
              exact hno.out _ (fun h => by have := h.s1; simp only [s1] at this; cases this) kb
            | true =>
              have s1 := Lib.hid s1
              go_wp2_with fail
              go_ret
              exact ⟨_, rfl, by simp only [true_iff]; exact hmk2.out s0.out s1.out, kb⟩

end Go.Proofs.Ytkipejhjpfakpaa
