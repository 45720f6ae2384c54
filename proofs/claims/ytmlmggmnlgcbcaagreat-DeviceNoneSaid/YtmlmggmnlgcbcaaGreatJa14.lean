import Derived.Test.YtmlmggmnlgcbcaaGreatJa13
import Derived.Test.YtmlmggmnlgcbcaaGreatJa03
import Derived.Test.YtmlmggmnlgcbcaaGreatJa02

namespace Go.Proofs.YtmlmggmnlgcbcaaGreat
open Go.RowKit
theorem cs_r0 {w : World} {g : Nat} {S : Stt} {v : Sv} (k : Arr w g (S.cs v)) : w.rangeAt g 2 [v.m0, .bool S.d0, .int .i64 S.t0] :=
  k.range (fun j hj => by rcases j with _ | _ | _ | j <;> first | rfl | (simp only [List.length_cons, List.length_nil] at hj; omega))
theorem cs_r1 {w : World} {g : Nat} {S : Stt} {v : Sv} (k : Arr w g (S.cs v)) : w.rangeAt g 5 [v.m1, .bool S.d1, .int .i64 S.t1] :=
  k.range (fun j hj => by rcases j with _ | _ | _ | j <;> first | rfl | (simp only [List.length_cons, List.length_nil] at hj; omega))
theorem revP_step {l : List Int} {j : Nat} (h : revP l j) (hj : j < l.length) (h1 : numB l[j] = true) (h2 : ∀ h0 : 0 < j, l[j - 1] < l[j]) : revP l (j + 1) := by
  intro i hi hij
  by_cases e : i = j
  · subst e; exact ⟨h1, h2⟩
  · exact h i hi (by omega)
theorem i64_in' {n m : Int} (e : n = m) (h : -9223372036854775808 ≤ m ∧ m ≤ 9223372036854775807) : IntKind.i64.wrap n = m := by rw [e]; exact i64_in h
theorem slice_of {w : World} {v : Value} {xs : List Value} (h : Sl w v xs) : ∃ a cap, v = .slice a xs.length cap ∧ xs.length ≤ cap ∧ cap ≤ 9223372036854775807 := by
  obtain ⟨a, cap, h1, h2, h3, -⟩ := h
  exact ⟨a, cap, h1, h2, by unfold maxLen at h3; omega⟩
/-- What May answers. -/
def MayPost (S : Stt) (w : World) (e : Ending) (w' : World) : Prop := ∃ r, e = .returned (.bool r) ∧ (r = true ↔ mayP S) ∧ Below w.heap.size w w'
set_option maxHeartbeats 8000000 in
set_option maxRecDepth 100000 in
theorem may_any (S : Stt) (v : Sv) (w : World) (h : StOk w S v) :
    Calls Tryz.prog 128 #[.agg (S.cs v).toArray] w (MayPost S w) := by
  obtain ⟨f, l, m0, d0, t0, m1, d1, t1, a⟩ := S
  obtain ⟨vr, v0, v1⟩ := v
  obtain ⟨hr, h0, h1⟩ := h
  simp only at hr h0 h1
  obtain ⟨ar, cr, rfl, hc1, hc2⟩ := slice_of hr
  obtain ⟨a0, c0, rfl, hc3, hc4⟩ := slice_of h0
  obtain ⟨a1, c1, rfl, hc5, hc6⟩ := slice_of h1
  rw [ints_len] at hr hc1
  rw [u8s_len] at h0 hc3 h1 hc5
  simp only [ints_len, u8s_len]
  have hno : ∀ (w' : World), ¬ mayP ⟨f, l, m0, d0, t0, m1, d1, t1, a⟩ → Below w.heap.size w w' → MayPost ⟨f, l, m0, d0, t0, m1, d1, t1, a⟩ w (.returned (.bool false)) w' := fun w' h1 h2 => ⟨false, rfl, by simp [h1], h2⟩
  have hmk := fun b c d e u g i j k => (mayP.mk (S := ⟨f, l, m0, d0, t0, m1, d1, t1, a⟩) b c d e u g i j k)
  simp only at hmk
  replace hr := Lib.hid hr
  replace h0 := Lib.hid h0
  replace h1 := Lib.hid h1
  replace hno := Lib.hid hno
  replace hmk := Lib.hid hmk
  go_enter Tryz.func128, Tryz.ntmps128
  go_upto_region 1 with fail
  refine wp_new1 (fun W hsz k1 kb => ?_)
  have k1 : Arr W w.heap.size (Stt.cs ⟨f, l, m0, d0, t0, m1, d1, t1, a⟩ ⟨.slice ar l.length cr, .slice a0 m0.length c0, .slice a1 m1.length c1⟩) := k1
  have x0 := k1.cell (j := 0) rfl
  have x1 := k1.cell (j := 1) rfl
  have x2 := k1.cell (j := 2) rfl
  have x3 := k1.cell (j := 3) rfl
  have x5 := k1.cell (j := 5) rfl
  have x6 := k1.cell (j := 6) rfl
  have x8 := k1.cell (j := 8) rfl
  simp only at x0 x1 x2 x3 x5 x6 x8
  have r0 := cs_r0 k1
  have r1 := cs_r1 k1
  simp only at r0 r1
  clear hsz
  replace k1 := Lib.hid k1
  replace r0 := Lib.hid r0
  replace r1 := Lib.hid r1
  go_wp2_with fail
  refine (number_any _ _).mono ?_
  rintro e w' ⟨rfl, hw⟩
  rw [hw]
  clear hw w'
  by_cases q1 : numB f = true
  rotate_left
  · rw [show numB f = false by simpa using q1]
    go_wp2_with fail
    go_ret
    exact hno.out _ (fun h => q1 h.floor) kb
  rw [q1]
  have q1 := Lib.hid q1
  by_cases q2 : 32 < l.length
  · have iw : (32 : Int) < (l.length : Int) := by omega
    go_wp2_with fail
    go_ret
    exact hno.out _ (fun h => by have := h.len; simp only at this; omega) kb
  by_cases q3 : a < -1
  · have iw : ¬ (32 : Int) < (l.length : Int) := by omega
    go_wp2_with fail
    go_ret
    exact hno.out _ (fun h => by have := h.lo; simp only at this; omega) kb
  by_cases q4 : 2 ≤ a
  · have iw : ¬ (32 : Int) < (l.length : Int) := by omega
    go_wp2_with fail
    go_ret
    exact hno.out _ (fun h => by have := h.hi; simp only at this; omega) kb
  have iw : ¬ (32 : Int) < (l.length : Int) := by omega
  have hlen : l.length ≤ 32 := by omega
  have iw2 : ¬ a < -1 := q3
  have iw3 : ¬ 2 ≤ a := q4
  go_wp2_with fail
  go_loopw [28] (fun jv wr => wr = W ∧ ∃ j : Nat, j ≤ l.length ∧ jv = .int .i64 j ∧ revP l j) (fun jv _ => l.length - (intOf jv).toNat)
  case atStart => exact ⟨rfl, 0, by omega, rfl, fun i _ h => absurd h (by omega)⟩
  case round =>
    obtain ⟨hwr, j, hj, rfl, hrv⟩ := hrel
    rw [hwr]
    clear hwr wr
    have hrv := Lib.hid hrv
    by_cases hlt : j < l.length
    · obtain ⟨b, o, rfl, -, -, -, hcc⟩ := hr.out.at (by rw [ints_len]; omega)
      have hc0 := hcc j _ (ints_get hlt)
      have hw0 : W.cell? ⟨b, o + j, none⟩ = some (.int .i64 l[j]) := by rw [kb.cell (World.block_lt_of_cell? w _ hc0)]; exact hc0
      have hstep := Lib.hid (revP_step hrv.out hlt)
      have hbad : ¬ (numB l[j] = true ∧ ∀ h0 : 0 < j, l[j - 1] < l[j]) → ¬ mayP ⟨f, l, m0, d0, t0, m1, d1, t1, a⟩ := fun h1 h2 => h1 (h2.rev j hlt hlt)
      replace hbad := Lib.hid hbad
      cases j with
      | zero =>
        obtain ⟨z, hz⟩ : ∃ z, l[0] = z := ⟨_, rfl⟩
        simp only [hz, Nat.add_zero] at hw0 hstep hbad
        clear hc0 hcc
        replace hz := Lib.hid hz
        go_wp2_with fail
        refine (number_any _ _).mono ?_
        rintro e w' ⟨rfl, hw⟩
        rw [hw]
        clear hw w'
        by_cases q5 : numB z = true
        · rw [q5]
          go_wp2_with fail
          refine ⟨⟨by trivial, 1, by omega, rfl, ?_⟩, by simp [intOf]; omega⟩
          exact hstep.out q5 (fun h => absurd h (by omega))
        · rw [show numB z = false by simpa using q5]
          go_wp2_with fail
          go_ret
          exact hno.out _ (hbad.out (fun h => q5 h.1)) kb
      | succ i =>
        have hc1' := hcc i _ (ints_get (show i < l.length by omega))
        have hw1 : W.cell? ⟨b, o + i, none⟩ = some (.int .i64 l[i]) := by rw [kb.cell (World.block_lt_of_cell? w _ hc1')]; exact hc1'
        obtain ⟨z, hz⟩ : ∃ z, l[i + 1] = z := ⟨_, rfl⟩
        obtain ⟨y, hy⟩ : ∃ y, l[i] = y := ⟨_, rfl⟩
        simp only [Nat.add_sub_cancel, hz, hy] at hw0 hw1 hstep hbad
        clear hc0 hcc hc1'
        replace hz := Lib.hid hz
        replace hy := Lib.hid hy
        have iwj : IntKind.i64.wrap ((i : Int) + 1 - 1) = (i : Int) := i64_in' (by omega) (by omega)
        go_wp2_with fail
        refine (number_any _ _).mono ?_
        rintro e w' ⟨rfl, hw⟩
        rw [hw]
        clear hw w'
        by_cases q5 : numB z = true
        · rw [q5]
          by_cases q6 : y < z
          · have q7 : ¬ z ≤ y := by omega
            go_wp2_with fail
            refine ⟨⟨by trivial, i + 1 + 1, by omega, by go_num, ?_⟩, by simp [intOf]; omega⟩
            exact hstep.out q5 (fun _ => q6)
          · have q7 : z ≤ y := by omega
            go_wp2_with fail
            go_ret
            exact hno.out _ (hbad.out (fun h => by have := h.2 (by omega); omega)) kb
        · rw [show numB z = false by simpa using q5]
          go_wp2_with fail
          go_ret
          exact hno.out _ (hbad.out (fun h => q5 h.1)) kb
    · obtain rfl : j = l.length := by omega
      go_upto_region 9 with fail
      clear hlt hj
      have ha : a = -1 ∨ a = 0 ∨ a = 1 := by omega
      clear q2 q3 q4 iw iw2 iw3
      rcases ha with rfl | rfl | rfl
      · have hmk2 := Lib.hid (fun b0 b1 => hmk.out q1.out hlen (by decide) (by decide) hrv.out (fun h => absurd h (by simp)) (fun h => absurd h (by simp)) b0 b1)
        clear hmk
        go_upto_region 11 with fail
        go_wp2_with (first | (refine wpList_load_mid2 rfl _ _ rfl _ _ rfl (by kernel_rfl) _ r0.out (by first | (rw [lims_len]; kernel_rfl) | (rw [el_rep]; kernel_rfl) | (rw [el_len]; kernel_rfl) | (rw [byts_len]; kernel_rfl) | (rw [us_len]; kernel_rfl) | (rw [bytn_len]; kernel_rfl) | (rw [ens_len, digs_len]; kernel_rfl) | kernel_rfl) ?_) | fail)
        refine (slot_any _ _ _ _ _ (h0.out.below kb)).mono ?_
        rintro e w3 ⟨rfl, hb3⟩
        have r1 := Lib.hid (cs_r1 (k1.out.below hb3))
        have kb := bel kb hb3
        clear hb3 x0 x1 x2 x3 x5 x6 x8 r0 k1
        cases s0 : slotB m0 d0 t0 with
        | false =>
          replace hmk2 := Lib.hid hmk2
          go_wp2_with fail
          go_ret
          exact hno.out _ (fun h => by have := h.s0; simp only [s0] at this; cases this) kb
        | true =>
          have s0 := Lib.hid s0
          go_wp2_with (first | (refine wpList_load_mid2 rfl _ _ rfl _ _ rfl (by kernel_rfl) _ r1.out (by first | (rw [lims_len]; kernel_rfl) | (rw [el_rep]; kernel_rfl) | (rw [el_len]; kernel_rfl) | (rw [byts_len]; kernel_rfl) | (rw [us_len]; kernel_rfl) | (rw [bytn_len]; kernel_rfl) | (rw [ens_len, digs_len]; kernel_rfl) | kernel_rfl) ?_) | fail)
          refine (slot_any _ _ _ _ _ (h1.out.below kb)).mono ?_
          rintro e w4 ⟨rfl, hb4⟩
          have kb := bel kb hb4
          clear hb4 r1
          cases s1 : slotB m1 d1 t1 with
          | false =>
            go_wp2_with fail
            go_ret
            exact hno.out _ (fun h => by have := h.s1; simp only [s1] at this; cases this) kb
          | true =>
            have s1 := Lib.hid s1
            go_wp2_with fail
            go_ret
            exact ⟨_, rfl, by simp only [true_iff]; exact hmk2.out s0.out s1.out, kb⟩
      · by_cases q2 : m0.length = 0
        · have iw : ((m0.length : Nat) : Int) = 0 := by omega
          go_wp2_with fail
          go_ret
          exact hno.out _ (fun h => (h.a0 rfl).1 q2) kb
        have iw : ¬ ((m0.length : Nat) : Int) = 0 := by omega
        cases d0 with
        | false =>
          go_wp2_with fail
          go_ret
          exact hno.out _ (fun h => by have := (h.a0 rfl).2; simp at this) kb
        | true =>
          have hmk2 := Lib.hid (fun b0 b1 => hmk.out q1.out hlen (by decide) (by decide) hrv.out (fun _ => ⟨q2, rfl⟩) (fun h => absurd h (by decide)) b0 b1)
          clear hmk
          go_upto_region 11 with fail
          go_wp2_with (first | (refine wpList_load_mid2 rfl _ _ rfl _ _ rfl (by kernel_rfl) _ r0.out (by first | (rw [lims_len]; kernel_rfl) | (rw [el_rep]; kernel_rfl) | (rw [el_len]; kernel_rfl) | (rw [byts_len]; kernel_rfl) | (rw [us_len]; kernel_rfl) | (rw [bytn_len]; kernel_rfl) | (rw [ens_len, digs_len]; kernel_rfl) | kernel_rfl) ?_) | fail)
          refine (slot_any _ _ _ _ _ (h0.out.below kb)).mono ?_
          rintro e w3 ⟨rfl, hb3⟩
          have r1 := Lib.hid (cs_r1 (k1.out.below hb3))
          have kb := bel kb hb3
          clear hb3 x0 x1 x2 x3 x5 x6 x8 r0 k1
          cases s0 : slotB m0 true t0 with
          | false =>
            replace hmk2 := Lib.hid hmk2
            go_wp2_with fail
            go_ret
            exact hno.out _ (fun h => by have := h.s0; simp only [s0] at this; cases this) kb
          | true =>
            have s0 := Lib.hid s0
            go_wp2_with (first | (refine wpList_load_mid2 rfl _ _ rfl _ _ rfl (by kernel_rfl) _ r1.out (by first | (rw [lims_len]; kernel_rfl) | (rw [el_rep]; kernel_rfl) | (rw [el_len]; kernel_rfl) | (rw [byts_len]; kernel_rfl) | (rw [us_len]; kernel_rfl) | (rw [bytn_len]; kernel_rfl) | (rw [ens_len, digs_len]; kernel_rfl) | kernel_rfl) ?_) | fail)
            refine (slot_any _ _ _ _ _ (h1.out.below kb)).mono ?_
            rintro e w4 ⟨rfl, hb4⟩
            have kb := bel kb hb4
            clear hb4 r1
            cases s1 : slotB m1 d1 t1 with
            | false =>
              go_wp2_with fail
              go_ret
              exact hno.out _ (fun h => by have := h.s1; simp only [s1] at this; cases this) kb
            | true =>
              have s1 := Lib.hid s1
              go_wp2_with fail
              go_ret
              exact ⟨_, rfl, by simp only [true_iff]; exact hmk2.out s0.out s1.out, kb⟩
      · by_cases q2 : m1.length = 0
        · have iw : ((m1.length : Nat) : Int) = 0 := by omega
          go_wp2_with fail
          go_ret
          exact hno.out _ (fun h => (h.a1 rfl).1 q2) kb
        have iw : ¬ ((m1.length : Nat) : Int) = 0 := by omega
        cases d1 with
        | false =>
          go_wp2_with fail
          go_ret
          exact hno.out _ (fun h => by have := (h.a1 rfl).2; simp at this) kb
        | true =>
          have hmk2 := Lib.hid (fun b0 b1 => hmk.out q1.out hlen (by decide) (by decide) hrv.out (fun h => absurd h (by decide)) (fun _ => ⟨q2, rfl⟩) b0 b1)
          clear hmk
          go_upto_region 11 with fail
          go_wp2_with (first | (refine wpList_load_mid2 rfl _ _ rfl _ _ rfl (by kernel_rfl) _ r0.out (by first | (rw [lims_len]; kernel_rfl) | (rw [el_rep]; kernel_rfl) | (rw [el_len]; kernel_rfl) | (rw [byts_len]; kernel_rfl) | (rw [us_len]; kernel_rfl) | (rw [bytn_len]; kernel_rfl) | (rw [ens_len, digs_len]; kernel_rfl) | kernel_rfl) ?_) | fail)
          refine (slot_any _ _ _ _ _ (h0.out.below kb)).mono ?_
          rintro e w3 ⟨rfl, hb3⟩
          have r1 := Lib.hid (cs_r1 (k1.out.below hb3))
          have kb := bel kb hb3
          clear hb3 x0 x1 x2 x3 x5 x6 x8 r0 k1
          cases s0 : slotB m0 d0 t0 with
          | false =>
            replace hmk2 := Lib.hid hmk2
            go_wp2_with fail
            go_ret
            exact hno.out _ (fun h => by have := h.s0; simp only [s0] at this; cases this) kb
          | true =>
            have s0 := Lib.hid s0
            go_wp2_with (first | (refine wpList_load_mid2 rfl _ _ rfl _ _ rfl (by kernel_rfl) _ r1.out (by first | (rw [lims_len]; kernel_rfl) | (rw [el_rep]; kernel_rfl) | (rw [el_len]; kernel_rfl) | (rw [byts_len]; kernel_rfl) | (rw [us_len]; kernel_rfl) | (rw [bytn_len]; kernel_rfl) | (rw [ens_len, digs_len]; kernel_rfl) | kernel_rfl) ?_) | fail)
            refine (slot_any _ _ _ _ _ (h1.out.below kb)).mono ?_
            rintro e w4 ⟨rfl, hb4⟩
            have kb := bel kb hb4
            clear hb4 r1
            cases s1 : slotB m1 true t1 with
            | false =>
              go_wp2_with fail
              go_ret
              exact hno.out _ (fun h => by have := h.s1; simp only [s1] at this; cases this) kb
            | true =>
              have s1 := Lib.hid s1
              go_wp2_with fail
              go_ret
              exact ⟨_, rfl, by simp only [true_iff]; exact hmk2.out s0.out s1.out, kb⟩
end Go.Proofs.YtmlmggmnlgcbcaaGreat


namespace Go.Proofs.YtmlmggmnlgcbcaaGreat
open Go.RowKit
/-- The state of nothing. -/
def newS : Stt := ⟨0, [], [], false, 0, [], false, 0, -1⟩
def nilSv : Sv := ⟨.slice none 0 0, .slice none 0 0, .slice none 0 0⟩
def tgt (a : Int) : Int := if a = 0 then 1 else 0
theorem target_any (S : Stt) (v : Sv) (w : World) : Calls Tryz.prog 140 #[.agg (S.cs v).toArray] w fun e w' => e = .returned (.int .i64 (tgt S.act)) ∧ Below w.heap.size w w' := by
  obtain ⟨f, l, m0, d0, t0, m1, d1, t1, a⟩ := S
  simp only [Stt.cs, tgt]
  by_cases h : a = 0
  · rw [if_pos h]
    go_enter Tryz.func140, Tryz.ntmps140
    go_wp2_with fail
    go_ret
    exact ⟨rfl, below_alloc _ _⟩
  · rw [if_neg h]
    go_enter Tryz.func140, Tryz.ntmps140
    go_wp2_with fail
    go_ret
    exact ⟨rfl, below_alloc _ _⟩
end Go.Proofs.YtmlmggmnlgcbcaaGreat


namespace Go.Proofs.YtmlmggmnlgcbcaaGreat
open Go.RowKit
/-- May a state be? -/
noncomputable def mayB (S : Stt) : Bool := @decide (mayP S) (Classical.propDecidable _)
theorem mayB_iff (S : Stt) : mayB S = true ↔ mayP S := by unfold mayB; simp
theorem mayPost_b {S : Stt} {w : World} {e : Ending} {w' : World} (h : MayPost S w e w') : e = .returned (.bool (mayB S)) ∧ Below w.heap.size w w' := by
  obtain ⟨r, rfl, h1, h2⟩ := h
  refine ⟨?_, h2⟩
  rw [← mayB_iff] at h1
  rw [Bool.eq_iff_iff.2 h1]
theorem mayb_any (S : Stt) (v : Sv) (w : World) (h : StOk w S v) : Calls Tryz.prog 128 #[.agg (S.cs v).toArray] w fun e w' => e = .returned (.bool (mayB S)) ∧ Below w.heap.size w w' :=
  (may_any S v w h).mono fun _ _ h => mayPost_b h
/-- None of the lists lies in block g. -/
structure StOff (g : Nat) (v : Sv) : Prop where
  rv : v.rv.ownBlock ≠ some g
  m0 : v.m0.ownBlock ≠ some g
  m1 : v.m1.ownBlock ≠ some g
theorem StOwn.off {B g : Nat} {w : World} {S : Stt} {v : Sv} (h : StOwn B w S v) (hg : w.heap.size ≤ g) : StOff g v :=
  ⟨fun e => by have := (h.rv.lt g e).2; omega, fun e => by have := (h.m0.lt g e).2; omega, fun e => by have := (h.m1.lt g e).2; omega⟩
theorem StOwn.kept {B g : Nat} {w w' : World} {S : Stt} {v : Sv} (h : StOwn B w S v) (hg : w.grownBy w' (some g)) (ho : StOff g v) : StOwn B w' S v :=
  ⟨own_keptN h.rv hg ho.rv, own_keptN h.m0 hg ho.m0, own_keptN h.m1 hg ho.m1⟩
theorem StOwn.same {B : Nat} {w : World} {S S' : Stt} {v : Sv} (h : StOwn B w S v) (h1 : S'.rev = S.rev) (h2 : S'.m0 = S.m0) (h3 : S'.m1 = S.m1) : StOwn B w S' v := by
  obtain ⟨r, a, b⟩ := h
  exact ⟨by rw [h1]; exact r, by rw [h2]; exact a, by rw [h3]; exact b⟩
end Go.Proofs.YtmlmggmnlgcbcaaGreat


namespace Go.Proofs.YtmlmggmnlgcbcaaGreat
open Go.RowKit
theorem StOwn.grown {B g : Nat} {w w' : World} {S : Stt} {v : Sv} (h : StOwn B w S v) (hg : w.grownBy w' (some g)) (hb : g < B) : StOwn B w' S v := ⟨own_grown h.rv hg hb, own_grown h.m0 hg hb, own_grown h.m1 hg hb⟩
end Go.Proofs.YtmlmggmnlgcbcaaGreat


namespace Go.Proofs.YtmlmggmnlgcbcaaGreat
open Go.RowKit
/-- Which slot is started, and whether it is a trial. -/
noncomputable def pickS (S : Stt) (b0 b1 : Bool) : Int × Bool :=
  if mayB S = true then
    (if S.act = 0 then (if (S.d1 && decide (S.t1 < 3) && b1) = true then (1, true) else if b0 = true then (0, false) else (-1, false))
    else if S.act = 1 then (if (S.d0 && decide (S.t0 < 3) && b0) = true then (0, true) else if b1 = true then (1, false) else (-1, false))
    else (if (S.d0 && decide (S.t0 < 3) && b0) = true then (0, true) else (-1, false)))
  else (-1, false)
theorem tup2 {a a' : Int} {b b' : Bool} {p : Int × Bool} (h : p = (a, b)) (h1 : a' = a) (h2 : b' = b) : Ending.returned (.tuple #[.int .i64 a', .bool b']) = .returned (.tuple #[.int .i64 p.1, .bool p.2]) := by rw [h, h1, h2]
set_option maxHeartbeats 4000000 in
set_option maxRecDepth 100000 in
theorem pick_any (S : Stt) (v : Sv) (b0 b1 : Bool) (w : World) (h : StOk w S v) : Calls Tryz.prog 111 #[.agg (S.cs v).toArray, .agg #[.bool b0, .bool b1]] w fun e w' => e = .returned (.tuple #[.int .i64 (pickS S b0 b1).1, .bool (pickS S b0 b1).2]) ∧ Below w.heap.size w w' := by
  have ho := Lib.hid h
  clear h
  obtain ⟨pp, hpp⟩ : ∃ p, pickS S b0 b1 = p := ⟨_, rfl⟩
  rw [hpp]
  replace hpp := Lib.hid hpp
  go_enter Tryz.func111, Tryz.ntmps111
  go_upto_region 1 with fail
  refine wp_new2 (fun W hsz k1 k2 kb => ?_)
  have k1 : Arr W w.heap.size (S.cs v) := k1
  have k2 : Arr W (w.heap.size + 1) [.bool b0, .bool b1] := k2
  clear hsz
  replace k2 := Lib.hid k2
  go_wp2_with (first | (refine wpList_load_arr2 rfl _ _ rfl _ rfl (by decide +kernel) _ (by assumption) (by first | (rw [lims_len]; kernel_rfl) | (rw [el_rep]; kernel_rfl) | (rw [el_len]; kernel_rfl) | (rw [byts_len]; kernel_rfl) | (rw [us_len]; kernel_rfl) | (rw [bytn_len]; kernel_rfl) | (rw [ens_len, digs_len]; kernel_rfl) | kernel_rfl) ?_) | fail)
  refine (mayb_any S v _ (ho.out.below kb)).mono ?_
  rintro e w1 ⟨he, hb⟩
  have k1 := k1.below hb
  have k2 := k2.out.below hb
  have kb := bel kb hb
  clear hb
  cases hm : mayB S with
  | false =>
    have hp : Hid (pp = (-1, false)) := Lib.hid (by rw [← hpp.out]; unfold pickS; rw [hm]; rfl)
    rw [hm] at he
    subst he
    clear hm k1 k2 hpp
    go_wp2_with fail
    go_ret2
    exact ⟨tup2 hp.out rfl rfl, kb⟩
  | true =>
    rw [hm] at he
    subst he
    have hmp := (mayB_iff S).1 hm
    have hlo := hmp.lo
    have hhi := hmp.hi
    have hpk := hpp.out
    unfold pickS at hpk
    rw [if_pos hm] at hpk
    replace hpk := Lib.hid hpk
    replace hm := Lib.hid hm
    clear hmp hpp
    replace k2 := Lib.hid k2
    go_wp2_with (first | (refine wpList_load_arr2 rfl _ _ rfl _ rfl (by decide +kernel) _ (by assumption) (by first | (rw [lims_len]; kernel_rfl) | (rw [el_rep]; kernel_rfl) | (rw [el_len]; kernel_rfl) | (rw [byts_len]; kernel_rfl) | (rw [us_len]; kernel_rfl) | (rw [bytn_len]; kernel_rfl) | (rw [ens_len, digs_len]; kernel_rfl) | kernel_rfl) ?_) | fail)
    refine (target_any S v _).mono ?_
    rintro e w2 ⟨he, hb⟩
    have k1 := k1.below hb
    have k2 := k2.out.below hb
    have kb := bel kb hb
    clear hb
    obtain ⟨f, l, m0, d0, t0, m1, d1, t1, a⟩ := S
    simp only at hlo hhi hpk he
    have ha : a = -1 ∨ a = 0 ∨ a = 1 := by omega
    clear hlo hhi
    rcases ha with rfl | rfl | rfl
    all_goals
      (have x3 := k1.cell (j := 3) rfl)
      (have x4 := k1.cell (j := 4) rfl)
      (have x6 := k1.cell (j := 6) rfl)
      (have x7 := k1.cell (j := 7) rfl)
      (have x8 := k1.cell (j := 8) rfl)
      (have y0 := k2.cell (j := 0) rfl)
      (have y1 := k2.cell (j := 1) rfl)
      (simp only at x3 x4 x6 x7 x8)
      (clear k1 k2)
    · replace he : e = .returned (.int .i64 0) := he
      subst he
      have hp := hpk.out
      by_cases ht : t0 < 3
      · simp only [ht] at hp
        clear hpk
        cases d0 <;> cases b0 <;> cases b1 <;> simp at hp <;> replace hp := Lib.hid hp.symm
        all_goals
          go_wp2_with fail
          go_ret2
          exact ⟨tup2 hp.out rfl rfl, kb⟩
      · simp only [ht] at hp
        clear hpk
        cases d0 <;> cases b0 <;> cases b1 <;> simp at hp <;> replace hp := Lib.hid hp.symm
        all_goals
          go_wp2_with fail
          go_ret2
          exact ⟨tup2 hp.out rfl rfl, kb⟩
    · replace he : e = .returned (.int .i64 1) := he
      subst he
      have hp := hpk.out
      by_cases ht : t1 < 3
      · simp only [ht] at hp
        clear hpk
        cases d1 <;> cases b0 <;> cases b1 <;> simp at hp <;> replace hp := Lib.hid hp.symm
        all_goals
          go_wp2_with fail
          go_ret2
          exact ⟨tup2 hp.out rfl rfl, kb⟩
      · simp only [ht] at hp
        clear hpk
        cases d1 <;> cases b0 <;> cases b1 <;> simp at hp <;> replace hp := Lib.hid hp.symm
        all_goals
          go_wp2_with fail
          go_ret2
          exact ⟨tup2 hp.out rfl rfl, kb⟩
    · replace he : e = .returned (.int .i64 0) := he
      subst he
      have hp := hpk.out
      by_cases ht : t0 < 3
      · simp only [ht] at hp
        clear hpk
        cases d0 <;> cases b0 <;> cases b1 <;> simp at hp <;> replace hp := Lib.hid hp.symm
        all_goals
          go_wp2_with fail
          go_ret2
          exact ⟨tup2 hp.out rfl rfl, kb⟩
      · simp only [ht] at hp
        clear hpk
        cases d0 <;> cases b0 <;> cases b1 <;> simp at hp <;> replace hp := Lib.hid hp.symm
        all_goals
          go_wp2_with fail
          go_ret2
          exact ⟨tup2 hp.out rfl rfl, kb⟩
end Go.Proofs.YtmlmggmnlgcbcaaGreat


namespace Go.Proofs.YtmlmggmnlgcbcaaGreat
open Go.RowKit
set_option maxHeartbeats 1000000 in
set_option maxRecDepth 100000 in
theorem mnum_bad (g : Nat) (w : World) (hc : Cur w g [] true) :
    Calls Tryz.prog 132 #[.pointer (some ⟨g, 0, none⟩)] w fun e w' => e = .returned (.agg (bytn 32 0).toArray) ∧ Below w.heap.size w w' := by
  have hsz1 : Hid ((Tryz.prog.info? 5).map (·.size) = some 1) := Lib.hid (by kernel_rfl)
  have cR := Lib.hid (fun w' (hb : Below w.heap.size w w') => same_below (raw_bad g [] 32 w' (hc.below hb)))
  clear hc
  go_enter Tryz.func132, Tryz.ntmps132
  go_upto_region 2 with fail
  refine wp_new2 (fun W hsz k2 k3 kb => ?_)
  replace k2 : Arr W w.heap.size (bytn 32 0) := k2
  replace k3 : Arr W (w.heap.size + 1) (bytn 32 0) := k3
  obtain ⟨g2, hg2⟩ : ∃ g, w.heap.size = g := ⟨_, rfl⟩
  rw [hg2] at k2 k3 ⊢
  have hw2 : w.heap.size ≤ g2 := by omega
  clear hsz hg2
  refine Tx.start (fun w' => Below (W).heap.size (W) w') 3 4 rfl (by kernel_rfl) ?_
  have hS_1 : Below (W).heap.size (W) (World.drew W) := (Below.refl _ _).drew
  refine Tx.seg2 (A := ?_) 2 3 (by kernel_rfl) (by exact hS_1) [0, 1] (by kernel_rfl) ?_ ?_
  rotate_left
  · intro w' hB
    iterate 2 (first | (refine rd_skip rfl rfl ?_; simp only [Act.put, List.setIfInBounds_toArray, List.set_cons_zero, List.set_cons_succ]) | (refine rd_load_arr rfl rfl _ _ rfl _ rfl (by decide +kernel) _ (by assumption) (by first | (rw [lims_len]; kernel_rfl) | (rw [el_rep]; kernel_rfl) | (rw [el_len]; kernel_rfl) | (rw [byts_len]; kernel_rfl) | (rw [us_len]; kernel_rfl) | (rw [bytn_len]; kernel_rfl) | (rw [ens_len, digs_len]; kernel_rfl) | kernel_rfl) ?_; simp only [Act.put, List.setIfInBounds_toArray, List.set_cons_zero, List.set_cons_succ]) | (refine rd_take (v := ?_) rfl rfl ?_ ?_; rotate_left; (focus (go_simp; try (with_reducible rfl))); simp only [Act.put, List.setIfInBounds_toArray, List.set_cons_zero, List.set_cons_succ]))
    exact rd_nil
  refine Tx.eff 2 7 rfl (by decide +kernel) (fun K hK => ?_)
  go_simp
  refine (cR.out _ (bel kb hS_1)).mono ?_
  rintro e w_2 ⟨rfl, hb_2⟩
  have hS_2 := ext_trans hS_1 (Nat.le_refl _) hb_2
  refine hK (fun w' => Below (W).heap.size (W) w') _ _ hS_2 (fun _ h => h) ?_
  clear hK K hb_2 hS_1
  try simp only [Act.put, List.setIfInBounds_toArray, List.set_cons_zero, List.set_cons_succ]
  refine Tx.bar 15 rfl (by decide +kernel) (fun K hK => ?_)
  replace k2 := k2.below hS_2
  replace k3 := k3.below hS_2
  replace kb := bel kb hS_2
  clear hS_2
  refine step_copyN rfl _ _ 26 26 rfl 5 Tryz.underlying26 hsz1.out (g2 + 1) 0 32 32 rfl _ k3 (by rw [bytn_len]; decide) _ rfl [] (Sl.nil _) (fun u hu => by cases hu) 0 rfl (bytn 32 0) (by simp) (fun W3 k3 hg hsz => ?_)
  replace k2 := k2.kept hg (by omega)
  replace kb := below_gr kb hg (by omega) kb.size
  refine hK (fun _ => True) 9999 _ _ ?_
  clear hK K
  try simp only [Act.put]
  try simp only [List.setIfInBounds_toArray, List.set_cons_zero, List.set_cons_succ]
  refine Tx.done (by kernel_rfl) ?_
  go_wp2_with (first | (refine wpList_load_arr2 rfl _ _ rfl _ rfl (by decide +kernel) _ k3 (by rw [bytn_len]; kernel_rfl) ?_) | (refine wpl_storeG rfl _ _ _ rfl _ (bytn 32 0) rfl rfl _ k2 (by rw [bytn_len]; kernel_rfl) (by rw [bytn_len]) (bytn_one _ _) (fun w9 k2 hg hsz => ?_)))
  have qb := below_gr kb hg hw2 kb.size
  exact bodyPost_ret (results_arr2 Tryz.results132 _ _ _ rfl (by kernel_rfl) _ k2 (by rw [bytn_len]; kernel_rfl)) rfl ⟨rfl, qb⟩
set_option maxHeartbeats 1000000 in
set_option maxRecDepth 100000 in
theorem msig_bad (g : Nat) (w : World) (hc : Cur w g [] true) :
    Calls Tryz.prog 133 #[.pointer (some ⟨g, 0, none⟩)] w fun e w' => e = .returned (.agg (bytn 64 0).toArray) ∧ Below w.heap.size w w' := by
  have hsz1 : Hid ((Tryz.prog.info? 5).map (·.size) = some 1) := Lib.hid (by kernel_rfl)
  have cR := Lib.hid (fun w' (hb : Below w.heap.size w w') => same_below (raw_bad g [] 64 w' (hc.below hb)))
  clear hc
  go_enter Tryz.func133, Tryz.ntmps133
  go_upto_region 2 with fail
  refine wp_new2 (fun W hsz k2 k3 kb => ?_)
  replace k2 : Arr W w.heap.size (bytn 64 0) := k2
  replace k3 : Arr W (w.heap.size + 1) (bytn 64 0) := k3
  obtain ⟨g2, hg2⟩ : ∃ g, w.heap.size = g := ⟨_, rfl⟩
  rw [hg2] at k2 k3 ⊢
  have hw2 : w.heap.size ≤ g2 := by omega
  clear hsz hg2
  refine Tx.start (fun w' => Below (W).heap.size (W) w') 3 4 rfl (by kernel_rfl) ?_
  have hS_3 : Below (W).heap.size (W) (World.drew W) := (Below.refl _ _).drew
  refine Tx.seg2 (A := ?_) 2 3 (by kernel_rfl) (by exact hS_3) [0, 1] (by kernel_rfl) ?_ ?_
  rotate_left
  · intro w' hB
    iterate 2 (first | (refine rd_skip rfl rfl ?_; simp only [Act.put, List.setIfInBounds_toArray, List.set_cons_zero, List.set_cons_succ]) | (refine rd_load_arr rfl rfl _ _ rfl _ rfl (by decide +kernel) _ (by assumption) (by first | (rw [lims_len]; kernel_rfl) | (rw [el_rep]; kernel_rfl) | (rw [el_len]; kernel_rfl) | (rw [byts_len]; kernel_rfl) | (rw [us_len]; kernel_rfl) | (rw [bytn_len]; kernel_rfl) | (rw [ens_len, digs_len]; kernel_rfl) | kernel_rfl) ?_; simp only [Act.put, List.setIfInBounds_toArray, List.set_cons_zero, List.set_cons_succ]) | (refine rd_take (v := ?_) rfl rfl ?_ ?_; rotate_left; (focus (go_simp; try (with_reducible rfl))); simp only [Act.put, List.setIfInBounds_toArray, List.set_cons_zero, List.set_cons_succ]))
    exact rd_nil
  refine Tx.eff 2 7 rfl (by decide +kernel) (fun K hK => ?_)
  go_simp
  refine (cR.out _ (bel kb hS_3)).mono ?_
  rintro e w_4 ⟨rfl, hb_4⟩
  have hS_4 := ext_trans hS_3 (Nat.le_refl _) hb_4
  refine hK (fun w' => Below (W).heap.size (W) w') _ _ hS_4 (fun _ h => h) ?_
  clear hK K hb_4 hS_3
  try simp only [Act.put, List.setIfInBounds_toArray, List.set_cons_zero, List.set_cons_succ]
  refine Tx.bar 15 rfl (by decide +kernel) (fun K hK => ?_)
  replace k2 := k2.below hS_4
  replace k3 := k3.below hS_4
  replace kb := bel kb hS_4
  clear hS_4
  refine step_copyN rfl _ _ 26 26 rfl 5 Tryz.underlying26 hsz1.out (g2 + 1) 0 64 64 rfl _ k3 (by rw [bytn_len]; decide) _ rfl [] (Sl.nil _) (fun u hu => by cases hu) 0 rfl (bytn 64 0) (by simp) (fun W3 k3 hg hsz => ?_)
  replace k2 := k2.kept hg (by omega)
  replace kb := below_gr kb hg (by omega) kb.size
  refine hK (fun _ => True) 9999 _ _ ?_
  clear hK K
  try simp only [Act.put]
  try simp only [List.setIfInBounds_toArray, List.set_cons_zero, List.set_cons_succ]
  refine Tx.done (by kernel_rfl) ?_
  go_wp2_with (first | (refine wpList_load_arr2 rfl _ _ rfl _ rfl (by decide +kernel) _ k3 (by rw [bytn_len]; kernel_rfl) ?_) | (refine wpl_storeG rfl _ _ _ rfl _ (bytn 64 0) rfl rfl _ k2 (by rw [bytn_len]; kernel_rfl) (by rw [bytn_len]) (bytn_one _ _) (fun w9 k2 hg hsz => ?_)))
  have qb := below_gr kb hg hw2 kb.size
  exact bodyPost_ret (results_arr2 Tryz.results133 _ _ _ rfl (by kernel_rfl) _ k2 (by rw [bytn_len]; kernel_rfl)) rfl ⟨rfl, qb⟩
end Go.Proofs.YtmlmggmnlgcbcaaGreat


namespace Go.Proofs.YtmlmggmnlgcbcaaGreat
open Go.RowKit
/-- The manifest of nothing. -/
def mnZ : List Value := .int .i64 0 :: .int .i64 0 :: (bytn 32 0 ++ (.slice none 0 0 :: .int .i64 0 :: (bytn 32 0 ++ (bytn 64 0 ++ bytn 64 0))))
theorem mnZ_facts : mnZ.length = 196 ∧ (mnZ[1]? = some (.int .i64 0) ∧ mnZ[34]? = some (.slice none 0 0) ∧ mnZ[35]? = some (.int .i64 0)) ∧ (mnZ.set 1 (.int .i64 0) = mnZ ∧ mnZ.set 34 (.slice none 0 0) = mnZ ∧ mnZ.set 35 (.int .i64 0) = mnZ) ∧
    (putAt 2 (bytn 32 0) mnZ = mnZ ∧ putAt 36 (bytn 32 0) mnZ = mnZ ∧ putAt 68 (bytn 64 0) mnZ = mnZ ∧ putAt 132 (bytn 64 0) mnZ = mnZ) :=
  ⟨by kernel_rfl, ⟨by kernel_rfl, by kernel_rfl, by kernel_rfl⟩, ⟨by kernel_rfl, by kernel_rfl, by kernel_rfl⟩, by kernel_rfl, by kernel_rfl, by kernel_rfl, by kernel_rfl⟩
theorem mnZ_one : ∀ v ∈ mnZ, v.oneCell' = true := by
  intro v hv
  simp only [mnZ, List.mem_cons, List.mem_append] at hv
  rcases hv with rfl | rfl | h | rfl | rfl | h | h | h <;> first | rfl | exact bytn_one _ _ _ h
theorem intS_bad : intS [] true = (0, [], true) := by decide +kernel
theorem Cur.keptE {w w' : World} {g k : Nat} {bad : Bool} (h : Cur w g [] bad) (hg : w.grownBy w' (some k)) (hk : k ≠ g) : Cur w' g [] bad := by
  have hlt := h.lt
  obtain ⟨v, h1, h2, h3, h4, h5⟩ := h
  have hb := hg.block g hlt (by simp only [ne_eq, Option.some.injEq]; exact fun e => hk e.symm)
  refine ⟨v, by rw [World.cell?_of_block (a := ⟨g, 0, none⟩) hb]; exact h1, by rw [World.cell?_of_block (a := ⟨g, 1, none⟩) hb]; exact h2, by rw [World.frozen?_of_block (a := ⟨g, 0, none⟩) hb]; exact h3, by rw [World.frozen?_of_block (a := ⟨g, 1, none⟩) hb]; exact h4, ?_⟩
  rcases h5 with h | ⟨b, o, cap, rfl, q1, q2, q3, q4, q5⟩
  · exact .inl h
  · exact .inr ⟨b, o, cap, rfl, q1, q2, q3, Nat.lt_of_lt_of_le q4 hg.size, fun j u hu => by simp [u8s] at hu⟩
theorem int_bad (g : Nat) (w : World) (hc : Cur w g [] true) : Calls Tryz.prog 93 #[.pointer (some ⟨g, 0, none⟩)] w fun e w' => e = .returned (.int .i64 0) ∧ w.grownBy w' (some g) ∧ Cur w' g [] true := by
  have h := int_any g [] true w hc (by decide)
  rw [intS_bad] at h
  exact h
set_option maxHeartbeats 4000000 in
set_option maxRecDepth 100000 in
theorem mread_short (vb : Value) (bs : List UInt8) (hb3 : bs.length ≤ 3) (w : World) (hs : Sl w vb (u8s bs)) :
    Calls Tryz.prog 98 #[vb] w fun e w' => e = .returned (.tuple #[.agg mnZ.toArray, .int .i64 4]) ∧ Below w.heap.size w w' := by
  have hone := Lib.hid mnZ_one
  have hZ0 : mnZ = mnZ := rfl
  obtain ⟨hlen, ⟨x1, x34, x35⟩, ⟨s1, s34, s35⟩, p2, p36, p68, p132⟩ := mnZ_facts
  obtain ⟨X, hX⟩ : ∃ X, mnZ = X := ⟨_, rfl⟩
  rw [hX] at hlen x1 x34 x35 s1 s34 s35 p2 p36 p68 p132 hone ⊢
  clear hZ0
  replace hX := Lib.hid hX
  replace hlen := Lib.hid hlen
  replace x1 := Lib.hid x1
  replace x34 := Lib.hid x34
  replace x35 := Lib.hid x35
  replace s1 := Lib.hid s1
  replace s34 := Lib.hid s34
  replace s35 := Lib.hid s35
  replace p2 := Lib.hid p2
  replace p36 := Lib.hid p36
  replace p68 := Lib.hid p68
  replace p132 := Lib.hid p132
  have cN := Lib.hid (fun w' (hb : Below w.heap.size w w') => packNew_any vb bs w' (hs.below hb) (by omega))
  replace hb3 := Lib.hid hb3
  clear hs
  go_enter Tryz.func98, Tryz.ntmps98
  go_upto_region 1 with fail
  refine wp_new1 (fun W hsz k2 kb => ?_)
  replace k2 : Arr W w.heap.size X := (congrArg (Arr W w.heap.size) ((by kernel_rfl : _ = mnZ).trans hX.out)).mp k2
  obtain ⟨g2, hg2⟩ : ∃ g, w.heap.size = g := ⟨_, rfl⟩
  rw [hg2] at k2 ⊢
  have hw2 : w.heap.size ≤ g2 := by omega
  clear hsz hg2
  go_wp2_with fail
  refine (cN.out _ kb).mono ?_
  rintro e w1 ⟨gc, rfl, hgc, kc, hb⟩
  have h2c := k2.lt
  have h2gc : g2 < gc := by omega
  replace k2 := k2.below hb
  replace kb := bel kb hb
  have cW := Lib.hid (raw_no gc bs 4 w1 kc (.inr (by have := hb3.out; omega)))
  clear hb hgc cN h2c kc
  go_wp2_with fail
  refine cW.out.mono ?_
  rintro e w2 ⟨rfl, hg, kc⟩
  replace k2 := k2.kept hg (by omega)
  replace kb := below_gr kb hg (by omega) kb.size
  clear cW hg
  have hst : (convert 26 9 (.slice none 0 0)).run Tryz.prog w2 = .ok (.string ⟨#[]⟩) w2 := strBk (bs := []) (Sl.nil _)
  have cI := Lib.hid (int_bad gc _ kc)
  clear kc
  go_wp2_with fail
  refine cI.out.mono ?_
  rintro e w3 ⟨rfl, hg, kc⟩
  replace k2 := k2.kept hg (by omega)
  replace kb := below_gr kb hg (by omega) kb.size
  clear cI hg
  clear hst
  go_upto_region 4 with (first | (refine wpList_builta rfl _ _ rfl mnZ.toArray (by kernel_rfl) ?_; rw [hX.out]) | (refine wpl_storeG rfl _ _ _ rfl _ X rfl rfl _ (Arr.new _ _ _) (by rw [hlen.out]; kernel_rfl) (by rw [hlen.out]; kernel_rfl) hone.out (fun w4 k6 hg hsz => ?_)))
  have hb := below_fresh hg
  have hc3 := kc.lt
  replace k2 := k2.below hb
  replace kc := kc.below hb
  replace kb := bel kb hb
  obtain ⟨g6, hg6⟩ : ∃ g, w3.heap.size = g := ⟨_, rfl⟩
  rw [hg6] at k6 hc3 ⊢
  have hw6 : w.heap.size ≤ g6 := by omega
  clear hb hsz hg hg6
  have cI := Lib.hid (int_bad gc _ kc)
  clear kc
  go_wp2_with fail
  refine cI.out.mono ?_
  rintro e w5 ⟨rfl, hg, kc⟩
  replace k2 := k2.kept hg (by omega)
  replace k6 := k6.kept hg (by omega)
  replace kb := below_gr kb hg (by omega) kb.size
  clear cI hg
  have q1 := k6.cell x1.out
  have q2 := k6.frozen 1
  go_upto_region 5 with fail
  clear q1 q2
  refine code_cellG k6 (fun w6 k6 hg hsz => ?_)
  replace k2 := k2.kept hg (by omega)
  replace kb := below_gr kb hg (by omega) kb.size
  replace kc := Cur.keptE kc hg (by omega)
  clear hg hsz
  rw [s1.out] at k6
  have cS := Lib.hid (mnum_bad gc _ kc)
  go_wp2_with fail
  refine cS.out.mono ?_
  rintro e w7 ⟨rfl, hb⟩
  replace k2 := k2.below hb
  replace k6 := k6.below hb
  replace kc := kc.below hb
  replace kb := bel kb hb
  clear hb cS
  go_upto_region 6 with (refine wpl_storeMG rfl _ _ _ rfl g6 2 (bytn 32 0) rfl rfl _ k6 (by rw [bytn_len]; kernel_rfl) (by rw [bytn_len, hlen.out]; decide) (bytn_one _ _) (fun w8 k6 hg => ?_))
  rw [p2.out] at k6
  replace k2 := k2.kept hg (by omega)
  replace kb := below_gr kb hg (by omega) kb.size
  replace kc := Cur.keptE kc hg (by omega)
  clear hg
  have cW := Lib.hid (raw_bad gc [] 80 _ kc)
  go_wp2_with fail
  refine cW.out.mono ?_
  rintro e wR ⟨rfl, hw⟩
  subst hw
  clear cW
  have q1 := k6.cell x34.out
  have q2 := k6.frozen 34
  go_upto_region 7 with fail
  clear q1 q2
  refine code_cellG k6 (fun w10 k6 hg hsz => ?_)
  replace k2 := k2.kept hg (by omega)
  replace kb := below_gr kb hg (by omega) kb.size
  replace kc := Cur.keptE kc hg (by omega)
  clear hg hsz
  rw [s34.out] at k6
  have cI := Lib.hid (int_bad gc _ kc)
  clear kc
  go_wp2_with fail
  refine cI.out.mono ?_
  rintro e w11 ⟨rfl, hg, kc⟩
  replace k2 := k2.kept hg (by omega)
  replace k6 := k6.kept hg (by omega)
  replace kb := below_gr kb hg (by omega) kb.size
  clear cI hg
  have q1 := k6.cell x35.out
  have q2 := k6.frozen 35
  go_upto_region 8 with fail
  clear q1 q2
  refine code_cellG k6 (fun w12 k6 hg hsz => ?_)
  replace k2 := k2.kept hg (by omega)
  replace kb := below_gr kb hg (by omega) kb.size
  replace kc := Cur.keptE kc hg (by omega)
  clear hg hsz
  rw [s35.out] at k6
  have cS := Lib.hid (mnum_bad gc _ kc)
  go_wp2_with fail
  refine cS.out.mono ?_
  rintro e wS ⟨rfl, hb⟩
  replace k2 := k2.below hb
  replace k6 := k6.below hb
  replace kc := kc.below hb
  replace kb := bel kb hb
  clear hb cS
  go_upto_region 9 with (refine wpl_storeMG rfl _ _ _ rfl g6 36 (bytn 32 0) rfl rfl _ k6 (by rw [bytn_len]; kernel_rfl) (by rw [bytn_len, hlen.out]; decide) (bytn_one _ _) (fun w8 k6 hg => ?_))
  rw [p36.out] at k6
  replace k2 := k2.kept hg (by omega)
  replace kb := below_gr kb hg (by omega) kb.size
  replace kc := Cur.keptE kc hg (by omega)
  clear hg
  have cS := Lib.hid (msig_bad gc _ kc)
  go_wp2_with fail
  refine cS.out.mono ?_
  rintro e wS ⟨rfl, hb⟩
  replace k2 := k2.below hb
  replace k6 := k6.below hb
  replace kc := kc.below hb
  replace kb := bel kb hb
  clear hb cS
  go_upto_region 10 with (refine wpl_storeMG rfl _ _ _ rfl g6 68 (bytn 64 0) rfl rfl _ k6 (by rw [bytn_len]; kernel_rfl) (by rw [bytn_len, hlen.out]; decide) (bytn_one _ _) (fun w8 k6 hg => ?_))
  rw [p68.out] at k6
  replace k2 := k2.kept hg (by omega)
  replace kb := below_gr kb hg (by omega) kb.size
  replace kc := Cur.keptE kc hg (by omega)
  clear hg
  have cS := Lib.hid (msig_bad gc _ kc)
  go_wp2_with fail
  refine cS.out.mono ?_
  rintro e wS ⟨rfl, hb⟩
  replace k2 := k2.below hb
  replace k6 := k6.below hb
  replace kc := kc.below hb
  replace kb := bel kb hb
  clear hb cS
  go_upto_region 11 with (refine wpl_storeMG rfl _ _ _ rfl g6 132 (bytn 64 0) rfl rfl _ k6 (by rw [bytn_len]; kernel_rfl) (by rw [bytn_len, hlen.out]; decide) (bytn_one _ _) (fun w8 k6 hg => ?_))
  replace k2 := k2.kept hg (by omega)
  replace kb := below_gr kb hg (by omega) kb.size
  replace kc := Cur.keptE kc hg (by omega)
  clear hg k6
  have cE := end_any gc [] true _ kc
  rw [show endS [] true = false from rfl] at cE
  replace cE := Lib.hid cE
  go_wp2_with fail
  refine cE.out.mono ?_
  rintro e wE ⟨rfl, hw⟩
  subst hw
  clear cE kc
  go_wp2_with (first | (refine wpList_builta rfl _ _ rfl mnZ.toArray (by kernel_rfl) ?_; rw [hX.out]) | (refine wpl_storeG rfl _ _ _ rfl _ X rfl rfl _ k2 (by rw [hlen.out]; kernel_rfl) (by rw [hlen.out]) hone.out (fun w9 k2 hg hsz => ?_)))
  have qb := below_gr kb hg hw2 kb.size
  exact bodyPost_ret (results_arr_tmp Tryz.results98 _ _ g2 _ rfl Tryz.underlying161 rfl X k2 (by rw [hlen.out]; kernel_rfl) _ rfl) rfl ⟨rfl, qb⟩
end Go.Proofs.YtmlmggmnlgcbcaaGreat

