/- slots: Pick, the reference's Pick. -/
import Derived.Test.YtkipejhjpfakpaaSt8
namespace Go.Proofs.Ytkipejhjpfakpaa
open Go.RowKit

/-- Which slot is started, and whether it is a trial. -/
noncomputable def pickS (S : Stt) (b0 b1 : Bool) : Int × Bool :=
  if mayB S = true then
    (if S.act = 0 then (if (S.d1 && decide (S.t1 < 3) && b1) = true then (1, true) else if b0 = true then (0, false) else (-1, false))
    else if S.act = 1 then (if (S.d0 && decide (S.t0 < 3) && b0) = true then (0, true) else if b1 = true then (1, false) else (-1, false))
    else (if (S.d0 && decide (S.t0 < 3) && b0) = true then (0, true) else (-1, false)))
  else (-1, false)
theorem tup2 {a a' : Int} {b b' : Bool} {p : Int × Bool} (h : p = (a, b)) (h1 : a' = a) (h2 : b' = b) : Ending.returned (.tuple #[.int .i64 a', .bool b']) = .returned (.tuple #[.int .i64 p.1, .bool p.2]) := by rw [h, h1, h2]

set_option maxHeartbeats 4000000 in
set_option maxRecDepth 100000 in
theorem pick_any (S : Stt) (v : Sv) (b0 b1 : Bool) (w : World) (h : StOk w S v) : Calls Try.prog 17 #[.agg (S.cs v).toArray, .agg #[.bool b0, .bool b1]] w fun e w' => e = .returned (.tuple #[.int .i64 (pickS S b0 b1).1, .bool (pickS S b0 b1).2]) ∧ Below w.heap.size w w' := by
  have ho := Lib.hid h
  clear h
  obtain ⟨pp, hpp⟩ : ∃ p, pickS S b0 b1 = p := ⟨_, rfl⟩
  rw [hpp]
  replace hpp := Lib.hid hpp
  go_enter Try.func17, Try.ntmps17
  go_upto_region 1 with fail
  refine wp_new2 (fun W hsz k1 k2 kb => ?_)
  have k1 : Arr W w.heap.size (S.cs v) := k1
  have k2 : Arr W (w.heap.size + 1) [.bool b0, .bool b1] := k2
  clear hsz
  replace k2 := Lib.hid k2
  go_wp2_with (first | (refine wpList_load_arr2 rfl _ _ rfl _ rfl (by decide +kernel) _ (by assumption) (by first | (rw [lims_len]; kernel_rfl) | (rw [el_rep]; kernel_rfl) | (rw [el_len]; kernel_rfl) | (rw [byts_len]; kernel_rfl) | (rw [us_len]; kernel_rfl) | (rw [bytn_len]; kernel_rfl) | (rw [ens_len, digs_len]; kernel_rfl) | kernel_rfl) ?_) | fail)
  refine (mayb_any S v _ (ho.out.below kb)).mono ?_
  rintro e w1 ⟨he, hb⟩
  have k1 := k1.below hb
  have k2 := k2.out.below hb
  have kb := bel kb hb
  clear hb
  cases hm : mayB S with
  | false =>
    have hp : Hid (pp = (-1, false)) := Lib.hid (by rw [← hpp.out]; unfold pickS; rw [hm]; rfl)
    rw [hm] at he
    subst he
    clear hm k1 k2 hpp
    go_wp2_with fail
    go_ret2
    exact ⟨tup2 hp.out rfl rfl, kb⟩
  | true =>
    rw [hm] at he
    subst he
    have hmp := (mayB_iff S).1 hm
    have hlo := hmp.lo
    have hhi := hmp.hi
    have hpk := hpp.out
    unfold pickS at hpk
    rw [if_pos hm] at hpk
    replace hpk := Lib.hid hpk
    replace hm := Lib.hid hm
    clear hmp hpp
    replace k2 := Lib.hid k2
    go_wp2_with (first | (refine wpList_load_arr2 rfl _ _ rfl _ rfl (by decide +kernel) _ (by assumption) (by first | (rw [lims_len]; kernel_rfl) | (rw [el_rep]; kernel_rfl) | (rw [el_len]; kernel_rfl) | (rw [byts_len]; kernel_rfl) | (rw [us_len]; kernel_rfl) | (rw [bytn_len]; kernel_rfl) | (rw [ens_len, digs_len]; kernel_rfl) | kernel_rfl) ?_) | fail)
    refine (target_any S v _).mono ?_
    rintro e w2 ⟨he, hb⟩
    have k1 := k1.below hb
    have k2 := k2.out.below hb
    have kb := bel kb hb
    clear hb
    obtain ⟨f, l, m0, d0, t0, m1, d1, t1, a⟩ := S
    simp only at hlo hhi hpk he
    have ha : a = -1 ∨ a = 0 ∨ a = 1 := by omega
    clear hlo hhi
    rcases ha with rfl | rfl | rfl
    all_goals
      (have x3 := k1.cell (j := 3) rfl)
      (have x4 := k1.cell (j := 4) rfl)
      (have x6 := k1.cell (j := 6) rfl)
      (have x7 := k1.cell (j := 7) rfl)
      (have x8 := k1.cell (j := 8) rfl)
      (have y0 := k2.cell (j := 0) rfl)
      (have y1 := k2.cell (j := 1) rfl)
      (simp only at x3 x4 x6 x7 x8)
      (clear k1 k2)
    · replace he : e = .returned (.int .i64 0) := he
      subst he
      have hp := hpk.out
      by_cases ht : t0 < 3
      · simp only [ht] at hp
        clear hpk
        cases d0 <;> cases b0 <;> cases b1 <;> simp at hp <;> replace hp := Lib.hid hp.symm
        all_goals
          go_wp2_with fail
          go_ret2
          exact ⟨tup2 hp.out rfl rfl, kb⟩
      · simp only [ht] at hp
        clear hpk
        cases d0 <;> cases b0 <;> cases b1 <;> simp at hp <;> replace hp := Lib.hid hp.symm
        all_goals
          go_wp2_with fail
          go_ret2
          exact ⟨tup2 hp.out rfl rfl, kb⟩
    · replace he : e = .returned (.int .i64 1) := he
      subst he
      have hp := hpk.out
      by_cases ht : t1 < 3
      · simp only [ht] at hp
        clear hpk
        cases d1 <;> cases b0 <;> cases b1 <;> simp at hp <;> replace hp := Lib.hid hp.symm
        all_goals
          go_wp2_with fail
          go_ret2
          exact ⟨tup2 hp.out rfl rfl, kb⟩
      · simp only [ht] at hp
        clear hpk
        cases d1 <;> cases b0 <;> cases b1 <;> simp at hp <;> replace hp := Lib.hid hp.symm
        all_goals
          go_wp2_with fail
          go_ret2
          exact ⟨tup2 hp.out rfl rfl, kb⟩
    · replace he : e = .returned (.int .i64 0) := he
      subst he
      have hp := hpk.out
      by_cases ht : t0 < 3
      · simp only [ht] at hp
        clear hpk
        cases d0 <;> cases b0 <;> cases b1 <;> simp at hp <;> replace hp := Lib.hid hp.symm
        all_goals
          go_wp2_with fail
          go_ret2
          exact ⟨tup2 hp.out rfl rfl, kb⟩
      · simp only [ht] at hp
        clear hpk
        cases d0 <;> cases b0 <;> cases b1 <;> simp at hp <;> replace hp := Lib.hid hp.symm
        all_goals
          go_wp2_with fail
          go_ret2
          exact ⟨tup2 hp.out rfl rfl, kb⟩

set_option maxHeartbeats 4000000 in
set_option maxRecDepth 100000 in
theorem refPick_any (S : Stt) (v : Sv) (b0 b1 : Bool) (w : World) (h : StOk w S v) : Calls Try.prog 31 #[.agg (S.cs v).toArray, .agg #[.bool b0, .bool b1]] w fun e w' => e = .returned (.tuple #[.int .i64 (pickS S b0 b1).1, .bool (pickS S b0 b1).2]) ∧ Below w.heap.size w w' := by
  have ho := Lib.hid h
  clear h
  obtain ⟨pp, hpp⟩ : ∃ p, pickS S b0 b1 = p := ⟨_, rfl⟩
  rw [hpp]
  replace hpp := Lib.hid hpp
  go_enter Try.func31, Try.ntmps31
  go_upto_region 1 with fail
  refine wp_new2 (fun W hsz k1 k2 kb => ?_)
  have k1 : Arr W w.heap.size (S.cs v) := k1
  have k2 : Arr W (w.heap.size + 1) [.bool b0, .bool b1] := k2
  clear hsz
  replace k2 := Lib.hid k2
  go_wp2_with (first | (refine wpList_load_arr2 rfl _ _ rfl _ rfl (by decide +kernel) _ (by assumption) (by first | (rw [lims_len]; kernel_rfl) | (rw [el_rep]; kernel_rfl) | (rw [el_len]; kernel_rfl) | (rw [byts_len]; kernel_rfl) | (rw [us_len]; kernel_rfl) | (rw [bytn_len]; kernel_rfl) | (rw [ens_len, digs_len]; kernel_rfl) | kernel_rfl) ?_) | fail)
  refine (mayStateb_any S v _ (ho.out.below kb)).mono ?_
  rintro e w1 ⟨he, hb⟩
  have k1 := k1.below hb
  have k2 := k2.out.below hb
  have kb := bel kb hb
  clear hb
  cases hm : mayB S with
  | false =>
    have hp : Hid (pp = (-1, false)) := Lib.hid (by rw [← hpp.out]; unfold pickS; rw [hm]; rfl)
    rw [hm] at he
    subst he
    clear hm k1 k2 hpp
    go_wp2_with fail
    go_ret2
    exact ⟨tup2 hp.out rfl rfl, kb⟩
  | true =>
    rw [hm] at he
    subst he
    have hmp := (mayB_iff S).1 hm
    have hlo := hmp.lo
    have hhi := hmp.hi
    have hpk := hpp.out
    unfold pickS at hpk
    rw [if_pos hm] at hpk
    replace hpk := Lib.hid hpk
    replace hm := Lib.hid hm
    clear hmp hpp
    replace k2 := Lib.hid k2
    go_wp2_with (first | (refine wpList_load_arr2 rfl _ _ rfl _ rfl (by decide +kernel) _ (by assumption) (by first | (rw [lims_len]; kernel_rfl) | (rw [el_rep]; kernel_rfl) | (rw [el_len]; kernel_rfl) | (rw [byts_len]; kernel_rfl) | (rw [us_len]; kernel_rfl) | (rw [bytn_len]; kernel_rfl) | (rw [ens_len, digs_len]; kernel_rfl) | kernel_rfl) ?_) | fail)
    refine (refTargetb_any S v _ (ho.out.below kb) hm.out).mono ?_
    rintro e w2 ⟨he, hb⟩
    have k1 := k1.below hb
    have k2 := k2.out.below hb
    have kb := bel kb hb
    clear hb
    obtain ⟨f, l, m0, d0, t0, m1, d1, t1, a⟩ := S
    simp only at hlo hhi hpk he
    have ha : a = -1 ∨ a = 0 ∨ a = 1 := by omega
    clear hlo hhi
    rcases ha with rfl | rfl | rfl
    all_goals
      (have x3 := k1.cell (j := 3) rfl)
      (have x4 := k1.cell (j := 4) rfl)
      (have x6 := k1.cell (j := 6) rfl)
      (have x7 := k1.cell (j := 7) rfl)
      (have x8 := k1.cell (j := 8) rfl)
      (have y0 := k2.cell (j := 0) rfl)
      (have y1 := k2.cell (j := 1) rfl)
      (simp only at x3 x4 x6 x7 x8)
      (clear k1 k2)
    · replace he : e = .returned (.int .i64 0) := he
      subst he
      have hp := hpk.out
      by_cases ht : t0 < 3
      · simp only [ht] at hp
        clear hpk
        cases d0 <;> cases b0 <;> cases b1 <;> simp at hp <;> replace hp := Lib.hid hp.symm
        all_goals
          go_wp2_with fail
          go_ret2
          exact ⟨tup2 hp.out rfl rfl, kb⟩
      · simp only [ht] at hp
        clear hpk
        cases d0 <;> cases b0 <;> cases b1 <;> simp at hp <;> replace hp := Lib.hid hp.symm
        all_goals
          go_wp2_with fail
          go_ret2
          exact ⟨tup2 hp.out rfl rfl, kb⟩
    · replace he : e = .returned (.int .i64 1) := he
      subst he
      have hp := hpk.out
      by_cases ht : t1 < 3
      · simp only [ht] at hp
        clear hpk
        cases d1 <;> cases b0 <;> cases b1 <;> simp at hp <;> replace hp := Lib.hid hp.symm
        all_goals
          go_wp2_with fail
          go_ret2
          exact ⟨tup2 hp.out rfl rfl, kb⟩
      · simp only [ht] at hp
        clear hpk
        cases d1 <;> cases b0 <;> cases b1 <;> simp at hp <;> replace hp := Lib.hid hp.symm
        all_goals
          go_wp2_with fail
          go_ret2
          exact ⟨tup2 hp.out rfl rfl, kb⟩
    · replace he : e = .returned (.int .i64 0) := he
      subst he
      have hp := hpk.out
      by_cases ht : t0 < 3
      · simp only [ht] at hp
        clear hpk
        cases d0 <;> cases b0 <;> cases b1 <;> simp at hp <;> replace hp := Lib.hid hp.symm
        all_goals
          go_wp2_with fail
          go_ret2
          exact ⟨tup2 hp.out rfl rfl, kb⟩
      · simp only [ht] at hp
        clear hpk
        cases d0 <;> cases b0 <;> cases b1 <;> simp at hp <;> replace hp := Lib.hid hp.symm
        all_goals
          go_wp2_with fail
          go_ret2
          exact ⟨tup2 hp.out rfl rfl, kb⟩

end Go.Proofs.Ytkipejhjpfakpaa
