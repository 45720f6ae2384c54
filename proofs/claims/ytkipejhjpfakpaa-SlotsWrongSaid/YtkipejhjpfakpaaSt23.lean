/- slots: the law SlotsWrong, walked. -/
import Derived.Test.YtkipejhjpfakpaaSt16
import Derived.Test.YtkipejhjpfakpaaInS
import Derived.Test.YtkipejhjpfakpaaSv1
import Derived.Deep.CutRange
import Derived.Deep.CutBlock
namespace Go.Proofs.Ytkipejhjpfakpaa
open Go.RowKit

theorem nil_ok (w : World) (f : Int) (d0 : Bool) (t0 : Int) (d1 : Bool) (t1 a : Int) : StOk w ⟨f, [], [], d0, t0, [], d1, t1, a⟩ nilSv :=
  (show StOwn 0 w ⟨f, [], [], d0, t0, [], d1, t1, a⟩ nilSv from ⟨World.ownsRow_nil _ _ _ _, World.ownsRow_nil _ _ _ _, World.ownsRow_nil _ _ _ _⟩).ok
theorem num_b2 (n : Int) (w : World) : Calls Try.prog 23 #[.int .i64 n] w fun e w' => e = .returned (.int .i64 n) ∧ Below w.heap.size w w' :=
  (num_any n w).mono fun _ _ h => ⟨h.1, by rw [h.2]; exact Below.refl _ _⟩
theorem chg_no {F : Stt → Stt} {S : Stt} (h : mayB S = false) : chg F S = newS := by unfold chg; rw [h]; rfl
theorem put_no {S : Stt} {m : List UInt8} (h : mayB S = false) : putS S m = newS := by unfold putS; split <;> first | exact chg_no h | rfl
theorem make_int (n : Nat) (hn : n ≤ 1000) (w : World) : (Instr.makeSlice 22 (.int .i64 (n : Int)) (.int .i64 (n : Int))).run Try.prog w = .ok (.slice (some ⟨w.heap.size, 0, none⟩) n n) (w.alloc (.cells (ints (List.replicate n 0)).toArray 3)) := by
  obtain ⟨i, hi, hz0, hz1, hz2⟩ := info_parts info_int
  have h := run_makeSlice (P := Try.prog) w 22 3 i _ Try.underlying22 hi hz0 .i64 .i64 (n : Int) (n : Int) (by omega) (by omega) (by rw [hz1]; omega) (by rw [hz2]; omega) (by omega)
  rw [hz1, Int.toNat_natCast, Nat.mul_one] at h
  have e : madeCells (Value.int .i64 0).cells n = (ints (List.replicate n 0)).toArray := by
    apply Array.ext
    · rw [size_madeCells]; simp [ints]
    · intro j h1 h2
      simp [madeCells, ints, Value.cells, Nat.mod_one]
  rw [e] at h
  exact h
theorem newS_fit2 : StFit newS := ⟨Nat.zero_le _, Nat.zero_le _, Nat.zero_le _⟩

set_option maxHeartbeats 4000000 in
set_option maxRecDepth 100000 in
theorem slotsWrong_walk (which : Int) (am : Option Addr) (cm : Nat) (m : List UInt8) (w : World) (_ : (Lit.int .i64 which).wf = true) (hm : Sl w (.slice am m.length cm) (u8s m)) :
    Calls Try.prog 10 #[.int .i64 which, .slice am m.length cm] w fun e w' => e = .returned (.bool true) ∧ Below w.heap.size w w' := by
  have hsm := Lib.hid hm
  have hsm0 := Lib.hid hm
  clear hm
  obtain ⟨Z, hZ⟩ : ∃ Z : List UInt8, List.replicate 300 0 = Z := ⟨_, rfl⟩
  obtain ⟨Y, hY⟩ : ∃ Y : List UInt8, List.replicate 299 0 = Y := ⟨_, rfl⟩
  have hmk3 : ∀ w, (Instr.makeSlice 23 (.int .i64 300) (.int .i64 300)).run Try.prog w = .ok (.slice (some ⟨w.heap.size, 0, none⟩) 300 300) (w.alloc (.cells (u8s Z).toArray 5)) := fun w => by rw [← hZ]; exact make_u8 300 (by decide) w
  have hmk2 : ∀ w, (Instr.makeSlice 23 (.int .i64 299) (.int .i64 299)).run Try.prog w = .ok (.slice (some ⟨w.heap.size, 0, none⟩) 299 299) (w.alloc (.cells (u8s Y).toArray 5)) := fun w => by rw [← hY]; exact make_u8 299 (by decide) w
  have hZl : Hid (Z.length = 300) := Lib.hid (by rw [← hZ, List.length_replicate])
  have hYl : Hid (Y.length = 299) := Lib.hid (by rw [← hY, List.length_replicate])
  clear hZ hY
  go_enter Try.func10, Try.ntmps10
  go_wp2_with fail
  refine (alive_any _).mono ?_
  rintro e w1 ⟨rfl, hb⟩
  have kb := hb
  have hsm := Lib.hid (hsm.out.below kb)
  clear hb
  by_cases hl : 1000 < m.length
  · have dl : decide ((1000 : Int) < (m.length : Int)) = true := decide_eq_true (by omega)
    go_wp2_with fail
    go_ret
    exact ⟨rfl, kb⟩
  have dl : decide ((1000 : Int) < (m.length : Int)) = false := decide_eq_false (by omega)
  have hone : ∀ u ∈ newS.cs nilSv, u.oneCell' = true := StOk.one (w := w) (show StOwn 0 w newS nilSv from ⟨World.ownsRow_nil _ _ _ _, World.ownsRow_nil _ _ _ _, World.ownsRow_nil _ _ _ _⟩).ok
  replace hone := Lib.hid hone
  go_upto_region 5 with (first | (refine wpl_storeG rfl _ _ _ rfl _ _ rfl rfl _ (Arr.new _ _ _) (by kernel_rfl) rfl hone.out (fun W3 k6 hg hsz => ?_)))
  have hb := below_new hg
  have kb := bel kb hb
  have hsm := Lib.hid (hsm.out.below hb)
  obtain ⟨g6, hg6⟩ : ∃ g, w1.heap.size = g := ⟨_, rfl⟩
  rw [hg6] at k6 ⊢
  have hl6 : w.heap.size ≤ g6 := by rw [← hg6]; exact (by assumption : Below w.heap.size w w1).size
  clear hg hsz hb hone hg6
  have k6 : Arr W3 g6 (newS.cs nilSv) := k6
  go_upto_block 0 with fail
  refine wp_new2 (fun W5 hsz5 kz k7 kb5 => ?_)
  have k6 := k6.below kb5
  have kb := bel kb kb5
  have hsm := Lib.hid (hsm.out.below kb5)
  have hl7 : g6 < W3.heap.size := (by assumption : Arr W3 g6 (newS.cs nilSv)).lt
  obtain ⟨gz, hgz⟩ : ∃ g, W3.heap.size = g := ⟨_, rfl⟩
  rw [hgz] at kz k7 hl7 ⊢
  simp only at kz
  have sz := Sl.of_arr kz (by rw [u8s_len, hZl.out]; decide)
  rw [u8s_len, hZl.out] at sz
  have sz := Lib.hid sz
  clear hsz5 kb5 hgz kz
  have hnew : Hid (StOk W5 newS nilSv) := Lib.hid (show StOwn 0 W5 newS nilSv from ⟨World.ownsRow_nil _ _ _ _, World.ownsRow_nil _ _ _ _, World.ownsRow_nil _ _ _ _⟩).ok
  go_cut [8] from 29 to 101 (fun _ wc => ∃ (S : Stt) (v : Sv), Arr wc g6 (S.cs v) ∧ StOk wc S v ∧ mayB S = false ∧ Below w.heap.size w wc)
  case first =>
    by_cases c0 : which = 0
    · subst c0
      go_wp2_with (first | (refine wpl_cellG rfl _ _ _ rfl g6 0 (.int .i64 (-1)) rfl rfl _ k6 (by kernel_rfl) (Nat.le_of_ble_eq_true rfl) rfl (fun W6 k6 hg hsz => ?_)))
      go_meet
      case rel => exact ⟨{ newS with floor := -1 }, nilSv, k6, nil_ok _ _ _ _ _ _ _, mayB_no (fun h => by have := h.floor; revert this; decide), below_gr kb hg hl6 kb.size⟩
    have e0 : decide (which = 0) = false := decide_eq_false c0
    by_cases c1 : which = 1
    · subst c1
      go_wp2_with (first | (refine wpl_cellG rfl _ _ _ rfl g6 0 (.int .i64 2147483648) rfl rfl _ k6 (by kernel_rfl) (Nat.le_of_ble_eq_true rfl) rfl (fun W6 k6 hg hsz => ?_)))
      go_meet
      case rel => exact ⟨{ newS with floor := 2147483648 }, nilSv, k6, nil_ok _ _ _ _ _ _ _, mayB_no (fun h => by have := h.floor; revert this; decide), below_gr kb hg hl6 kb.size⟩
    have e1 : decide (which = 1) = false := decide_eq_false c1
    by_cases c2 : which = 2
    · subst c2
      go_wp2_with (first | (refine wpl_cellG rfl _ _ _ rfl g6 8 (.int .i64 2) rfl rfl _ k6 (by kernel_rfl) (Nat.le_of_ble_eq_true rfl) rfl (fun W6 k6 hg hsz => ?_)))
      go_meet
      case rel => exact ⟨{ newS with act := 2 }, nilSv, k6, nil_ok _ _ _ _ _ _ _, mayB_no (fun h => by have := h.hi; revert this; decide), below_gr kb hg hl6 kb.size⟩
    have e2 : decide (which = 2) = false := decide_eq_false c2
    by_cases c3 : which = 3
    · subst c3
      go_wp2_with (first | (refine wpl_cellG rfl _ _ _ rfl g6 8 (.int .i64 (-2)) rfl rfl _ k6 (by kernel_rfl) (Nat.le_of_ble_eq_true rfl) rfl (fun W6 k6 hg hsz => ?_)))
      go_meet
      case rel => exact ⟨{ newS with act := -2 }, nilSv, k6, nil_ok _ _ _ _ _ _ _, mayB_no (fun h => by have := h.lo; revert this; decide), below_gr kb hg hl6 kb.size⟩
    have e3 : decide (which = 3) = false := decide_eq_false c3
    by_cases c4 : which = 4
    · subst c4
      go_wp2_with (first | (refine wpl_cellG rfl _ _ _ rfl g6 8 (.int .i64 0) rfl rfl _ k6 (by kernel_rfl) (Nat.le_of_ble_eq_true rfl) rfl (fun W6 k6 hg hsz => ?_)))
      go_meet
      case rel => exact ⟨{ newS with act := 0 }, nilSv, k6, nil_ok _ _ _ _ _ _ _, mayB_no (fun h => (h.a0 rfl).1 rfl), below_gr kb hg hl6 kb.size⟩
    have e4 : decide (which = 4) = false := decide_eq_false c4
    by_cases c5 : which = 5
    · subst c5
      go_upto_region 20 with (first | (refine wpl_cellG rfl _ _ _ rfl g6 8 (.int .i64 0) rfl rfl _ k6 (by kernel_rfl) (Nat.le_of_ble_eq_true rfl) rfl (fun W6 k6 hg6 hsz => ?_)))
      have k7 := k7.kept hg6 (by omega)
      have kb := below_gr kb hg6 hl6 kb.size
      have sz := Lib.hid (sz.out.keptN hg6 (fun a n c e => by cases e; simp only; omega))
      clear hg6 hsz
      go_upto_region 21 with (first | (refine wpList_load_arr2 rfl _ _ rfl _ rfl (by decide +kernel) _ (by assumption) (by first | (rw [lims_len]; kernel_rfl) | (rw [el_rep]; kernel_rfl) | (rw [el_len]; kernel_rfl) | (rw [byts_len]; kernel_rfl) | (rw [us_len]; kernel_rfl) | (rw [bytn_len]; kernel_rfl) | (rw [ens_len, digs_len]; kernel_rfl) | kernel_rfl) ?_) | (refine wpl_storeMG rfl _ _ _ rfl g6 2 [.slice (some ⟨gz, 0, none⟩) 300 300, .bool true, .int .i64 0] rfl rfl _ k6 (by kernel_rfl) (Nat.le_of_ble_eq_true rfl) (by intro u hu; simp at hu; rcases hu with rfl | rfl | rfl <;> rfl) (fun W7 k8 hg7 => ?_)))
      have kb := below_gr kb hg7 hl6 kb.size
      have sz := Lib.hid (sz.out.keptN hg7 (fun a n c e => by cases e; simp only; omega))
      clear hg7
      go_wp2_with (first | (refine wpl_cellG rfl _ _ _ rfl g6 3 (.bool false) rfl rfl _ k8 (by kernel_rfl) (Nat.le_of_ble_eq_true rfl) rfl (fun W8 k9 hg hsz => ?_)))
      have sz := sz.out.keptN hg (fun a n c e => by cases e; simp only; omega)
      go_meet
      case rel => exact ⟨{ newS with m0 := Z, d0 := false, act := 0 }, { nilSv with m0 := .slice (some ⟨gz, 0, none⟩) 300 300 }, k9, ⟨(nil_ok W8 0 false 0 false 0 0).rv, sz, (nil_ok W8 0 false 0 false 0 0).m1⟩, mayB_no (fun h => by have := (h.a0 rfl).2; cases this), below_gr kb hg hl6 kb.size⟩
    have e5 : decide (which = 5) = false := decide_eq_false c5
    by_cases c6 : which = 6
    · subst c6
      go_wp2_with (first | (refine wpl_cellG rfl _ _ _ rfl g6 6 (.bool true) rfl rfl _ k6 (by kernel_rfl) (Nat.le_of_ble_eq_true rfl) rfl (fun W6 k6 hg hsz => ?_)))
      go_meet
      case rel => exact ⟨{ newS with d1 := true }, nilSv, k6, nil_ok _ _ _ _ _ _ _, mayB_no (fun h => by have := h.s1; revert this; decide), below_gr kb hg hl6 kb.size⟩
    have e6 : decide (which = 6) = false := decide_eq_false c6
    by_cases c7 : which = 7
    · subst c7
      go_wp2_with (first | (refine wpl_cellG rfl _ _ _ rfl g6 7 (.int .i64 1) rfl rfl _ k6 (by kernel_rfl) (Nat.le_of_ble_eq_true rfl) rfl (fun W6 k6 hg hsz => ?_)))
      go_meet
      case rel => exact ⟨{ newS with t1 := 1 }, nilSv, k6, nil_ok _ _ _ _ _ _ _, mayB_no (fun h => by have := h.s1; revert this; decide), below_gr kb hg hl6 kb.size⟩
    have e7 : decide (which = 7) = false := decide_eq_false c7
    by_cases c8 : which = 8
    · subst c8
      go_upto_region 28 with (first | (refine wpList_load_arr2 rfl _ _ rfl _ rfl (by decide +kernel) _ (by assumption) (by first | (rw [lims_len]; kernel_rfl) | (rw [el_rep]; kernel_rfl) | (rw [el_len]; kernel_rfl) | (rw [byts_len]; kernel_rfl) | (rw [us_len]; kernel_rfl) | (rw [bytn_len]; kernel_rfl) | (rw [ens_len, digs_len]; kernel_rfl) | kernel_rfl) ?_) | (refine wpl_storeMG rfl _ _ _ rfl g6 2 [.slice (some ⟨gz, 0, none⟩) 300 300, .bool true, .int .i64 0] rfl rfl _ k6 (by kernel_rfl) (Nat.le_of_ble_eq_true rfl) (by intro u hu; simp at hu; rcases hu with rfl | rfl | rfl <;> rfl) (fun W7 k8 hg7 => ?_)))
      have kb := below_gr kb hg7 hl6 kb.size
      have sz := Lib.hid (sz.out.keptN hg7 (fun a n c e => by cases e; simp only; omega))
      clear hg7
      go_wp2_with (first | (refine wpl_cellG rfl _ _ _ rfl g6 4 (.int .i64 4) rfl rfl _ k8 (by kernel_rfl) (Nat.le_of_ble_eq_true rfl) rfl (fun W8 k9 hg hsz => ?_)))
      have sz := sz.out.keptN hg (fun a n c e => by cases e; simp only; omega)
      go_meet
      case rel => exact ⟨{ newS with m0 := Z, d0 := true, t0 := 4 }, { nilSv with m0 := .slice (some ⟨gz, 0, none⟩) 300 300 }, k9, ⟨(nil_ok W8 0 false 0 false 0 0).rv, sz, (nil_ok W8 0 false 0 false 0 0).m1⟩, mayB_no (fun h => by have h1 := h.s0; unfold slotB at h1; simp [hZl.out] at h1), below_gr kb hg hl6 kb.size⟩
    have e8 : decide (which = 8) = false := decide_eq_false c8
    by_cases c9 : which = 9
    · subst c9
      have sy := Sl.of_arr (Arr.new W5 (u8s Y).toArray 5) (by rw [u8s_len, hYl.out]; decide)
      simp only [u8s_len, hYl.out] at sy
      have sy := Lib.hid sy
      have hb := below_alloc W5 (.cells (u8s Y).toArray 5)
      have hlt := k6.lt
      have k8 := k6.below hb
      have kb := bel kb hb
      clear hb
      go_wp2_with (first | (refine wpl_cellG rfl _ _ _ rfl g6 2 (.slice (some ⟨W5.heap.size, 0, none⟩) 299 299) rfl rfl _ k8 (by kernel_rfl) (Nat.le_of_ble_eq_true rfl) rfl (fun W6 k9 hg hsz => ?_)))
      have sy := sy.out.keptN hg (fun a n c e => by cases e; simp only; omega)
      go_meet
      case rel => exact ⟨{ newS with m0 := Y }, { nilSv with m0 := .slice (some ⟨W5.heap.size, 0, none⟩) 299 299 }, k9, ⟨(nil_ok W6 0 false 0 false 0 0).rv, sy, (nil_ok W6 0 false 0 false 0 0).m1⟩, mayB_no (fun h => by have h1 := h.s0; unfold slotB at h1; simp [hYl.out] at h1), below_gr kb hg hl6 kb.size⟩
    have e9 : decide (which = 9) = false := decide_eq_false c9
    by_cases c10 : which = 10
    · subst c10
      have sy := Sl.of_arr (Arr.new W5 (ints [3, 3]).toArray 3) (by decide)
      have sy := Lib.hid sy
      have hb := below_alloc W5 (.cells (ints [3, 3]).toArray 3)
      have hlt := k6.lt
      have k8 := k6.below hb
      have kb := bel kb hb
      clear hb
      go_wp2_with (first | (refine wpl_cellG rfl _ _ _ rfl g6 1 (.slice (some ⟨W5.heap.size, 0, none⟩) 2 2) rfl rfl _ k8 (by kernel_rfl) (Nat.le_of_ble_eq_true rfl) rfl (fun W6 k9 hg hsz => ?_)))
      have sy := sy.out.keptN hg (fun a n c e => by cases e; simp only; omega)
      go_meet
      case rel => exact ⟨{ newS with rev := [3, 3] }, { nilSv with rv := .slice (some ⟨W5.heap.size, 0, none⟩) 2 2 }, k9, ⟨sy, (nil_ok W6 0 false 0 false 0 0).m0, (nil_ok W6 0 false 0 false 0 0).m1⟩, mayB_no (fun h => by have := (h.rev 1 (by decide) (by decide)).2 (by decide); revert this; decide), below_gr kb hg hl6 kb.size⟩
    have e10 : decide (which = 10) = false := decide_eq_false c10
    by_cases c11 : which = 11
    · subst c11
      have sy := Sl.of_arr (Arr.new W5 (ints [4, 3]).toArray 3) (by decide)
      have sy := Lib.hid sy
      have hb := below_alloc W5 (.cells (ints [4, 3]).toArray 3)
      have hlt := k6.lt
      have k8 := k6.below hb
      have kb := bel kb hb
      clear hb
      go_wp2_with (first | (refine wpl_cellG rfl _ _ _ rfl g6 1 (.slice (some ⟨W5.heap.size, 0, none⟩) 2 2) rfl rfl _ k8 (by kernel_rfl) (Nat.le_of_ble_eq_true rfl) rfl (fun W6 k9 hg hsz => ?_)))
      have sy := sy.out.keptN hg (fun a n c e => by cases e; simp only; omega)
      go_meet
      case rel => exact ⟨{ newS with rev := [4, 3] }, { nilSv with rv := .slice (some ⟨W5.heap.size, 0, none⟩) 2 2 }, k9, ⟨sy, (nil_ok W6 0 false 0 false 0 0).m0, (nil_ok W6 0 false 0 false 0 0).m1⟩, mayB_no (fun h => by have := (h.rev 1 (by decide) (by decide)).2 (by decide); revert this; decide), below_gr kb hg hl6 kb.size⟩
    have e11 : decide (which = 11) = false := decide_eq_false c11
    by_cases c12 : which = 12
    · subst c12
      have sy := Sl.of_arr (Arr.new W5 (ints [-1]).toArray 3) (by decide)
      have sy := Lib.hid sy
      have hb := below_alloc W5 (.cells (ints [-1]).toArray 3)
      have hlt := k6.lt
      have k8 := k6.below hb
      have kb := bel kb hb
      clear hb
      go_wp2_with (first | (refine wpl_cellG rfl _ _ _ rfl g6 1 (.slice (some ⟨W5.heap.size, 0, none⟩) 1 1) rfl rfl _ k8 (by kernel_rfl) (Nat.le_of_ble_eq_true rfl) rfl (fun W6 k9 hg hsz => ?_)))
      have sy := sy.out.keptN hg (fun a n c e => by cases e; simp only; omega)
      go_meet
      case rel => exact ⟨{ newS with rev := [-1] }, { nilSv with rv := .slice (some ⟨W5.heap.size, 0, none⟩) 1 1 }, k9, ⟨sy, (nil_ok W6 0 false 0 false 0 0).m0, (nil_ok W6 0 false 0 false 0 0).m1⟩, mayB_no (fun h => by have := (h.rev 0 (by decide) (by decide)).1; revert this; decide), below_gr kb hg hl6 kb.size⟩
    have e12 : decide (which = 12) = false := decide_eq_false c12
    by_cases c13 : which = 13
    · subst c13
      obtain ⟨I, hI⟩ : ∃ I : List Int, List.replicate 33 0 = I := ⟨_, rfl⟩
      have hmki : ∀ w, (Instr.makeSlice 22 (.int .i64 33) (.int .i64 33)).run Try.prog w = .ok (.slice (some ⟨w.heap.size, 0, none⟩) 33 33) (w.alloc (.cells (ints I).toArray 3)) := fun w => by rw [← hI]; exact make_int 33 (by decide) w
      have hIl : I.length = 33 := by rw [← hI, List.length_replicate]
      clear hI
      have ki : Arr (W5.alloc (.cells (ints I).toArray 3)) W5.heap.size (ints I) := Arr.new W5 (ints I).toArray 3
      have hb := below_alloc W5 (.cells (ints I).toArray 3)
      have hlt := k6.lt
      have k8 := k6.below hb
      have kb := bel kb hb
      clear hb
      go_upto_region 39 with (first | (refine wpl_cellG rfl _ _ _ rfl g6 1 (.slice (some ⟨W5.heap.size, 0, none⟩) 33 33) rfl rfl _ k8 (by kernel_rfl) (Nat.le_of_ble_eq_true rfl) rfl (fun W6 k9 hg hsz => ?_)))
      have ki := ki.kept hg (by omega)
      have kb := below_gr kb hg hl6 kb.size
      obtain ⟨gi, hgi⟩ : ∃ g, W5.heap.size = g := ⟨_, rfl⟩
      rw [hgi] at k9 ki hlt ⊢
      have k9 : Arr W6 g6 (newS.cs { nilSv with rv := .slice (some ⟨gi, 0, none⟩) 33 33 }) := k9
      clear hg hsz hgi k8 hmki
      go_wp2_with fail
      go_loopw [8] (fun iv wr => ∃ (j : Nat) (l : List Int), j ≤ 33 ∧ iv = .int .i64 j ∧ l.length = 33 ∧ Arr wr gi (ints l) ∧ Arr wr g6 (newS.cs { nilSv with rv := .slice (some ⟨gi, 0, none⟩) 33 33 }) ∧ Below w.heap.size w wr) (fun iv _ => 33 - (intOf iv).toNat)
      case atStart => exact ⟨0, I, by omega, rfl, hIl, ki, k9, kb⟩
      case round =>
        clear ki k9 kb hIl
        obtain ⟨j, l, hj, rfl, hll, ki, k9, kb⟩ := hrel
        by_cases hjn : j < 33
        · have x1 := k9.cell (j := 1) rfl
          have hj0 : (0 : Int) ≤ (j : Int) := by omega
          have hj1 : (j : Int) < 33 := by omega
          go_wp2_with (first | (refine wpl_cellG rfl _ _ _ rfl gi j (.int .i64 j) rfl rfl _ ki (by kernel_rfl) (by rw [ints_len]; omega) rfl (fun W7 ki hg hsz => ?_)))
          have k9 := k9.kept hg (by omega)
          exact ⟨⟨j + 1, l.set j j, by omega, by go_num, by rw [List.length_set]; exact hll, by rw [show ints (l.set j j) = (ints l).set j (.int .i64 j) by simp [ints, List.map_set]]; exact ki, k9, below_gr kb hg (by omega) kb.size⟩, by simp [intOf]; omega⟩
        · have dj : decide ((j : Int) < 33) = false := decide_eq_false (by omega)
          have si := Sl.of_arr ki (by rw [ints_len, hll]; decide)
          rw [ints_len, hll] at si
          have si := Lib.hid si
          go_wp2_with fail
          go_meet
          case rel => exact ⟨{ newS with rev := l }, { nilSv with rv := .slice (some ⟨gi, 0, none⟩) 33 33 }, k9, ⟨si.out, (nil_ok wr 0 false 0 false 0 0).m0, (nil_ok wr 0 false 0 false 0 0).m1⟩, mayB_no (fun h => by have := h.len; simp only [hll] at this; omega), kb⟩
    have e13 : decide (which = 13) = false := decide_eq_false c13
    go_wp2_with fail
    go_ret
    exact ⟨rfl, kb⟩
  case rest =>
    obtain ⟨S, v, k6, ho, hmay, kb⟩ := hcut
    have ho := Lib.hid ho
    have hsm := Lib.hid (hsm0.out.below kb)
    have hlm : Hid (m.length ≤ 140737488355328) := Lib.hid (by omega)
    have c1 : Hid (∀ w, StOk w S v → Calls Try.prog 17 #[.agg (S.cs v).toArray, .agg #[.bool true, .bool true]] w fun e w' => e = .returned (.tuple #[.int .i64 (-1), .bool false]) ∧ Below w.heap.size w w') := Lib.hid (fun w h => by
      have := pick_any S v true true w h
      rwa [show pickS S true true = (-1, false) by unfold pickS; rw [hmay]; rfl] at this)
    have c2 : Hid (∀ w, StOk w S v → Calls Try.prog 21 #[.agg (S.cs v).toArray] w (RetB ([], 1) w)) := Lib.hid (fun w h => by
      have := pack_any S v w h
      rwa [show packS S = ([], 1) by unfold packS; rw [hmay]; rfl] at this)
    have c3 : Hid (∀ w, StOk w S v → Calls Try.prog 28 #[.agg (S.cs v).toArray, .int .i64 1] w (RetSt2 (zeroS, 1) w)) := Lib.hid (fun w h => by
      have := revoke_any S v 1 w h
      rwa [show revokeS S 1 = (zeroS, 1) by unfold revokeS; rw [hmay]; rfl] at this)
    have c4 : Hid (∀ w, StOk w S v → Calls Try.prog 20 #[.agg (S.cs v).toArray] w fun e w' => e = .returned (.bool false) ∧ Below w.heap.size w w') := Lib.hid (fun w h => by
      have := mayb_any S v w h
      rwa [hmay] at this)
    have c5 : Hid (∀ w, StOk w S v → Calls Try.prog 14 #[.agg (S.cs v).toArray] w fun e w' => e = .returned (.int .i64 (-1)) ∧ Below w.heap.size w w') := Lib.hid (fun w h => by
      have := target2_any S v w h
      rwa [show tgtS S = -1 by unfold tgtS; rw [hmay]; rfl] at this)
    have c6 : Hid (∀ vm w, StOk w S v → Sl w vm (u8s m) → Calls Try.prog 15 #[.agg (S.cs v).toArray, vm] w (RetSt newS w)) := Lib.hid (fun vm w h hm => by
      have := put_any S v vm m w h hm hlm.out
      rwa [put_no hmay] at this)
    have c7 : Hid (∀ w, StOk w S v → Calls Try.prog 16 #[.agg (S.cs v).toArray] w (RetSt newS w)) := Lib.hid (fun w h => by
      have := done_any S v w h
      rwa [show doneS S = newS from chg_no hmay] at this)
    have c8 : Hid (∀ w, StOk w S v → Calls Try.prog 18 #[.agg (S.cs v).toArray] w (RetSt newS w)) := Lib.hid (fun w h => by
      have := try_any S v w h
      rwa [show tryS S = newS from chg_no hmay] at this)
    have c9 : Hid (∀ w, StOk w S v → Calls Try.prog 19 #[.agg (S.cs v).toArray, .int .i64 5] w (RetSt newS w)) := Lib.hid (fun w h => by
      have := confirm_any S v 5 w h
      rwa [show confirmS S 5 = newS from chg_no hmay] at this)
    clear hmay hmk3 hmk2 hZl hYl sz hnew
    go_wp2_with (first | (refine wpList_load_arr2 rfl _ _ rfl _ rfl (by decide +kernel) _ (by assumption) (by first | (rw [lims_len]; kernel_rfl) | (rw [el_rep]; kernel_rfl) | (rw [el_len]; kernel_rfl) | (rw [byts_len]; kernel_rfl) | (rw [us_len]; kernel_rfl) | (rw [bytn_len]; kernel_rfl) | (rw [ens_len, digs_len]; kernel_rfl) | kernel_rfl) ?_) | fail)
    refine (c1.out _ ho.out).mono ?_
    rintro e wa ⟨rfl, hb⟩
    have k6 := k6.below hb
    have ho := Lib.hid (ho.out.below hb)
    have hsm := Lib.hid (hsm.out.below hb)
    have kb := bel kb hb
    clear hb
    go_wp2_with (first | (refine wpList_load_arr2 rfl _ _ rfl _ rfl (by decide +kernel) _ (by assumption) (by first | (rw [lims_len]; kernel_rfl) | (rw [el_rep]; kernel_rfl) | (rw [el_len]; kernel_rfl) | (rw [byts_len]; kernel_rfl) | (rw [us_len]; kernel_rfl) | (rw [bytn_len]; kernel_rfl) | (rw [ens_len, digs_len]; kernel_rfl) | kernel_rfl) ?_) | fail)
    refine (c2.out _ ho.out).mono ?_
    rintro e wb ⟨vp, rfl, op, hb⟩
    have k6 := k6.below hb
    have ho := Lib.hid (ho.out.below hb)
    have hsm := Lib.hid (hsm.out.below hb)
    have kb := bel kb hb
    clear hb op
    go_wp2_with (first | (refine wpList_load_arr2 rfl _ _ rfl _ rfl (by decide +kernel) _ (by assumption) (by first | (rw [lims_len]; kernel_rfl) | (rw [el_rep]; kernel_rfl) | (rw [el_len]; kernel_rfl) | (rw [byts_len]; kernel_rfl) | (rw [us_len]; kernel_rfl) | (rw [bytn_len]; kernel_rfl) | (rw [ens_len, digs_len]; kernel_rfl) | kernel_rfl) ?_) | fail)
    refine (c3.out _ ho.out).mono ?_
    rintro e wd ⟨vd, rfl, od, hb⟩
    have k6 := k6.below hb
    have ho := Lib.hid (ho.out.below hb)
    have hsm := Lib.hid (hsm.out.below hb)
    have kb := bel kb hb
    have od := Lib.hid od
    clear hb
    simp only at od ⊢
    go_upto_region 46 with (first | (refine wpl_storeG rfl _ _ _ rfl _ _ rfl rfl _ (Arr.new _ _ _) (by kernel_rfl) rfl od.out.ok.one (fun We ke hg hsz => ?_)))
    have hb := below_new hg
    have k6 := k6.below hb
    have ho := Lib.hid (ho.out.below hb)
    have hsm := Lib.hid (hsm.out.below hb)
    have kb := bel kb hb
    clear hb hg hsz ke od
    go_wp2_with fail
    refine (new_any _).mono ?_
    rintro e wf ⟨vf, rfl, of, hb⟩
    have k6 := k6.below hb
    have ho := Lib.hid (ho.out.below hb)
    have hsm := Lib.hid (hsm.out.below hb)
    have kb := bel kb hb
    have of := Lib.hid of
    clear hb
    go_upto_region 47 with (first | (refine wpl_storeG rfl _ _ _ rfl _ _ rfl rfl _ (Arr.new _ _ _) (by kernel_rfl) rfl of.out.ok.one (fun Wg kf hg hsz => ?_)))
    have hb := below_new hg
    have k6 := k6.below hb
    have ho := Lib.hid (ho.out.below hb)
    have hsm := Lib.hid (hsm.out.below hb)
    have of := Lib.hid (of.out.ok.below hb)
    have kb := bel kb hb
    clear hb hg hsz
    refine Tx.start (fun w' => Below (Wg).heap.size (Wg) w') 9999 52 rfl (by kernel_rfl) ?_
    have hS_1 : Below (Wg).heap.size (Wg) (World.drew Wg) := (Below.refl _ _).drew
    refine Tx.seg (A := ?_) 51 1 (by kernel_rfl) (by exact hS_1) [0] (by kernel_rfl) ?_ ?_
    rotate_left
    · intro w' hB
      have e6 := k6.below hB
      iterate 1 (first | (refine rd_skip rfl rfl ?_; simp only [Act.put, List.setIfInBounds_toArray, List.set_cons_zero, List.set_cons_succ]) | (refine rd_load_arr rfl rfl _ _ rfl _ rfl (by decide +kernel) _ (by assumption) (by first | (rw [lims_len]; kernel_rfl) | (rw [el_rep]; kernel_rfl) | (rw [el_len]; kernel_rfl) | (rw [byts_len]; kernel_rfl) | (rw [us_len]; kernel_rfl) | (rw [bytn_len]; kernel_rfl) | (rw [ens_len, digs_len]; kernel_rfl) | kernel_rfl) ?_; simp only [Act.put, List.setIfInBounds_toArray, List.set_cons_zero, List.set_cons_succ]) | (refine rd_take (v := ?_) rfl rfl ?_ ?_; rotate_left; (focus (go_simp; try (with_reducible rfl))); simp only [Act.put, List.setIfInBounds_toArray, List.set_cons_zero, List.set_cons_succ]) | (refine rd_take (v := ?_) rfl rfl ?_ ?_; rotate_left; (focus (try go_simp); fail)))
      exact rd_nil
    refine Tx.eff 1 3 rfl (by decide +kernel) (fun K hK => ?_)
    go_simp
    refine (c4.out _ (ho.out.below hS_1)).mono ?_
    rintro e w_2 ⟨rfl, hb_2⟩
    have hS_2 := ext_trans hS_1 (Nat.le_refl _) hb_2
    refine hK (fun w' => Below (Wg).heap.size (Wg) w') _ _ hS_2 (fun _ h => h) ?_
    clear hK K hb_2 hS_1
    try simp only [Act.put, List.setIfInBounds_toArray, List.set_cons_zero, List.set_cons_succ]
    refine Tx.seg (A := ?_) 47 31 (by kernel_rfl) (by exact hS_2) [2, 3, 4] (by kernel_rfl) ?_ ?_
    rotate_left
    · intro w' hB
      have e6 := k6.below hB
      iterate 3 (first | (refine rd_skip rfl rfl ?_; simp only [Act.put, List.setIfInBounds_toArray, List.set_cons_zero, List.set_cons_succ]) | (refine rd_load_arr rfl rfl _ _ rfl _ rfl (by decide +kernel) _ (by assumption) (by first | (rw [lims_len]; kernel_rfl) | (rw [el_rep]; kernel_rfl) | (rw [el_len]; kernel_rfl) | (rw [byts_len]; kernel_rfl) | (rw [us_len]; kernel_rfl) | (rw [bytn_len]; kernel_rfl) | (rw [ens_len, digs_len]; kernel_rfl) | kernel_rfl) ?_; simp only [Act.put, List.setIfInBounds_toArray, List.set_cons_zero, List.set_cons_succ]) | (refine rd_take (v := ?_) rfl rfl ?_ ?_; rotate_left; (focus (go_simp; try (with_reducible rfl))); simp only [Act.put, List.setIfInBounds_toArray, List.set_cons_zero, List.set_cons_succ]) | (refine rd_take (v := ?_) rfl rfl ?_ ?_; rotate_left; (focus (try go_simp); fail)))
      exact rd_nil
    refine Tx.eff 5 63 rfl (by decide +kernel) (fun K hK => ?_)
    go_simp
    refine (c5.out _ (ho.out.below hS_2)).mono ?_
    rintro e w_3 ⟨rfl, hb_3⟩
    have hS_3 := ext_trans hS_2 (Nat.le_refl _) hb_3
    refine hK (fun w' => Below (Wg).heap.size (Wg) w') _ _ hS_3 (fun _ h => h) ?_
    clear hK K hb_3 hS_2
    try simp only [Act.put, List.setIfInBounds_toArray, List.set_cons_zero, List.set_cons_succ]
    refine Tx.seg (A := ?_) 34 262143 (by kernel_rfl) (by exact hS_3) [6, 7, 8, 9, 10, 11, 12, 13, 14, 15, 16, 17] (by kernel_rfl) ?_ ?_
    rotate_left
    · intro w' hB
      iterate 12 (first | (refine rd_skip rfl rfl ?_; simp only [Act.put, List.setIfInBounds_toArray, List.set_cons_zero, List.set_cons_succ]) | (refine rd_load_arr rfl rfl _ _ rfl _ rfl (by decide +kernel) _ (by assumption) (by first | (rw [lims_len]; kernel_rfl) | (rw [el_rep]; kernel_rfl) | (rw [el_len]; kernel_rfl) | (rw [byts_len]; kernel_rfl) | (rw [us_len]; kernel_rfl) | (rw [bytn_len]; kernel_rfl) | (rw [ens_len, digs_len]; kernel_rfl) | kernel_rfl) ?_; simp only [Act.put, List.setIfInBounds_toArray, List.set_cons_zero, List.set_cons_succ]) | (refine rd_take (v := ?_) rfl rfl ?_ ?_; rotate_left; (focus (go_simp; try (with_reducible rfl))); simp only [Act.put, List.setIfInBounds_toArray, List.set_cons_zero, List.set_cons_succ]) | (refine rd_take (v := ?_) rfl rfl ?_ ?_; rotate_left; (focus (try go_simp); fail)))
      exact rd_nil
    refine Tx.eff 18 524287 rfl (by decide +kernel) (fun K hK => ?_)
    go_simp
    refine (num_b2 _ _).mono ?_
    rintro e w_4 ⟨rfl, hb_4⟩
    have hS_4 := ext_trans hS_3 (Nat.le_refl _) hb_4
    refine hK (fun w' => Below (Wg).heap.size (Wg) w') _ _ hS_4 (fun _ h => h) ?_
    clear hK K hb_4 hS_3
    try simp only [Act.put, List.setIfInBounds_toArray, List.set_cons_zero, List.set_cons_succ]
    refine Tx.seg (A := ?_) 29 8388607 (by kernel_rfl) (by exact hS_4) [19, 20, 21, 22] (by kernel_rfl) ?_ ?_
    rotate_left
    · intro w' hB
      iterate 4 (first | (refine rd_skip rfl rfl ?_; simp only [Act.put, List.setIfInBounds_toArray, List.set_cons_zero, List.set_cons_succ]) | (refine rd_load_arr rfl rfl _ _ rfl _ rfl (by decide +kernel) _ (by assumption) (by first | (rw [lims_len]; kernel_rfl) | (rw [el_rep]; kernel_rfl) | (rw [el_len]; kernel_rfl) | (rw [byts_len]; kernel_rfl) | (rw [us_len]; kernel_rfl) | (rw [bytn_len]; kernel_rfl) | (rw [ens_len, digs_len]; kernel_rfl) | kernel_rfl) ?_; simp only [Act.put, List.setIfInBounds_toArray, List.set_cons_zero, List.set_cons_succ]) | (refine rd_take (v := ?_) rfl rfl ?_ ?_; rotate_left; (focus (go_simp; try (with_reducible rfl))); simp only [Act.put, List.setIfInBounds_toArray, List.set_cons_zero, List.set_cons_succ]) | (refine rd_take (v := ?_) rfl rfl ?_ ?_; rotate_left; (focus (try go_simp); fail)))
      exact rd_nil
    refine Tx.eff 23 16777215 rfl (by decide +kernel) (fun K hK => ?_)
    go_simp
    refine (num_b2 _ _).mono ?_
    rintro e w_5 ⟨rfl, hb_5⟩
    have hS_5 := ext_trans hS_4 (Nat.le_refl _) hb_5
    refine hK (fun w' => Below (Wg).heap.size (Wg) w') _ _ hS_5 (fun _ h => h) ?_
    clear hK K hb_5 hS_4
    try simp only [Act.put, List.setIfInBounds_toArray, List.set_cons_zero, List.set_cons_succ]
    refine Tx.seg (A := ?_) 22 1610612735 (by kernel_rfl) (by exact hS_5) [24, 25, 26, 27, 28, 30] (by kernel_rfl) ?_ ?_
    rotate_left
    · intro w' hB
      have e6 := k6.below hB
      have ef := kf.below hB
      iterate 6 (first | (refine rd_skip rfl rfl ?_; simp only [Act.put, List.setIfInBounds_toArray, List.set_cons_zero, List.set_cons_succ]) | (refine rd_load_arr rfl rfl _ _ rfl _ rfl (by decide +kernel) _ (by assumption) (by first | (rw [lims_len]; kernel_rfl) | (rw [el_rep]; kernel_rfl) | (rw [el_len]; kernel_rfl) | (rw [byts_len]; kernel_rfl) | (rw [us_len]; kernel_rfl) | (rw [bytn_len]; kernel_rfl) | (rw [ens_len, digs_len]; kernel_rfl) | kernel_rfl) ?_; simp only [Act.put, List.setIfInBounds_toArray, List.set_cons_zero, List.set_cons_succ]) | (refine rd_take (v := ?_) rfl rfl ?_ ?_; rotate_left; (focus (go_simp; try (with_reducible rfl))); simp only [Act.put, List.setIfInBounds_toArray, List.set_cons_zero, List.set_cons_succ]) | (refine rd_take (v := ?_) rfl rfl ?_ ?_; rotate_left; (focus (try go_simp); fail)))
      exact rd_nil
    refine Tx.eff 29 2147483647 rfl (by decide +kernel) (fun K hK => ?_)
    go_simp
    refine (c6.out _ _ (ho.out.below hS_5) (hsm.out.below hS_5)).mono ?_
    rintro e w_6 ⟨u1, rfl, p1, hb_6⟩
    have hS_6 := ext_trans hS_5 (Nat.le_refl _) hb_6
    refine hK (fun w' => Below (Wg).heap.size (Wg) w') _ _ hS_6 (fun _ h => h) ?_
    clear hK K hS_5
    try simp only [Act.put, List.setIfInBounds_toArray, List.set_cons_zero, List.set_cons_succ]
    have p1 := Lib.hid p1
    refine Tx.eff 31 4294967295 rfl (by decide +kernel) (fun K hK => ?_)
    go_simp
    refine (sameState_any newS u1 vf _ p1.out.ok (of.out.below hS_6) newS_fit2).mono ?_
    rintro e w_7 ⟨rfl, hb_7⟩
    have hS_7 := ext_trans hS_6 (Nat.le_refl _) hb_7
    refine hK (fun w' => Below (Wg).heap.size (Wg) w') _ _ hS_7 (fun _ h => h) ?_
    clear hK K hb_7 hS_6
    try simp only [Act.put, List.setIfInBounds_toArray, List.set_cons_zero, List.set_cons_succ]
    refine Tx.seg (A := ?_) 16 103079215103 (by kernel_rfl) (by exact hS_7) [32, 33, 34, 36] (by kernel_rfl) ?_ ?_
    rotate_left
    · intro w' hB
      have e6 := k6.below hB
      have ef := kf.below hB
      iterate 4 (first | (refine rd_skip rfl rfl ?_; simp only [Act.put, List.setIfInBounds_toArray, List.set_cons_zero, List.set_cons_succ]) | (refine rd_load_arr rfl rfl _ _ rfl _ rfl (by decide +kernel) _ (by assumption) (by first | (rw [lims_len]; kernel_rfl) | (rw [el_rep]; kernel_rfl) | (rw [el_len]; kernel_rfl) | (rw [byts_len]; kernel_rfl) | (rw [us_len]; kernel_rfl) | (rw [bytn_len]; kernel_rfl) | (rw [ens_len, digs_len]; kernel_rfl) | kernel_rfl) ?_; simp only [Act.put, List.setIfInBounds_toArray, List.set_cons_zero, List.set_cons_succ]) | (refine rd_take (v := ?_) rfl rfl ?_ ?_; rotate_left; (focus (go_simp; try (with_reducible rfl))); simp only [Act.put, List.setIfInBounds_toArray, List.set_cons_zero, List.set_cons_succ]) | (refine rd_take (v := ?_) rfl rfl ?_ ?_; rotate_left; (focus (try go_simp); fail)))
      exact rd_nil
    refine Tx.eff 35 137438953471 rfl (by decide +kernel) (fun K hK => ?_)
    go_simp
    refine (c7.out _ (ho.out.below hS_7)).mono ?_
    rintro e w_8 ⟨u2, rfl, p2, hb_8⟩
    have hS_8 := ext_trans hS_7 (Nat.le_refl _) hb_8
    refine hK (fun w' => Below (Wg).heap.size (Wg) w') _ _ hS_8 (fun _ h => h) ?_
    clear hK K hS_7
    try simp only [Act.put, List.setIfInBounds_toArray, List.set_cons_zero, List.set_cons_succ]
    have p2 := Lib.hid p2
    refine Tx.eff 37 274877906943 rfl (by decide +kernel) (fun K hK => ?_)
    go_simp
    refine (sameState_any newS u2 vf _ p2.out.ok (of.out.below hS_8) newS_fit2).mono ?_
    rintro e w_9 ⟨rfl, hb_9⟩
    have hS_9 := ext_trans hS_8 (Nat.le_refl _) hb_9
    refine hK (fun w' => Below (Wg).heap.size (Wg) w') _ _ hS_9 (fun _ h => h) ?_
    clear hK K hb_9 hS_8
    try simp only [Act.put, List.setIfInBounds_toArray, List.set_cons_zero, List.set_cons_succ]
    refine Tx.seg (A := ?_) 10 6597069766655 (by kernel_rfl) (by exact hS_9) [38, 39, 40, 42] (by kernel_rfl) ?_ ?_
    rotate_left
    · intro w' hB
      have e6 := k6.below hB
      have ef := kf.below hB
      iterate 4 (first | (refine rd_skip rfl rfl ?_; simp only [Act.put, List.setIfInBounds_toArray, List.set_cons_zero, List.set_cons_succ]) | (refine rd_load_arr rfl rfl _ _ rfl _ rfl (by decide +kernel) _ (by assumption) (by first | (rw [lims_len]; kernel_rfl) | (rw [el_rep]; kernel_rfl) | (rw [el_len]; kernel_rfl) | (rw [byts_len]; kernel_rfl) | (rw [us_len]; kernel_rfl) | (rw [bytn_len]; kernel_rfl) | (rw [ens_len, digs_len]; kernel_rfl) | kernel_rfl) ?_; simp only [Act.put, List.setIfInBounds_toArray, List.set_cons_zero, List.set_cons_succ]) | (refine rd_take (v := ?_) rfl rfl ?_ ?_; rotate_left; (focus (go_simp; try (with_reducible rfl))); simp only [Act.put, List.setIfInBounds_toArray, List.set_cons_zero, List.set_cons_succ]) | (refine rd_take (v := ?_) rfl rfl ?_ ?_; rotate_left; (focus (try go_simp); fail)))
      exact rd_nil
    refine Tx.eff 41 8796093022207 rfl (by decide +kernel) (fun K hK => ?_)
    go_simp
    refine (c8.out _ (ho.out.below hS_9)).mono ?_
    rintro e w_10 ⟨u3, rfl, p3, hb_10⟩
    have hS_10 := ext_trans hS_9 (Nat.le_refl _) hb_10
    refine hK (fun w' => Below (Wg).heap.size (Wg) w') _ _ hS_10 (fun _ h => h) ?_
    clear hK K hS_9
    try simp only [Act.put, List.setIfInBounds_toArray, List.set_cons_zero, List.set_cons_succ]
    have p3 := Lib.hid p3
    refine Tx.eff 43 17592186044415 rfl (by decide +kernel) (fun K hK => ?_)
    go_simp
    refine (sameState_any newS u3 vf _ p3.out.ok (of.out.below hS_10) newS_fit2).mono ?_
    rintro e w_11 ⟨rfl, hb_11⟩
    have hS_11 := ext_trans hS_10 (Nat.le_refl _) hb_11
    refine hK (fun w' => Below (Wg).heap.size (Wg) w') _ _ hS_11 (fun _ h => h) ?_
    clear hK K hb_11 hS_10
    try simp only [Act.put, List.setIfInBounds_toArray, List.set_cons_zero, List.set_cons_succ]
    refine Tx.seg (A := ?_) 4 422212465065983 (by kernel_rfl) (by exact hS_11) [44, 45, 46, 48] (by kernel_rfl) ?_ ?_
    rotate_left
    · intro w' hB
      have e6 := k6.below hB
      have ef := kf.below hB
      iterate 4 (first | (refine rd_skip rfl rfl ?_; simp only [Act.put, List.setIfInBounds_toArray, List.set_cons_zero, List.set_cons_succ]) | (refine rd_load_arr rfl rfl _ _ rfl _ rfl (by decide +kernel) _ (by assumption) (by first | (rw [lims_len]; kernel_rfl) | (rw [el_rep]; kernel_rfl) | (rw [el_len]; kernel_rfl) | (rw [byts_len]; kernel_rfl) | (rw [us_len]; kernel_rfl) | (rw [bytn_len]; kernel_rfl) | (rw [ens_len, digs_len]; kernel_rfl) | kernel_rfl) ?_; simp only [Act.put, List.setIfInBounds_toArray, List.set_cons_zero, List.set_cons_succ]) | (refine rd_take (v := ?_) rfl rfl ?_ ?_; rotate_left; (focus (go_simp; try (with_reducible rfl))); simp only [Act.put, List.setIfInBounds_toArray, List.set_cons_zero, List.set_cons_succ]) | (refine rd_take (v := ?_) rfl rfl ?_ ?_; rotate_left; (focus (try go_simp); fail)))
      exact rd_nil
    refine Tx.eff 47 562949953421311 rfl (by decide +kernel) (fun K hK => ?_)
    go_simp
    refine (c9.out _ (ho.out.below hS_11)).mono ?_
    rintro e w_12 ⟨u4, rfl, p4, hb_12⟩
    have hS_12 := ext_trans hS_11 (Nat.le_refl _) hb_12
    refine hK (fun w' => Below (Wg).heap.size (Wg) w') _ _ hS_12 (fun _ h => h) ?_
    clear hK K hS_11
    try simp only [Act.put, List.setIfInBounds_toArray, List.set_cons_zero, List.set_cons_succ]
    have p4 := Lib.hid p4
    refine Tx.eff 49 1125899906842623 rfl (by decide +kernel) (fun K hK => ?_)
    go_simp
    refine (sameState_any newS u4 vf _ p4.out.ok (of.out.below hS_12) newS_fit2).mono ?_
    rintro e w_13 ⟨rfl, hb_13⟩
    have hS_13 := ext_trans hS_12 (Nat.le_refl _) hb_13
    refine hK (fun w' => Below (Wg).heap.size (Wg) w') _ _ hS_13 (fun _ h => h) ?_
    clear hK K hb_13 hS_12
    try simp only [Act.put, List.setIfInBounds_toArray, List.set_cons_zero, List.set_cons_succ]
    refine Tx.seg (A := ?_) 0 4503599627370495 (by kernel_rfl) (by exact hS_13) [50, 51] (by kernel_rfl) ?_ ?_
    rotate_left
    · intro w' hB
      iterate 2 (first | (refine rd_skip rfl rfl ?_; simp only [Act.put, List.setIfInBounds_toArray, List.set_cons_zero, List.set_cons_succ]) | (refine rd_load_arr rfl rfl _ _ rfl _ rfl (by decide +kernel) _ (by assumption) (by first | (rw [lims_len]; kernel_rfl) | (rw [el_rep]; kernel_rfl) | (rw [el_len]; kernel_rfl) | (rw [byts_len]; kernel_rfl) | (rw [us_len]; kernel_rfl) | (rw [bytn_len]; kernel_rfl) | (rw [ens_len, digs_len]; kernel_rfl) | kernel_rfl) ?_; simp only [Act.put, List.setIfInBounds_toArray, List.set_cons_zero, List.set_cons_succ]) | (refine rd_take (v := ?_) rfl rfl ?_ ?_; rotate_left; (focus (go_simp; try (with_reducible rfl))); simp only [Act.put, List.setIfInBounds_toArray, List.set_cons_zero, List.set_cons_succ]) | (refine rd_take (v := ?_) rfl rfl ?_ ?_; rotate_left; (focus (try go_simp); fail)))
      exact rd_nil
    refine Tx.done (by kernel_rfl) ?_
    have kb := bel kb hS_13
    go_wp2_with fail
    go_ret
    exact ⟨rfl, kb⟩

end Go.Proofs.Ytkipejhjpfakpaa
