/- The walk of ScalarReduces; the listed variable order. -/
import Derived.Test.YtdcbpilibaigmaaDoorSl2
import Derived.Test.YtdcbpilibaigmaaDoorRq2
import Derived.Test.YtdcbpilibaigmaaDoorLaid
namespace Go.Proofs.YtdcbpilibaigmaaDoor
open Go.RowKit

theorem arr_order {W : World} (h : laidMetH Tryd.prog Rows.scalarReducesRow.laid W) : Arr W 0 (el (dgl 32 qN)) := by
  have e : dgl 32 qN = [237, 211, 245, 92, 26, 99, 18, 88, 214, 156, 247, 162, 222, 249, 222, 20, 0, 0, 0, 0, 0, 0, 0, 0, 0, 0, 0, 0, 0, 0, 0, 16] := by decide +kernel
  rw [e]
  exact arr_of_laid (P := Tryd.prog) (name := "portcullis/portcullisref3.order") (k := .i64) (zs := [237, 211, 245, 92, 26, 99, 18, 88, 214, 156, 247, 162, 222, 249, 222, 20, 0, 0, 0, 0, 0, 0, 0, 0, 0, 0, 0, 0, 0, 0, 0, 16])
    (t := 52) (e := 3) (n := 32) (by kernel_rfl) (by kernel_rfl) (by kernel_rfl) Tryd.underlying52 Tryd.underlying3 (by kernel_rfl) (by kernel_rfl) (by decide) h

set_option maxHeartbeats 4000000 in
set_option maxRecDepth 100000 in
theorem sreduces_any (d : Option Addr) (cap : Nat) (bs : List UInt8) (w : World) (hs : Sl w (.slice d bs.length cap) (u8s bs)) (kG : Arr w 0 (el (dgl 32 qN))) :
    Calls Tryd.prog 3 #[.slice d bs.length cap] w fun e w' => e = .returned (.bool true) ∧ Below w.heap.size w w' := by
  have hG1 := kG.lt
  have hlen := hs.len
  rw [u8s_len] at hlen
  obtain ⟨-, hlc, hcm⟩ := hlen
  unfold maxLen at hcm
  obtain ⟨V, hV⟩ : ∃ V, val 256 ((bs.take 64).map (fun x : UInt8 => x.toNat)) % qN = V := ⟨_, rfl⟩
  have hVq : V < qN := hV ▸ Nat.mod_lt _ qN_pos
  have lV : V < 256 ^ 32 := hV ▸ mod_q_lt _
  have c1 := fun w hs => scReduce_any d bs.length cap bs w hs
  have c2 := fun w hs kG => rqReduce_any d bs.length cap bs w hs kG
  rw [hV] at c1 c2
  have c3 := scLess_any V lV
  rw [decide_eq_true hVq] at c3
  have q1 := eq_true V V rfl lV
  replace c1 := Lib.hid c1
  replace c2 := Lib.hid c2
  replace c3 := Lib.hid c3
  replace q1 := Lib.hid q1
  replace hs := Lib.hid hs
  replace kG := Lib.hid kG
  clear hV hVq lV
  go_enter Tryd.func3, Tryd.ntmps3
  go_wp2_with fail
  refine (alive4_any _).mono ?_
  rintro e w1 ⟨rfl, hb1⟩
  have hs1 := Lib.hid (hs.out.below hb1)
  have kG := kG.out.below hb1
  have kb := hb1
  clear hs hb1
  by_cases h200 : bs.length ≤ 200
  · go_upto_region 4 with fail
    go_wp2_with fail
    refine (c1.out _ hs1.out).mono ?_
    rintro e w2 ⟨rfl, hb2⟩
    have hs2 := Lib.hid (hs1.out.below hb2)
    have kG := kG.below hb2
    have kb := bel kb hb2
    clear hs1 hb2
    go_upto_region 5 with (first | (refine wpList_load_arr2 rfl _ _ rfl _ rfl (by kernel_rfl) _ (by assumption) (by first | (rw [lims_len]; kernel_rfl) | (rw [el_rep]; kernel_rfl) | (rw [el_len]; kernel_rfl) | (rw [byts_len]; kernel_rfl) | (rw [us_len]; kernel_rfl) | kernel_rfl) ?_) | (refine wpList_store_arr rfl _ _ _ rfl _ _ rfl rfl _ (by first | assumption | exact Arr.new _ _ _) (by first | (rw [lims_len]; kernel_rfl) | (rw [el_rep]; kernel_rfl) | (rw [el_len]; kernel_rfl) | (rw [byts_len]; kernel_rfl) | (rw [us_len]; kernel_rfl) | kernel_rfl) (by first | (rw [lims_len, lims_len]) | (rw [el_rep, el_rep]) | (rw [el_rep, el_len]; rfl) | (rw [el_len, el_rep]; rfl) | (rw [el_len, el_len]; rfl) | (rw [byts_len, byts_len]) | (rw [lims_len]; rfl) | (rw [byts_len]; rfl) | (rw [us_len, us_len]; rfl) | rfl) (by first | exact lims_one _ _ | exact el_one _ | exact byts_one _ | exact us_one _ | (intro v hv; simp at hv; rcases hv with rfl | rfl | rfl | rfl <;> rfl)) ?_))
    refine code_new (fun W3 k4 hnew => ?_)
    have hs3 := hs2.out.below hnew
    have kG := kG.below hnew
    have kb := bel kb hnew
    generalize w2.heap.size = g4 at k4 ⊢
    clear hnew hs2
    have hs3 := Lib.hid hs3
    have c2' := Lib.hid (c2.out W3 hs3.out kG)
    refine Tx.start (fun w' => Below (W3).heap.size (W3) w') 9999 9 rfl (by kernel_rfl) ?_
    have hS_1 : Below (W3).heap.size (W3) (World.drew W3) := (Below.refl _ _).drew
    refine Tx.seg (A := ?_) 7 3 (by kernel_rfl) (by exact hS_1) [0, 1] (by kernel_rfl) ?_ ?_
    rotate_left
    · intro w' hB
      have e1 := k4.below hB
      iterate 2 (first | (refine rd_skip rfl rfl ?_; simp only [Act.put, List.setIfInBounds_toArray, List.set_cons_zero, List.set_cons_succ]) | (refine rd_load_arr rfl rfl _ _ rfl _ rfl (by kernel_rfl) _ (by assumption) (by first | (rw [lims_len]; kernel_rfl) | (rw [el_rep]; kernel_rfl) | (rw [el_len]; kernel_rfl) | (rw [byts_len]; kernel_rfl) | (rw [us_len]; kernel_rfl) | kernel_rfl) ?_; simp only [Act.put, List.setIfInBounds_toArray, List.set_cons_zero, List.set_cons_succ]) | (refine rd_take (v := ?_) rfl rfl ?_ ?_; rotate_left; (focus (go_simp; try (with_reducible rfl))); simp only [Act.put, List.setIfInBounds_toArray, List.set_cons_zero, List.set_cons_succ]))
      exact rd_nil
    refine Tx.eff 2 7 rfl (by decide +kernel) (fun K hK => ?_)
    go_simp
    refine (c2.out _ (hs3.out.below hS_1) (kG.below hS_1)).mono ?_
    rintro e w_2 ⟨rfl, hb_2⟩
    have hS_2 := ext_trans hS_1 (Nat.le_refl _) hb_2
    refine hK (fun w' => Below (W3).heap.size (W3) w') _ _ hS_2 (fun _ h => h) ?_
    clear hK K hb_2 hS_1
    try simp only [Act.put, List.setIfInBounds_toArray, List.set_cons_zero, List.set_cons_succ]
    refine Tx.seg (A := ?_) 3 63 (by kernel_rfl) (by exact hS_2) [3, 4, 5] (by kernel_rfl) ?_ ?_
    rotate_left
    · intro w' hB
      have e1 := k4.below hB
      have e2 := q1.out w'
      iterate 3 (first | (refine rd_skip rfl rfl ?_; simp only [Act.put, List.setIfInBounds_toArray, List.set_cons_zero, List.set_cons_succ]) | (refine rd_load_arr rfl rfl _ _ rfl _ rfl (by kernel_rfl) _ (by assumption) (by first | (rw [lims_len]; kernel_rfl) | (rw [el_rep]; kernel_rfl) | (rw [el_len]; kernel_rfl) | (rw [byts_len]; kernel_rfl) | (rw [us_len]; kernel_rfl) | kernel_rfl) ?_; simp only [Act.put, List.setIfInBounds_toArray, List.set_cons_zero, List.set_cons_succ]) | (refine rd_take (v := ?_) rfl rfl ?_ ?_; rotate_left; (focus (go_simp; try (with_reducible rfl))); simp only [Act.put, List.setIfInBounds_toArray, List.set_cons_zero, List.set_cons_succ]))
      exact rd_nil
    refine Tx.eff 6 127 rfl (by decide +kernel) (fun K hK => ?_)
    go_simp
    refine (c3.out _).mono ?_
    rintro e w_3 ⟨rfl, hb_3⟩
    have hS_3 := ext_trans hS_2 (Nat.le_refl _) hb_3
    refine hK (fun w' => Below (W3).heap.size (W3) w') _ _ hS_3 (fun _ h => h) ?_
    clear hK K hb_3 hS_2
    try simp only [Act.put, List.setIfInBounds_toArray, List.set_cons_zero, List.set_cons_succ]
    refine Tx.seg (A := ?_) 0 511 (by kernel_rfl) (by exact hS_3) [7, 8] (by kernel_rfl) ?_ ?_
    rotate_left
    · intro w' hB
      iterate 2 (first | (refine rd_skip rfl rfl ?_; simp only [Act.put, List.setIfInBounds_toArray, List.set_cons_zero, List.set_cons_succ]) | (refine rd_load_arr rfl rfl _ _ rfl _ rfl (by kernel_rfl) _ (by assumption) (by first | (rw [lims_len]; kernel_rfl) | (rw [el_rep]; kernel_rfl) | (rw [el_len]; kernel_rfl) | (rw [byts_len]; kernel_rfl) | (rw [us_len]; kernel_rfl) | kernel_rfl) ?_; simp only [Act.put, List.setIfInBounds_toArray, List.set_cons_zero, List.set_cons_succ]) | (refine rd_take (v := ?_) rfl rfl ?_ ?_; rotate_left; (focus (go_simp; try (with_reducible rfl))); simp only [Act.put, List.setIfInBounds_toArray, List.set_cons_zero, List.set_cons_succ]))
      exact rd_nil
    refine Tx.done (by kernel_rfl) ?_
    have kb := bel kb hS_3
    go_wp2_with fail
    go_ret
    exact ⟨rfl, kb⟩
  · have hb1' := Lib.hid kb
    clear kb
    go_wp2_with fail
    go_ret
    exact ⟨rfl, hb1'.out⟩

end Go.Proofs.YtdcbpilibaigmaaDoor
