import Derived.Test.YtibdgkhkhmdihaaGreatDoorJa17
import Derived.Test.YtibdgkhkhmdihaaGreatDoorJa16
import Derived.Test.YtibdgkhkhmdihaaGreatDoorJa01
import Derived.Test.YtibdgkhkhmdihaaGreatDoorJa04
import Derived.WalkSpells
import Derived.WalkKit
import Derived.Deep.CutRange
import Derived.Deep.CutBlock
import Derived.RegionTactic
import Derived.ScopeJumps
import Derived.WalkLawsBesides
import Derived.StillTailTactics
import Derived.ProofKit

namespace Go.Proofs.YtibdgkhkhmdihaaGreatDoor
open Go.RowKit
/-- A point as it is written. -/
def encP (P : Pn) : Nat := P.y * (P.z ^ (pN - 2) % pN) % pN + 2 ^ 255 * (P.x * (P.z ^ (pN - 2) % pN) % pN % 2)
theorem or_128 : ∀ x : Nat, x < 128 → bits .or .u8 (x : Int) 128 = ((x + 128 : Nat) : Int) := by decide +kernel
theorem or_0 : ∀ x : Nat, x < 128 → bits .or .u8 (x : Int) 0 = (x : Int) := by decide +kernel
set_option maxHeartbeats 4000000 in
set_option maxRecDepth 100000 in
theorem pbytes_any (P : Pn) (hP : P.ok) (w : World) :
    Calls Tryz.prog 78 #[.agg P.cs.toArray] w fun e w' => e = .returned (.agg (byts (encP P)).toArray) ∧ Below w.heap.size w w' := by
  have hp4 : pN < 18446744073709551616 ^ 4 := by decide
  have lim : ∀ {n : Nat}, n < pN → n < 18446744073709551616 ^ 4 := fun h => Nat.lt_trans h hp4
  obtain ⟨hx, hy, hz, -⟩ := hP
  obtain ⟨i, hi⟩ : ∃ i, P.z ^ (pN - 2) % pN = i := ⟨_, rfl⟩
  have cI := fun w => inverse_any P.z (lim hz) w
  rw [hi] at cI
  have li : i < pN := hi ▸ Nat.mod_lt _ pN_pos
  have cY := fun w => times_any P.y i (lim hy) (lim li) w
  have cX := fun w => times_any P.x i (lim hx) (lim li) w
  obtain ⟨y, hy'⟩ : ∃ y, P.y * i % pN = y := ⟨_, rfl⟩
  obtain ⟨x, hx'⟩ : ∃ x, P.x * i % pN = x := ⟨_, rfl⟩
  have ly : y < pN := hy' ▸ Nat.mod_lt _ pN_pos
  rw [hy'] at cY
  rw [hx'] at cX
  have hE : encP P = y + 2 ^ 255 * (x % 2) := by rw [encP, hi, hy', hx']
  obtain ⟨r, hr⟩ : ∃ r, y + 2 ^ 255 * (x % 2) = r := ⟨_, rfl⟩
  rw [hE, hr]
  replace hr := Lib.hid hr
  have cN := Lib.hid (fun w => limNum_any y w)
  have cB := fun w => show Calls Tryz.prog 123 #[.agg (lims 4 x).toArray, .int .i64 0] w _ from limBit_any x 0 (by decide) w
  rw [Nat.pow_zero, Nat.div_one] at cB
  have hy255 : y < 2 ^ 255 := Nat.lt_trans ly (by decide)
  have hy31 : y / 256 ^ 31 < 128 := by omega
  have g31 := byts_get y 31 (by decide)
  have sA : (byts y).set 31 (.int .u8 ((y / 256 ^ 31 : Nat) : Int)) = byts (y + 2 ^ 255 * 0) := byts_set (by decide) (by omega) (by omega) (by omega)
  have sB : (byts y).set 31 (.int .u8 ((y / 256 ^ 31 + 128 : Nat) : Int)) = byts (y + 2 ^ 255 * 1) := byts_set (by decide) (by omega) (by omega) (by omega)
  obtain ⟨d, hd⟩ : ∃ d, y / 256 ^ 31 = d := ⟨_, rfl⟩
  rw [hd] at hy31 sA sB g31
  rw [Nat.mod_eq_of_lt (by omega)] at g31
  have oA : bits .or .u8 (d : Int) (IntKind.u8.wrap (IntKind.u8.wrap 0 * 128)) = (d : Int) := or_0 d hy31
  have oB : bits .or .u8 (d : Int) (IntKind.u8.wrap (IntKind.u8.wrap 1 * 128)) = ((d + 128 : Nat) : Int) := or_128 d hy31
  replace cI := Lib.hid cI
  replace cY := Lib.hid cY
  replace cX := Lib.hid cX
  replace g31 := Lib.hid g31
  have hx2 : x % 2 = 0 ∨ x % 2 = 1 := by omega
  clear hp4 lim hx hy hz hi li hy' hx' ly hE hy255 hd hy31
  go_enter Tryz.func78, Tryz.ntmps78
  go_upto_region 1 with fail
  refine wp_new2 (fun W hsz k1 k2 kb => ?_)
  have k1 : Arr W w.heap.size (ptL P.x P.y P.z P.t) := k1
  have k2 : Arr W (w.heap.size + 1) (byts 0) := k2
  clear hsz
  have hz := ptL_z k1
  go_wp2_with (refine wpList_load_mid2 rfl _ _ rfl _ _ rfl (by kernel_rfl) _ hz (by first | (rw [lims_len]; kernel_rfl) | (rw [el_rep]; kernel_rfl) | (rw [el_len]; kernel_rfl) | (rw [byts_len]; kernel_rfl) | (rw [us_len]; kernel_rfl) | (rw [bytn_len]; kernel_rfl) | (rw [ens_len, digs_len]; kernel_rfl) | (rw [ptL_len]; kernel_rfl) | (rw [pcs_len]; kernel_rfl) | kernel_rfl) ?_)
  clear hz
  refine (cI.out _).mono ?_
  rintro e w_1 ⟨rfl, hb_1⟩
  have k1 := k1.below hb_1
  have k2 := k2.below hb_1
  have kb := bel kb hb_1
  clear hb_1
  go_upto_region 2 with (first | (refine wpList_load_arr2 rfl _ _ rfl _ rfl (by decide +kernel) _ (by assumption) (by first | (rw [lims_len]; kernel_rfl) | (rw [el_rep]; kernel_rfl) | (rw [el_len]; kernel_rfl) | (rw [byts_len]; kernel_rfl) | (rw [us_len]; kernel_rfl) | (rw [bytn_len]; kernel_rfl) | (rw [ens_len, digs_len]; kernel_rfl) | (rw [ptL_len]; kernel_rfl) | (rw [pcs_len]; kernel_rfl) | kernel_rfl) ?_) | (refine wpList_store_arr rfl _ _ _ rfl _ _ rfl rfl _ (by first | assumption | exact Arr.new _ _ _) (by first | (rw [lims_len]; kernel_rfl) | (rw [el_rep]; kernel_rfl) | (rw [el_len]; kernel_rfl) | (rw [byts_len]; kernel_rfl) | (rw [us_len]; kernel_rfl) | (rw [bytn_len]; kernel_rfl) | (rw [ens_len, digs_len]; kernel_rfl) | (rw [ptL_len]; kernel_rfl) | (rw [pcs_len]; kernel_rfl) | kernel_rfl) (by first | (rw [lims_len, lims_len]) | (rw [el_rep, el_rep]) | (rw [el_rep, el_len]; rfl) | (rw [el_len, el_rep]; rfl) | (rw [el_len, el_len]; rfl) | (rw [byts_len, byts_len]) | (rw [lims_len]; rfl) | (rw [byts_len]; rfl) | (rw [us_len, us_len]; rfl) | (rw [bytn_len, bytn_len]) | (rw [bytn_len]; rfl) | (rw [ptL_len, ptL_len]) | (rw [pcs_len, pcs_len]) | (rw [ptL_len, pcs_len]) | (rw [pcs_len, ptL_len]) | (rw [ens_len, ens_len, digs_len, digs_len]) | rfl) (by first | exact lims_one _ _ | exact el_one _ | exact byts_one _ | exact us_one _ | exact bytn_one _ _ | exact ens_one _ | exact ptL_one _ _ _ _ | exact pcs_one _ | (intro v hv; simp at hv; rcases hv with rfl | rfl | rfl | rfl <;> rfl)) ?_))
  have hg_k3_k1 := k1.lt
  have hg_k3_k2 := k2.lt
  refine code_new (fun w_2 k3 hnew => ?_)
  have k1 := k1.below hnew
  have k2 := k2.below hnew
  have kb := bel kb hnew
  clear hnew
  generalize (w_1).heap.size = g_k3 at k3 hg_k3_k1 hg_k3_k2 ⊢
  have hy := ptL_y k1
  go_wp2_with (first | (refine wpList_load_mid2 rfl _ _ rfl _ _ rfl (by kernel_rfl) _ hy (by first | (rw [lims_len]; kernel_rfl) | (rw [el_rep]; kernel_rfl) | (rw [el_len]; kernel_rfl) | (rw [byts_len]; kernel_rfl) | (rw [us_len]; kernel_rfl) | (rw [bytn_len]; kernel_rfl) | (rw [ens_len, digs_len]; kernel_rfl) | (rw [ptL_len]; kernel_rfl) | (rw [pcs_len]; kernel_rfl) | kernel_rfl) ?_) | (refine wpList_load_arr2 rfl _ _ rfl _ rfl (by decide +kernel) _ (by assumption) (by first | (rw [lims_len]; kernel_rfl) | (rw [el_rep]; kernel_rfl) | (rw [el_len]; kernel_rfl) | (rw [byts_len]; kernel_rfl) | (rw [us_len]; kernel_rfl) | (rw [bytn_len]; kernel_rfl) | (rw [ens_len, digs_len]; kernel_rfl) | (rw [ptL_len]; kernel_rfl) | (rw [pcs_len]; kernel_rfl) | kernel_rfl) ?_))
  clear hy
  refine (cY.out _).mono ?_
  rintro e w_3 ⟨rfl, hb_3⟩
  have k1 := k1.below hb_3
  have k2 := k2.below hb_3
  have k3 := k3.below hb_3
  have kb := bel kb hb_3
  clear hb_3
  go_wp2_with fail
  refine (cN.out _).mono ?_
  rintro e w_4 ⟨rfl, hb_4⟩
  have k1 := k1.below hb_4
  have k2 := k2.below hb_4
  have k3 := k3.below hb_4
  have kb := bel kb hb_4
  clear hb_4
  go_upto_region 3 with (first | (refine wpList_load_arr2 rfl _ _ rfl _ rfl (by decide +kernel) _ (by assumption) (by first | (rw [lims_len]; kernel_rfl) | (rw [el_rep]; kernel_rfl) | (rw [el_len]; kernel_rfl) | (rw [byts_len]; kernel_rfl) | (rw [us_len]; kernel_rfl) | (rw [bytn_len]; kernel_rfl) | (rw [ens_len, digs_len]; kernel_rfl) | (rw [ptL_len]; kernel_rfl) | (rw [pcs_len]; kernel_rfl) | kernel_rfl) ?_) | (refine wpList_store_arr rfl _ _ _ rfl _ _ rfl rfl _ (by first | assumption | exact Arr.new _ _ _) (by first | (rw [lims_len]; kernel_rfl) | (rw [el_rep]; kernel_rfl) | (rw [el_len]; kernel_rfl) | (rw [byts_len]; kernel_rfl) | (rw [us_len]; kernel_rfl) | (rw [bytn_len]; kernel_rfl) | (rw [ens_len, digs_len]; kernel_rfl) | (rw [ptL_len]; kernel_rfl) | (rw [pcs_len]; kernel_rfl) | kernel_rfl) (by first | (rw [lims_len, lims_len]) | (rw [el_rep, el_rep]) | (rw [el_rep, el_len]; rfl) | (rw [el_len, el_rep]; rfl) | (rw [el_len, el_len]; rfl) | (rw [byts_len, byts_len]) | (rw [lims_len]; rfl) | (rw [byts_len]; rfl) | (rw [us_len, us_len]; rfl) | (rw [bytn_len, bytn_len]) | (rw [bytn_len]; rfl) | (rw [ptL_len, ptL_len]) | (rw [pcs_len, pcs_len]) | (rw [ptL_len, pcs_len]) | (rw [pcs_len, ptL_len]) | (rw [ens_len, ens_len, digs_len, digs_len]) | rfl) (by first | exact lims_one _ _ | exact el_one _ | exact byts_one _ | exact us_one _ | exact bytn_one _ _ | exact ens_one _ | exact ptL_one _ _ _ _ | exact pcs_one _ | (intro v hv; simp at hv; rcases hv with rfl | rfl | rfl | rfl <;> rfl)) ?_))
  have hg_k4_k1 := k1.lt
  have hg_k4_k2 := k2.lt
  have hg_k4_k3 := k3.lt
  refine code_new (fun w_5 k4 hnew => ?_)
  have k1 := k1.below hnew
  have k2 := k2.below hnew
  have k3 := k3.below hnew
  have kb := bel kb hnew
  clear hnew
  generalize (w_4).heap.size = g_k4 at k4 hg_k4_k1 hg_k4_k2 hg_k4_k3 ⊢
  rcases hx2 with hs | hs
  · skip
    rw [hs] at cB
    replace sA : Hid ((byts y).set 31 (.int .u8 (d : Int)) = byts r) := Lib.hid (by rw [← hr.out, hs]; exact sA)
    clear sB oB
    replace cB := Lib.hid cB
    have hs := Lib.hid hs
    go_upto_region 3 with (first | (refine wpList_load_arr2 rfl _ _ rfl _ rfl (by decide +kernel) _ (by assumption) (by first | (rw [lims_len]; kernel_rfl) | (rw [el_rep]; kernel_rfl) | (rw [el_len]; kernel_rfl) | (rw [byts_len]; kernel_rfl) | (rw [us_len]; kernel_rfl) | (rw [bytn_len]; kernel_rfl) | (rw [ens_len, digs_len]; kernel_rfl) | (rw [ptL_len]; kernel_rfl) | (rw [pcs_len]; kernel_rfl) | kernel_rfl) ?_) | (refine wpList_store_arr rfl _ _ _ rfl _ _ rfl rfl _ (by first | assumption | exact Arr.new _ _ _) (by first | (rw [lims_len]; kernel_rfl) | (rw [el_rep]; kernel_rfl) | (rw [el_len]; kernel_rfl) | (rw [byts_len]; kernel_rfl) | (rw [us_len]; kernel_rfl) | (rw [bytn_len]; kernel_rfl) | (rw [ens_len, digs_len]; kernel_rfl) | (rw [ptL_len]; kernel_rfl) | (rw [pcs_len]; kernel_rfl) | kernel_rfl) (by first | (rw [lims_len, lims_len]) | (rw [el_rep, el_rep]) | (rw [el_rep, el_len]; rfl) | (rw [el_len, el_rep]; rfl) | (rw [el_len, el_len]; rfl) | (rw [byts_len, byts_len]) | (rw [lims_len]; rfl) | (rw [byts_len]; rfl) | (rw [us_len, us_len]; rfl) | (rw [bytn_len, bytn_len]) | (rw [bytn_len]; rfl) | (rw [ptL_len, ptL_len]) | (rw [pcs_len, pcs_len]) | (rw [ptL_len, pcs_len]) | (rw [pcs_len, ptL_len]) | (rw [ens_len, ens_len, digs_len, digs_len]) | rfl) (by first | exact lims_one _ _ | exact el_one _ | exact byts_one _ | exact us_one _ | exact bytn_one _ _ | exact ens_one _ | exact ptL_one _ _ _ _ | exact pcs_one _ | (intro v hv; simp at hv; rcases hv with rfl | rfl | rfl | rfl <;> rfl)) ?_))
    refine Tx.start (fun w' => Below (w_5).heap.size (w_5) w') 11 12 rfl (by kernel_rfl) ?_
    have hS_6 : Below (w_5).heap.size (w_5) (World.drew w_5) := (Below.refl _ _).drew
    refine Tx.seg2 (A := ?_) 7 31 (by kernel_rfl) (by exact hS_6) [0, 1, 2, 3, 4] (by kernel_rfl) ?_ ?_
    rotate_left
    · intro w' hB
      have hx := ptL_x (k1.below hB)
      have y3 := k3.below hB
      have y4 := (k4.below hB).cell g31.out
      iterate 5 (first | (refine rd_skip rfl rfl ?_; simp only [Act.put, List.setIfInBounds_toArray, List.set_cons_zero, List.set_cons_succ]) | (refine rd_load_mid rfl rfl _ _ rfl _ _ rfl (by decide +kernel) _ hx (by first | (rw [lims_len]; kernel_rfl) | (rw [el_rep]; kernel_rfl) | (rw [el_len]; kernel_rfl) | (rw [byts_len]; kernel_rfl) | (rw [us_len]; kernel_rfl) | (rw [bytn_len]; kernel_rfl) | (rw [ens_len, digs_len]; kernel_rfl) | (rw [ptL_len]; kernel_rfl) | (rw [pcs_len]; kernel_rfl) | kernel_rfl) ?_; simp only [Act.put, List.setIfInBounds_toArray, List.set_cons_zero, List.set_cons_succ]) | (refine rd_load_arr rfl rfl _ _ rfl _ rfl (by decide +kernel) _ (by assumption) (by first | (rw [lims_len]; kernel_rfl) | (rw [el_rep]; kernel_rfl) | (rw [el_len]; kernel_rfl) | (rw [byts_len]; kernel_rfl) | (rw [us_len]; kernel_rfl) | (rw [bytn_len]; kernel_rfl) | (rw [ens_len, digs_len]; kernel_rfl) | (rw [ptL_len]; kernel_rfl) | (rw [pcs_len]; kernel_rfl) | kernel_rfl) ?_; simp only [Act.put, List.setIfInBounds_toArray, List.set_cons_zero, List.set_cons_succ]) | (refine rd_take (v := ?_) rfl rfl ?_ ?_; rotate_left; (focus (go_simp; try (with_reducible rfl))); simp only [Act.put, List.setIfInBounds_toArray, List.set_cons_zero, List.set_cons_succ]))
      exact rd_nil
    refine Tx.eff 5 63 rfl (by decide +kernel) (fun K hK => ?_)
    go_simp
    refine (cX.out _).mono ?_
    rintro e w_7 ⟨rfl, hb_7⟩
    have hS_7 := ext_trans hS_6 (Nat.le_refl _) hb_7
    refine hK (fun w' => Below (w_5).heap.size (w_5) w') _ _ hS_7 (fun _ h => h) ?_
    clear hK K hb_7 hS_6
    try simp only [Act.put, List.setIfInBounds_toArray, List.set_cons_zero, List.set_cons_succ]
    refine Tx.eff 6 127 rfl (by decide +kernel) (fun K hK => ?_)
    go_simp
    refine (cB.out _).mono ?_
    rintro e w_8 ⟨rfl, hb_8⟩
    have hS_8 := ext_trans hS_7 (Nat.le_refl _) hb_8
    refine hK (fun w' => Below (w_5).heap.size (w_5) w') _ _ hS_8 (fun _ h => h) ?_
    clear hK K hb_8 hS_7
    try simp only [Act.put, List.setIfInBounds_toArray, List.set_cons_zero, List.set_cons_succ]
    refine Tx.seg2 (A := ?_) 1 2047 (by kernel_rfl) (by exact hS_8) [7, 8, 9, 10] (by kernel_rfl) ?_ ?_
    rotate_left
    · intro w' hB
      iterate 4 (first | (refine rd_skip rfl rfl ?_; simp only [Act.put, List.setIfInBounds_toArray, List.set_cons_zero, List.set_cons_succ]) | (refine rd_load_arr rfl rfl _ _ rfl _ rfl (by decide +kernel) _ (by assumption) (by first | (rw [lims_len]; kernel_rfl) | (rw [el_rep]; kernel_rfl) | (rw [el_len]; kernel_rfl) | (rw [byts_len]; kernel_rfl) | (rw [us_len]; kernel_rfl) | (rw [bytn_len]; kernel_rfl) | (rw [ens_len, digs_len]; kernel_rfl) | (rw [ptL_len]; kernel_rfl) | (rw [pcs_len]; kernel_rfl) | kernel_rfl) ?_; simp only [Act.put, List.setIfInBounds_toArray, List.set_cons_zero, List.set_cons_succ]) | (refine rd_take (v := ?_) rfl rfl ?_ ?_; rotate_left; (focus (go_simp; try (with_reducible rfl))); simp only [Act.put, List.setIfInBounds_toArray, List.set_cons_zero, List.set_cons_succ]))
      exact rd_nil
    have k1 := k1.below hS_8
    have k2 := k2.below hS_8
    have k3 := k3.below hS_8
    have k4 := k4.below hS_8
    have kb := bel kb hS_8
    have hcel := k4.cell g31.out
    have hfro := k4.frozen 31
    refine Tx.bar 4095 rfl (by decide +kernel) (fun K hK => ?_)
    go_simp
    refine hK (fun _ => True) 9999 _ _ ?_
    clear hK K
    try simp only [Act.put]
    try simp only [List.setIfInBounds_toArray, List.set_cons_zero, List.set_cons_succ]
    refine Tx.done (by kernel_rfl) ?_
    clear hcel hfro
    have kb := kb.setCell (p := ⟨g_k4, 31, none⟩) (by simp; omega) (.int .u8 (d : Int))
    have k2 := k2.other (a := ⟨g_k4, 31, none⟩) (by simp; omega) (.int .u8 (d : Int))
    have k4 := k4.set 31 (.int .u8 (d : Int))
    rw [sA.out] at k4
    generalize World.setCell _ ⟨g_k4, 31, none⟩ (.int .u8 (d : Int)) = w9 at *
    clear k1 k3
    go_wp2_with (first | (refine wpList_load_arr2 rfl _ _ rfl _ rfl (by decide +kernel) _ (by assumption) (by first | (rw [lims_len]; kernel_rfl) | (rw [el_rep]; kernel_rfl) | (rw [el_len]; kernel_rfl) | (rw [byts_len]; kernel_rfl) | (rw [us_len]; kernel_rfl) | (rw [bytn_len]; kernel_rfl) | (rw [ens_len, digs_len]; kernel_rfl) | (rw [ptL_len]; kernel_rfl) | (rw [pcs_len]; kernel_rfl) | kernel_rfl) ?_) | (refine wpList_store_arr rfl _ _ _ rfl _ _ rfl rfl _ (by first | assumption | exact Arr.new _ _ _) (by first | (rw [lims_len]; kernel_rfl) | (rw [el_rep]; kernel_rfl) | (rw [el_len]; kernel_rfl) | (rw [byts_len]; kernel_rfl) | (rw [us_len]; kernel_rfl) | (rw [bytn_len]; kernel_rfl) | (rw [ens_len, digs_len]; kernel_rfl) | (rw [ptL_len]; kernel_rfl) | (rw [pcs_len]; kernel_rfl) | kernel_rfl) (by first | (rw [lims_len, lims_len]) | (rw [el_rep, el_rep]) | (rw [el_rep, el_len]; rfl) | (rw [el_len, el_rep]; rfl) | (rw [el_len, el_len]; rfl) | (rw [byts_len, byts_len]) | (rw [lims_len]; rfl) | (rw [byts_len]; rfl) | (rw [us_len, us_len]; rfl) | (rw [bytn_len, bytn_len]) | (rw [bytn_len]; rfl) | (rw [ptL_len, ptL_len]) | (rw [pcs_len, pcs_len]) | (rw [ptL_len, pcs_len]) | (rw [pcs_len, ptL_len]) | (rw [ens_len, ens_len, digs_len, digs_len]) | rfl) (by first | exact lims_one _ _ | exact el_one _ | exact byts_one _ | exact us_one _ | exact bytn_one _ _ | exact ens_one _ | exact ptL_one _ _ _ _ | exact pcs_one _ | (intro v hv; simp at hv; rcases hv with rfl | rfl | rfl | rfl <;> rfl)) ?_))
    exact bodyPost_ret (results_arr2 Tryz.results78 _ _ _ rfl (by kernel_rfl) _ (by first | assumption | exact Arr.setRow (by assumption) _) (by first | (rw [lims_len]; kernel_rfl) | (rw [el_rep]; kernel_rfl) | (rw [el_len]; kernel_rfl) | (rw [byts_len]; kernel_rfl) | (rw [us_len]; kernel_rfl) | (rw [bytn_len]; kernel_rfl) | (rw [ens_len, digs_len]; kernel_rfl) | (rw [ptL_len]; kernel_rfl) | (rw [pcs_len]; kernel_rfl) | kernel_rfl)) rfl ⟨rfl, below_setRow kb (by omega) _⟩
  · skip
    rw [hs] at cB
    replace sB : Hid ((byts y).set 31 (.int .u8 ((d : Int) + 128)) = byts r) := Lib.hid (by rw [← hr.out, hs]; rw [show ((d + 128 : Nat) : Int) = (d : Int) + 128 by omega] at sB; exact sB)
    clear sA oA
    replace cB := Lib.hid cB
    have hs := Lib.hid hs
    go_upto_region 3 with (first | (refine wpList_load_arr2 rfl _ _ rfl _ rfl (by decide +kernel) _ (by assumption) (by first | (rw [lims_len]; kernel_rfl) | (rw [el_rep]; kernel_rfl) | (rw [el_len]; kernel_rfl) | (rw [byts_len]; kernel_rfl) | (rw [us_len]; kernel_rfl) | (rw [bytn_len]; kernel_rfl) | (rw [ens_len, digs_len]; kernel_rfl) | (rw [ptL_len]; kernel_rfl) | (rw [pcs_len]; kernel_rfl) | kernel_rfl) ?_) | (refine wpList_store_arr rfl _ _ _ rfl _ _ rfl rfl _ (by first | assumption | exact Arr.new _ _ _) (by first | (rw [lims_len]; kernel_rfl) | (rw [el_rep]; kernel_rfl) | (rw [el_len]; kernel_rfl) | (rw [byts_len]; kernel_rfl) | (rw [us_len]; kernel_rfl) | (rw [bytn_len]; kernel_rfl) | (rw [ens_len, digs_len]; kernel_rfl) | (rw [ptL_len]; kernel_rfl) | (rw [pcs_len]; kernel_rfl) | kernel_rfl) (by first | (rw [lims_len, lims_len]) | (rw [el_rep, el_rep]) | (rw [el_rep, el_len]; rfl) | (rw [el_len, el_rep]; rfl) | (rw [el_len, el_len]; rfl) | (rw [byts_len, byts_len]) | (rw [lims_len]; rfl) | (rw [byts_len]; rfl) | (rw [us_len, us_len]; rfl) | (rw [bytn_len, bytn_len]) | (rw [bytn_len]; rfl) | (rw [ptL_len, ptL_len]) | (rw [pcs_len, pcs_len]) | (rw [ptL_len, pcs_len]) | (rw [pcs_len, ptL_len]) | (rw [ens_len, ens_len, digs_len, digs_len]) | rfl) (by first | exact lims_one _ _ | exact el_one _ | exact byts_one _ | exact us_one _ | exact bytn_one _ _ | exact ens_one _ | exact ptL_one _ _ _ _ | exact pcs_one _ | (intro v hv; simp at hv; rcases hv with rfl | rfl | rfl | rfl <;> rfl)) ?_))
    refine Tx.start (fun w' => Below (w_5).heap.size (w_5) w') 11 12 rfl (by kernel_rfl) ?_
    have hS_9 : Below (w_5).heap.size (w_5) (World.drew w_5) := (Below.refl _ _).drew
    refine Tx.seg2 (A := ?_) 7 31 (by kernel_rfl) (by exact hS_9) [0, 1, 2, 3, 4] (by kernel_rfl) ?_ ?_
    rotate_left
    · intro w' hB
      have hx := ptL_x (k1.below hB)
      have y3 := k3.below hB
      have y4 := (k4.below hB).cell g31.out
      iterate 5 (first | (refine rd_skip rfl rfl ?_; simp only [Act.put, List.setIfInBounds_toArray, List.set_cons_zero, List.set_cons_succ]) | (refine rd_load_mid rfl rfl _ _ rfl _ _ rfl (by decide +kernel) _ hx (by first | (rw [lims_len]; kernel_rfl) | (rw [el_rep]; kernel_rfl) | (rw [el_len]; kernel_rfl) | (rw [byts_len]; kernel_rfl) | (rw [us_len]; kernel_rfl) | (rw [bytn_len]; kernel_rfl) | (rw [ens_len, digs_len]; kernel_rfl) | (rw [ptL_len]; kernel_rfl) | (rw [pcs_len]; kernel_rfl) | kernel_rfl) ?_; simp only [Act.put, List.setIfInBounds_toArray, List.set_cons_zero, List.set_cons_succ]) | (refine rd_load_arr rfl rfl _ _ rfl _ rfl (by decide +kernel) _ (by assumption) (by first | (rw [lims_len]; kernel_rfl) | (rw [el_rep]; kernel_rfl) | (rw [el_len]; kernel_rfl) | (rw [byts_len]; kernel_rfl) | (rw [us_len]; kernel_rfl) | (rw [bytn_len]; kernel_rfl) | (rw [ens_len, digs_len]; kernel_rfl) | (rw [ptL_len]; kernel_rfl) | (rw [pcs_len]; kernel_rfl) | kernel_rfl) ?_; simp only [Act.put, List.setIfInBounds_toArray, List.set_cons_zero, List.set_cons_succ]) | (refine rd_take (v := ?_) rfl rfl ?_ ?_; rotate_left; (focus (go_simp; try (with_reducible rfl))); simp only [Act.put, List.setIfInBounds_toArray, List.set_cons_zero, List.set_cons_succ]))
      exact rd_nil
    refine Tx.eff 5 63 rfl (by decide +kernel) (fun K hK => ?_)
    go_simp
    refine (cX.out _).mono ?_
    rintro e w_10 ⟨rfl, hb_10⟩
    have hS_10 := ext_trans hS_9 (Nat.le_refl _) hb_10
    refine hK (fun w' => Below (w_5).heap.size (w_5) w') _ _ hS_10 (fun _ h => h) ?_
    clear hK K hb_10 hS_9
    try simp only [Act.put, List.setIfInBounds_toArray, List.set_cons_zero, List.set_cons_succ]
    refine Tx.eff 6 127 rfl (by decide +kernel) (fun K hK => ?_)
    go_simp
    refine (cB.out _).mono ?_
    rintro e w_11 ⟨rfl, hb_11⟩
    have hS_11 := ext_trans hS_10 (Nat.le_refl _) hb_11
    refine hK (fun w' => Below (w_5).heap.size (w_5) w') _ _ hS_11 (fun _ h => h) ?_
    clear hK K hb_11 hS_10
    try simp only [Act.put, List.setIfInBounds_toArray, List.set_cons_zero, List.set_cons_succ]
    refine Tx.seg2 (A := ?_) 1 2047 (by kernel_rfl) (by exact hS_11) [7, 8, 9, 10] (by kernel_rfl) ?_ ?_
    rotate_left
    · intro w' hB
      iterate 4 (first | (refine rd_skip rfl rfl ?_; simp only [Act.put, List.setIfInBounds_toArray, List.set_cons_zero, List.set_cons_succ]) | (refine rd_load_arr rfl rfl _ _ rfl _ rfl (by decide +kernel) _ (by assumption) (by first | (rw [lims_len]; kernel_rfl) | (rw [el_rep]; kernel_rfl) | (rw [el_len]; kernel_rfl) | (rw [byts_len]; kernel_rfl) | (rw [us_len]; kernel_rfl) | (rw [bytn_len]; kernel_rfl) | (rw [ens_len, digs_len]; kernel_rfl) | (rw [ptL_len]; kernel_rfl) | (rw [pcs_len]; kernel_rfl) | kernel_rfl) ?_; simp only [Act.put, List.setIfInBounds_toArray, List.set_cons_zero, List.set_cons_succ]) | (refine rd_take (v := ?_) rfl rfl ?_ ?_; rotate_left; (focus (go_simp; try (with_reducible rfl))); simp only [Act.put, List.setIfInBounds_toArray, List.set_cons_zero, List.set_cons_succ]))
      exact rd_nil
    have k1 := k1.below hS_11
    have k2 := k2.below hS_11
    have k3 := k3.below hS_11
    have k4 := k4.below hS_11
    have kb := bel kb hS_11
    have hcel := k4.cell g31.out
    have hfro := k4.frozen 31
    refine Tx.bar 4095 rfl (by decide +kernel) (fun K hK => ?_)
    go_simp
    refine hK (fun _ => True) 9999 _ _ ?_
    clear hK K
    try simp only [Act.put]
    try simp only [List.setIfInBounds_toArray, List.set_cons_zero, List.set_cons_succ]
    refine Tx.done (by kernel_rfl) ?_
    clear hcel hfro
    have kb := kb.setCell (p := ⟨g_k4, 31, none⟩) (by simp; omega) (.int .u8 ((d : Int) + 128))
    have k2 := k2.other (a := ⟨g_k4, 31, none⟩) (by simp; omega) (.int .u8 ((d : Int) + 128))
    have k4 := k4.set 31 (.int .u8 ((d : Int) + 128))
    rw [sB.out] at k4
    generalize World.setCell _ ⟨g_k4, 31, none⟩ (.int .u8 ((d : Int) + 128)) = w9 at *
    clear k1 k3
    go_wp2_with (first | (refine wpList_load_arr2 rfl _ _ rfl _ rfl (by decide +kernel) _ (by assumption) (by first | (rw [lims_len]; kernel_rfl) | (rw [el_rep]; kernel_rfl) | (rw [el_len]; kernel_rfl) | (rw [byts_len]; kernel_rfl) | (rw [us_len]; kernel_rfl) | (rw [bytn_len]; kernel_rfl) | (rw [ens_len, digs_len]; kernel_rfl) | (rw [ptL_len]; kernel_rfl) | (rw [pcs_len]; kernel_rfl) | kernel_rfl) ?_) | (refine wpList_store_arr rfl _ _ _ rfl _ _ rfl rfl _ (by first | assumption | exact Arr.new _ _ _) (by first | (rw [lims_len]; kernel_rfl) | (rw [el_rep]; kernel_rfl) | (rw [el_len]; kernel_rfl) | (rw [byts_len]; kernel_rfl) | (rw [us_len]; kernel_rfl) | (rw [bytn_len]; kernel_rfl) | (rw [ens_len, digs_len]; kernel_rfl) | (rw [ptL_len]; kernel_rfl) | (rw [pcs_len]; kernel_rfl) | kernel_rfl) (by first | (rw [lims_len, lims_len]) | (rw [el_rep, el_rep]) | (rw [el_rep, el_len]; rfl) | (rw [el_len, el_rep]; rfl) | (rw [el_len, el_len]; rfl) | (rw [byts_len, byts_len]) | (rw [lims_len]; rfl) | (rw [byts_len]; rfl) | (rw [us_len, us_len]; rfl) | (rw [bytn_len, bytn_len]) | (rw [bytn_len]; rfl) | (rw [ptL_len, ptL_len]) | (rw [pcs_len, pcs_len]) | (rw [ptL_len, pcs_len]) | (rw [pcs_len, ptL_len]) | (rw [ens_len, ens_len, digs_len, digs_len]) | rfl) (by first | exact lims_one _ _ | exact el_one _ | exact byts_one _ | exact us_one _ | exact bytn_one _ _ | exact ens_one _ | exact ptL_one _ _ _ _ | exact pcs_one _ | (intro v hv; simp at hv; rcases hv with rfl | rfl | rfl | rfl <;> rfl)) ?_))
    exact bodyPost_ret (results_arr2 Tryz.results78 _ _ _ rfl (by kernel_rfl) _ (by first | assumption | exact Arr.setRow (by assumption) _) (by first | (rw [lims_len]; kernel_rfl) | (rw [el_rep]; kernel_rfl) | (rw [el_len]; kernel_rfl) | (rw [byts_len]; kernel_rfl) | (rw [us_len]; kernel_rfl) | (rw [bytn_len]; kernel_rfl) | (rw [ens_len, digs_len]; kernel_rfl) | (rw [ptL_len]; kernel_rfl) | (rw [pcs_len]; kernel_rfl) | kernel_rfl)) rfl ⟨rfl, below_setRow kb (by omega) _⟩
end Go.Proofs.YtibdgkhkhmdihaaGreatDoor


namespace Go.Proofs.YtibdgkhkhmdihaaGreatDoor
open Go.RowKit
theorem q64_toNat {a : Nat} (ha : a < 18446744073709551616) : (BitVec.ofInt 64 (a : Int)).toNat = a := by
  rw [BitVec.ofInt_natCast, BitVec.toNat_ofNat]
  exact Nat.mod_eq_of_lt ha
theorem q64_in {a : Nat} (ha : a < 18446744073709551616) : IntKind.u64.wrap (a : Int) = (a : Int) := by
  simp [IntKind.wrap, IntKind.bits, IntKind.signed]
  omega
theorem q64_mod (a : Nat) : IntKind.u64.wrap (a : Int) = ((a % 18446744073709551616 : Nat) : Int) := by
  simp [IntKind.wrap, IntKind.bits, IntKind.signed]
theorem wrap_q64 (z : Int) : IntKind.u64.wrap z = z % 18446744073709551616 := by
  simp [IntKind.wrap, IntKind.bits, IntKind.signed]
theorem xor_q64 {a b : Nat} (ha : a < 18446744073709551616) (hb : b < 18446744073709551616) : bits .xor .u64 (a : Int) (b : Int) = ((a ^^^ b : Nat) : Int) := by
  show IntKind.u64.wrap ((BitVec.ofInt 64 (a : Int) ^^^ BitVec.ofInt 64 (b : Int)).toNat : Int) = _
  rw [BitVec.toNat_xor, q64_toNat ha, q64_toNat hb]
  exact q64_in (Nat.xor_lt_two_pow (n := 64) ha hb)
theorem or_q64 {a b : Nat} (ha : a < 18446744073709551616) (hb : b < 18446744073709551616) : bits .or .u64 (a : Int) (b : Int) = ((a ||| b : Nat) : Int) := by
  show IntKind.u64.wrap ((BitVec.ofInt 64 (a : Int) ||| BitVec.ofInt 64 (b : Int)).toNat : Int) = _
  rw [BitVec.toNat_or, q64_toNat ha, q64_toNat hb]
  exact q64_in (Nat.or_lt_two_pow (n := 64) ha hb)
theorem and_q64 {a b : Nat} (ha : a < 18446744073709551616) (hb : b < 18446744073709551616) : bits .and .u64 (a : Int) (b : Int) = ((a &&& b : Nat) : Int) := by
  show IntKind.u64.wrap ((BitVec.ofInt 64 (a : Int) &&& BitVec.ofInt 64 (b : Int)).toNat : Int) = _
  rw [BitVec.toNat_and, q64_toNat ha, q64_toNat hb]
  exact q64_in (Nat.lt_of_le_of_lt Nat.and_le_left ha)
/-- Words as they lie in memory. -/
def wd (l : List Nat) : List Value := l.map fun (x : Nat) => .int .u64 (x : Int)
theorem wd_len (l : List Nat) : (wd l).length = l.length := by simp [wd]
theorem wd_one (l : List Nat) : ∀ v ∈ wd l, v.oneCell' = true := by
  intro v hv
  simp only [wd, List.mem_map] at hv
  obtain ⟨x, -, rfl⟩ := hv
  rfl
theorem wd_get {l : List Nat} {j : Nat} (h : j < l.length) : (wd l)[j]? = some (.int .u64 ((l.getD j 0 : Nat) : Int)) := by
  simp [wd, h]
theorem wd_set (l : List Nat) (j x : Nat) : (wd l).set j (.int .u64 (x : Int)) = wd (l.set j x) := by
  simp [wd, List.map_set]
/-- Each below 2^64. -/
def W64 (l : List Nat) : Prop := ∀ x ∈ l, x < 18446744073709551616
theorem W64.get {l : List Nat} (h : W64 l) (j : Nat) : l.getD j 0 < 18446744073709551616 := by
  rw [List.getD_eq_getElem?_getD]
  cases e : l[j]? with
  | none => decide
  | some x => exact h x (List.mem_of_getElem? e)
theorem W64.set {l : List Nat} (h : W64 l) (j : Nat) {x : Nat} (hx : x < 18446744073709551616) : W64 (l.set j x) := by
  intro y hy
  rcases List.mem_or_eq_of_mem_set hy with h1 | rfl
  · exact h y h1
  · exact hx
/-- A number turned to the left, within 64 bits. -/
def rL (x k : Nat) : Nat := (x * 2 ^ k % 18446744073709551616) ||| (x / 2 ^ (64 - k))
theorem rL_lt {x : Nat} (hx : x < 18446744073709551616) (k : Nat) : rL x k < 18446744073709551616 :=
  Nat.or_lt_two_pow (n := 64) (Nat.mod_lt _ (by decide)) (Nat.lt_of_le_of_lt (Nat.div_le_self _ _) hx)
end Go.Proofs.YtibdgkhkhmdihaaGreatDoor


namespace Go.Proofs.YtibdgkhkhmdihaaGreatDoor
open Go.RowKit
theorem rotrb_1 {x r : Nat} (hx : x < 18446744073709551616) (hr : rL x 63 = r) (w : World) :
    Calls Tryz.prog 274 #[.int .u64 (x : Int), .int .i64 (-1)] w fun e w' => e = .returned (.int .u64 (r : Int)) ∧ Below w.heap.size w w' := by
  have h0 : bits .and .u64 18446744073709551615 63 = 63 := by decide
  have hwm := wrap_q64
  have h2 : bits .or .u64 ((x : Int) * 9223372036854775808 % 18446744073709551616) ((x : Int) / 2) = ((rL x 63 : Nat) : Int) := by
    have := or_q64 (a := x * 9223372036854775808 % 18446744073709551616) (b := x / 2) (Nat.mod_lt _ (by decide)) (Nat.lt_of_le_of_lt (Nat.div_le_self _ _) hx)
    rw [show ((x : Int) * 9223372036854775808 % 18446744073709551616) = ((x * 9223372036854775808 % 18446744073709551616 : Nat) : Int) by omega, show ((x : Int) / 2) = ((x / 2 : Nat) : Int) by omega]
    exact this
  rw [hr] at h2
  clear hr
  go_enter Tryz.func274, Tryz.ntmps274
  go_wp2_with fail
  go_ret
  exact ⟨rfl, Below.refl _ _⟩
theorem rotrb_8 {x r : Nat} (hx : x < 18446744073709551616) (hr : rL x 56 = r) (w : World) :
    Calls Tryz.prog 274 #[.int .u64 (x : Int), .int .i64 (-8)] w fun e w' => e = .returned (.int .u64 (r : Int)) ∧ Below w.heap.size w w' := by
  have h0 : bits .and .u64 18446744073709551608 63 = 56 := by decide
  have hwm := wrap_q64
  have h2 : bits .or .u64 ((x : Int) * 72057594037927936 % 18446744073709551616) ((x : Int) / 256) = ((rL x 56 : Nat) : Int) := by
    have := or_q64 (a := x * 72057594037927936 % 18446744073709551616) (b := x / 256) (Nat.mod_lt _ (by decide)) (Nat.lt_of_le_of_lt (Nat.div_le_self _ _) hx)
    rw [show ((x : Int) * 72057594037927936 % 18446744073709551616) = ((x * 72057594037927936 % 18446744073709551616 : Nat) : Int) by omega, show ((x : Int) / 256) = ((x / 256 : Nat) : Int) by omega]
    exact this
  rw [hr] at h2
  clear hr
  go_enter Tryz.func274, Tryz.ntmps274
  go_wp2_with fail
  go_ret
  exact ⟨rfl, Below.refl _ _⟩
theorem rotrb_19 {x r : Nat} (hx : x < 18446744073709551616) (hr : rL x 45 = r) (w : World) :
    Calls Tryz.prog 274 #[.int .u64 (x : Int), .int .i64 (-19)] w fun e w' => e = .returned (.int .u64 (r : Int)) ∧ Below w.heap.size w w' := by
  have h0 : bits .and .u64 18446744073709551597 63 = 45 := by decide
  have hwm := wrap_q64
  have h2 : bits .or .u64 ((x : Int) * 35184372088832 % 18446744073709551616) ((x : Int) / 524288) = ((rL x 45 : Nat) : Int) := by
    have := or_q64 (a := x * 35184372088832 % 18446744073709551616) (b := x / 524288) (Nat.mod_lt _ (by decide)) (Nat.lt_of_le_of_lt (Nat.div_le_self _ _) hx)
    rw [show ((x : Int) * 35184372088832 % 18446744073709551616) = ((x * 35184372088832 % 18446744073709551616 : Nat) : Int) by omega, show ((x : Int) / 524288) = ((x / 524288 : Nat) : Int) by omega]
    exact this
  rw [hr] at h2
  clear hr
  go_enter Tryz.func274, Tryz.ntmps274
  go_wp2_with fail
  go_ret
  exact ⟨rfl, Below.refl _ _⟩
theorem rotrb_61 {x r : Nat} (hx : x < 18446744073709551616) (hr : rL x 3 = r) (w : World) :
    Calls Tryz.prog 274 #[.int .u64 (x : Int), .int .i64 (-61)] w fun e w' => e = .returned (.int .u64 (r : Int)) ∧ Below w.heap.size w w' := by
  have h0 : bits .and .u64 18446744073709551555 63 = 3 := by decide
  have hwm := wrap_q64
  have h2 : bits .or .u64 ((x : Int) * 8 % 18446744073709551616) ((x : Int) / 2305843009213693952) = ((rL x 3 : Nat) : Int) := by
    have := or_q64 (a := x * 8 % 18446744073709551616) (b := x / 2305843009213693952) (Nat.mod_lt _ (by decide)) (Nat.lt_of_le_of_lt (Nat.div_le_self _ _) hx)
    rw [show ((x : Int) * 8 % 18446744073709551616) = ((x * 8 % 18446744073709551616 : Nat) : Int) by omega, show ((x : Int) / 2305843009213693952) = ((x / 2305843009213693952 : Nat) : Int) by omega]
    exact this
  rw [hr] at h2
  clear hr
  go_enter Tryz.func274, Tryz.ntmps274
  go_wp2_with fail
  go_ret
  exact ⟨rfl, Below.refl _ _⟩
theorem rotrb_14 {x r : Nat} (hx : x < 18446744073709551616) (hr : rL x 50 = r) (w : World) :
    Calls Tryz.prog 274 #[.int .u64 (x : Int), .int .i64 (-14)] w fun e w' => e = .returned (.int .u64 (r : Int)) ∧ Below w.heap.size w w' := by
  have h0 : bits .and .u64 18446744073709551602 63 = 50 := by decide
  have hwm := wrap_q64
  have h2 : bits .or .u64 ((x : Int) * 1125899906842624 % 18446744073709551616) ((x : Int) / 16384) = ((rL x 50 : Nat) : Int) := by
    have := or_q64 (a := x * 1125899906842624 % 18446744073709551616) (b := x / 16384) (Nat.mod_lt _ (by decide)) (Nat.lt_of_le_of_lt (Nat.div_le_self _ _) hx)
    rw [show ((x : Int) * 1125899906842624 % 18446744073709551616) = ((x * 1125899906842624 % 18446744073709551616 : Nat) : Int) by omega, show ((x : Int) / 16384) = ((x / 16384 : Nat) : Int) by omega]
    exact this
  rw [hr] at h2
  clear hr
  go_enter Tryz.func274, Tryz.ntmps274
  go_wp2_with fail
  go_ret
  exact ⟨rfl, Below.refl _ _⟩
theorem rotrb_18 {x r : Nat} (hx : x < 18446744073709551616) (hr : rL x 46 = r) (w : World) :
    Calls Tryz.prog 274 #[.int .u64 (x : Int), .int .i64 (-18)] w fun e w' => e = .returned (.int .u64 (r : Int)) ∧ Below w.heap.size w w' := by
  have h0 : bits .and .u64 18446744073709551598 63 = 46 := by decide
  have hwm := wrap_q64
  have h2 : bits .or .u64 ((x : Int) * 70368744177664 % 18446744073709551616) ((x : Int) / 262144) = ((rL x 46 : Nat) : Int) := by
    have := or_q64 (a := x * 70368744177664 % 18446744073709551616) (b := x / 262144) (Nat.mod_lt _ (by decide)) (Nat.lt_of_le_of_lt (Nat.div_le_self _ _) hx)
    rw [show ((x : Int) * 70368744177664 % 18446744073709551616) = ((x * 70368744177664 % 18446744073709551616 : Nat) : Int) by omega, show ((x : Int) / 262144) = ((x / 262144 : Nat) : Int) by omega]
    exact this
  rw [hr] at h2
  clear hr
  go_enter Tryz.func274, Tryz.ntmps274
  go_wp2_with fail
  go_ret
  exact ⟨rfl, Below.refl _ _⟩
theorem rotrb_41 {x r : Nat} (hx : x < 18446744073709551616) (hr : rL x 23 = r) (w : World) :
    Calls Tryz.prog 274 #[.int .u64 (x : Int), .int .i64 (-41)] w fun e w' => e = .returned (.int .u64 (r : Int)) ∧ Below w.heap.size w w' := by
  have h0 : bits .and .u64 18446744073709551575 63 = 23 := by decide
  have hwm := wrap_q64
  have h2 : bits .or .u64 ((x : Int) * 8388608 % 18446744073709551616) ((x : Int) / 2199023255552) = ((rL x 23 : Nat) : Int) := by
    have := or_q64 (a := x * 8388608 % 18446744073709551616) (b := x / 2199023255552) (Nat.mod_lt _ (by decide)) (Nat.lt_of_le_of_lt (Nat.div_le_self _ _) hx)
    rw [show ((x : Int) * 8388608 % 18446744073709551616) = ((x * 8388608 % 18446744073709551616 : Nat) : Int) by omega, show ((x : Int) / 2199023255552) = ((x / 2199023255552 : Nat) : Int) by omega]
    exact this
  rw [hr] at h2
  clear hr
  go_enter Tryz.func274, Tryz.ntmps274
  go_wp2_with fail
  go_ret
  exact ⟨rfl, Below.refl _ _⟩
theorem rotrb_28 {x r : Nat} (hx : x < 18446744073709551616) (hr : rL x 36 = r) (w : World) :
    Calls Tryz.prog 274 #[.int .u64 (x : Int), .int .i64 (-28)] w fun e w' => e = .returned (.int .u64 (r : Int)) ∧ Below w.heap.size w w' := by
  have h0 : bits .and .u64 18446744073709551588 63 = 36 := by decide
  have hwm := wrap_q64
  have h2 : bits .or .u64 ((x : Int) * 68719476736 % 18446744073709551616) ((x : Int) / 268435456) = ((rL x 36 : Nat) : Int) := by
    have := or_q64 (a := x * 68719476736 % 18446744073709551616) (b := x / 268435456) (Nat.mod_lt _ (by decide)) (Nat.lt_of_le_of_lt (Nat.div_le_self _ _) hx)
    rw [show ((x : Int) * 68719476736 % 18446744073709551616) = ((x * 68719476736 % 18446744073709551616 : Nat) : Int) by omega, show ((x : Int) / 268435456) = ((x / 268435456 : Nat) : Int) by omega]
    exact this
  rw [hr] at h2
  clear hr
  go_enter Tryz.func274, Tryz.ntmps274
  go_wp2_with fail
  go_ret
  exact ⟨rfl, Below.refl _ _⟩
theorem rotrb_34 {x r : Nat} (hx : x < 18446744073709551616) (hr : rL x 30 = r) (w : World) :
    Calls Tryz.prog 274 #[.int .u64 (x : Int), .int .i64 (-34)] w fun e w' => e = .returned (.int .u64 (r : Int)) ∧ Below w.heap.size w w' := by
  have h0 : bits .and .u64 18446744073709551582 63 = 30 := by decide
  have hwm := wrap_q64
  have h2 : bits .or .u64 ((x : Int) * 1073741824 % 18446744073709551616) ((x : Int) / 17179869184) = ((rL x 30 : Nat) : Int) := by
    have := or_q64 (a := x * 1073741824 % 18446744073709551616) (b := x / 17179869184) (Nat.mod_lt _ (by decide)) (Nat.lt_of_le_of_lt (Nat.div_le_self _ _) hx)
    rw [show ((x : Int) * 1073741824 % 18446744073709551616) = ((x * 1073741824 % 18446744073709551616 : Nat) : Int) by omega, show ((x : Int) / 17179869184) = ((x / 17179869184 : Nat) : Int) by omega]
    exact this
  rw [hr] at h2
  clear hr
  go_enter Tryz.func274, Tryz.ntmps274
  go_wp2_with fail
  go_ret
  exact ⟨rfl, Below.refl _ _⟩
theorem rotrb_39 {x r : Nat} (hx : x < 18446744073709551616) (hr : rL x 25 = r) (w : World) :
    Calls Tryz.prog 274 #[.int .u64 (x : Int), .int .i64 (-39)] w fun e w' => e = .returned (.int .u64 (r : Int)) ∧ Below w.heap.size w w' := by
  have h0 : bits .and .u64 18446744073709551577 63 = 25 := by decide
  have hwm := wrap_q64
  have h2 : bits .or .u64 ((x : Int) * 33554432 % 18446744073709551616) ((x : Int) / 549755813888) = ((rL x 25 : Nat) : Int) := by
    have := or_q64 (a := x * 33554432 % 18446744073709551616) (b := x / 549755813888) (Nat.mod_lt _ (by decide)) (Nat.lt_of_le_of_lt (Nat.div_le_self _ _) hx)
    rw [show ((x : Int) * 33554432 % 18446744073709551616) = ((x * 33554432 % 18446744073709551616 : Nat) : Int) by omega, show ((x : Int) / 549755813888) = ((x / 549755813888 : Nat) : Int) by omega]
    exact this
  rw [hr] at h2
  clear hr
  go_enter Tryz.func274, Tryz.ntmps274
  go_wp2_with fail
  go_ret
  exact ⟨rfl, Below.refl _ _⟩
end Go.Proofs.YtibdgkhkhmdihaaGreatDoor

