/- The law PolySums: its walk. -/
import Derived.Test.YtfljonglibpgcaaPa
namespace Go.Proofs.Ytfljonglibpgcaa
open Go.RowKit

theorem sl_len {w : World} {v : Value} {L : List UInt8} (h : Sl w v (u8s L)) : ∃ d cap, v = .slice d L.length cap ∧ Sl w (.slice d L.length cap) (u8s L) := by
  obtain ⟨a, cap, rfl, h2⟩ := id h
  rw [u8s_len] at h
  exact ⟨a, cap, by rw [u8s_len], h⟩

set_option maxHeartbeats 4000000 in
set_option maxRecDepth 100000 in
theorem polySums_walk (K : Nat) (d : Option Addr) (cap : Nat) (ls : List (List UInt8)) (w : World) (hK : K < 256 ^ 32) (hs : Sls w (.slice d ls.length cap) ls) :
    Calls Try.prog 3 #[.agg (byts K).toArray, .slice d ls.length cap] w fun e w' => e = .returned (.bool true) ∧ Below w.heap.size w w' := by
  have c1 := Lib.hid (fun w h => psum_any K hK d cap ls w h)
  have c2 := Lib.hid (fun d cap w h => psum_any K hK d cap [ls.flatten] w h)
  rw [show [ls.flatten].flatten = ls.flatten by simp] at c2
  replace hs := Lib.hid hs
  by_cases hbig : bigL ls = true
  · go_enter Try.func3, Try.ntmps3
    go_upto_region 1 with fail
    refine wp_new1 (fun W hsz k2 kb => ?_)
    clear hsz
    replace hs := Lib.hid (hs.out.below kb)
    go_wp2_with fail
    refine (alive10_any _).mono ?_
    rintro e w1 ⟨rfl, hb1⟩
    replace hs := Lib.hid (hs.out.below hb1)
    have kb := bel kb hb1
    clear hb1
    go_wp2_with fail
    have cb := big_any d cap ls w1 hs.out
    rw [hbig] at cb
    refine cb.mono ?_
    clear cb
    rintro e w2 ⟨rfl, hb2⟩
    have kb := bel kb hb2
    clear hb2
    go_wp2_with fail
    go_ret
    exact ⟨rfl, kb⟩
  have hbig : bigL ls = false := by simpa using hbig
  have hfl := bigL_small hbig
  have c3 := Lib.hid (fun d cap w h => rpoly_any K hK d cap ls.flatten (by omega) w h)
  have c4 := Lib.hid (fun w h => join_any d cap ls (by omega) w h)
  have c5 := Lib.hid (fun w h => big_any d cap ls w h)
  rw [hbig] at c5
  obtain ⟨T, hT⟩ : ∃ T, polyT (polyR K) (K / 2 ^ 128) ls.flatten = T := ⟨_, rfl⟩
  rw [hT] at c1 c2 c3
  obtain ⟨L, hL⟩ : ∃ L, ls.flatten = L := ⟨_, rfl⟩
  rw [hL] at c2 c3 c4
  have q := Lib.hid (fun w => eq_tag_same T w)
  clear hK hbig hfl hT hL
  go_enter Try.func3, Try.ntmps3
  go_upto_region 1 with fail
  refine wp_new1 (fun W hsz k2 kb => ?_)
  clear hsz
  replace hs := Lib.hid (hs.out.below kb)
  go_wp2_with fail
  refine (alive10_any _).mono ?_
  rintro e w1 ⟨rfl, hb1⟩
  replace hs := Lib.hid (hs.out.below hb1)
  have k2 := k2.below hb1
  have kb := bel kb hb1
  clear hb1
  go_wp2_with fail
  refine (c5.out w1 hs.out).mono ?_
  rintro e w2 ⟨rfl, hb2⟩
  replace hs := Lib.hid (hs.out.below hb2)
  have k2 := k2.below hb2
  have kb := bel kb hb2
  clear hb2
  go_wp2_with fail
  refine (c4.out w2 hs.out).mono ?_
  rintro e w3 ⟨v3, rfl, hj, hb3⟩
  obtain ⟨dj, cj, rfl, hj⟩ := sl_len hj
  replace hs := Lib.hid (hs.out.below hb3)
  have hj := Lib.hid hj
  have k2 := k2.below hb3
  have kb := bel kb hb3
  clear hb3
  go_wp2_with (refine wpList_load_arr2 rfl _ _ rfl _ rfl (by kernel_rfl) _ (by assumption) (by first | (rw [lims_len]; kernel_rfl) | (rw [el_rep]; kernel_rfl) | (rw [el_len]; kernel_rfl) | (rw [byts_len]; kernel_rfl) | (rw [us_len]; kernel_rfl) | (rw [bytn_len]; kernel_rfl) | (rw [ens_len, digs_len]; kernel_rfl) | kernel_rfl) ?_)
  refine (c3.out dj cj w3 hj.out).mono ?_
  rintro e w4 ⟨rfl, hb4⟩
  replace hs := Lib.hid (hs.out.below hb4)
  replace hj := Lib.hid (hj.out.below hb4)
  have k2 := k2.below hb4
  have kb := bel kb hb4
  clear hb4
  go_upto_region 7 with (refine wpList_store_arr rfl _ _ _ rfl _ _ rfl rfl _ (by first | assumption | exact Arr.new _ _ _) (by first | (rw [lims_len]; kernel_rfl) | (rw [el_rep]; kernel_rfl) | (rw [el_len]; kernel_rfl) | (rw [byts_len]; kernel_rfl) | (rw [us_len]; kernel_rfl) | (rw [bytn_len]; kernel_rfl) | (rw [ens_len, digs_len]; kernel_rfl) | kernel_rfl) (by first | (rw [lims_len, lims_len]) | (rw [el_rep, el_rep]) | (rw [el_rep, el_len]; rfl) | (rw [el_len, el_rep]; rfl) | (rw [el_len, el_len]; rfl) | (rw [byts_len, byts_len]) | (rw [lims_len]; rfl) | (rw [byts_len]; rfl) | (rw [us_len, us_len]; rfl) | (rw [bytn_len, bytn_len]) | (rw [bytn_len]; rfl) | (rw [ens_len, ens_len, digs_len, digs_len]) | rfl) (by first | exact lims_one _ _ | exact el_one _ | exact byts_one _ | exact us_one _ | exact bytn_one _ _ | exact ens_one _ | (intro v hv; simp at hv; rcases hv with rfl | rfl | rfl | rfl <;> rfl)) ?_)
  refine code_new (fun w5 k8 hnew => ?_)
  have hs' := hs.out.below hnew
  have hj' := hj.out.below hnew
  have k2 := k2.below hnew
  have kb := bel kb hnew
  clear hs hj hnew
  refine Tx.start (fun w' => Below (w5).heap.size (w5) w') 9999 14 rfl (by kernel_rfl) ?_
  have hS_1 : Below (w5).heap.size (w5) (World.drew w5) := (Below.refl _ _).drew
  refine Tx.seg (A := ?_) 11 11 (by kernel_rfl) (by exact hS_1) [0, 1, 3] (by kernel_rfl) ?_ ?_
  rotate_left
  · intro w' hB
    have f1 := k2.below hB
    have f2 := k8.below hB
    iterate 3 (first | (refine rd_skip rfl rfl ?_; simp only [Act.put, List.setIfInBounds_toArray, List.set_cons_zero, List.set_cons_succ]) | (refine rd_load_arr rfl rfl _ _ rfl _ rfl (by kernel_rfl) _ (by assumption) (by first | (rw [lims_len]; kernel_rfl) | (rw [el_rep]; kernel_rfl) | (rw [el_len]; kernel_rfl) | (rw [byts_len]; kernel_rfl) | (rw [us_len]; kernel_rfl) | (rw [bytn_len]; kernel_rfl) | (rw [ens_len, digs_len]; kernel_rfl) | kernel_rfl) ?_; simp only [Act.put, List.setIfInBounds_toArray, List.set_cons_zero, List.set_cons_succ]) | (refine rd_take (v := ?_) rfl rfl ?_ ?_; rotate_left; (focus (go_simp; try (with_reducible rfl))); simp only [Act.put, List.setIfInBounds_toArray, List.set_cons_zero, List.set_cons_succ]))
    exact rd_nil
  refine Tx.eff 2 15 rfl (by decide +kernel) (fun K hK => ?_)
  go_simp
  refine (c1.out _ (hs'.below hS_1)).mono ?_
  rintro e w_2 ⟨rfl, hb_2⟩
  have hS_2 := ext_trans hS_1 (Nat.le_refl _) hb_2
  refine hK (fun w' => Below (w5).heap.size (w5) w') _ _ hS_2 (fun _ h => h) ?_
  clear hK K hb_2 hS_1
  try simp only [Act.put, List.setIfInBounds_toArray, List.set_cons_zero, List.set_cons_succ]
  refine Tx.seg (A := ?_) 5 1279 (by kernel_rfl) (by exact hS_2) [4, 5, 6, 7, 10] (by kernel_rfl) ?_ ?_
  rotate_left
  · intro w' hB
    have e1 := q.out w'
    have f1 := k2.below hB
    have f2 := k8.below hB
    iterate 5 (first | (refine rd_skip rfl rfl ?_; simp only [Act.put, List.setIfInBounds_toArray, List.set_cons_zero, List.set_cons_succ]) | (refine rd_load_arr rfl rfl _ _ rfl _ rfl (by kernel_rfl) _ (by assumption) (by first | (rw [lims_len]; kernel_rfl) | (rw [el_rep]; kernel_rfl) | (rw [el_len]; kernel_rfl) | (rw [byts_len]; kernel_rfl) | (rw [us_len]; kernel_rfl) | (rw [bytn_len]; kernel_rfl) | (rw [ens_len, digs_len]; kernel_rfl) | kernel_rfl) ?_; simp only [Act.put, List.setIfInBounds_toArray, List.set_cons_zero, List.set_cons_succ]) | (refine rd_take (v := ?_) rfl rfl ?_ ?_; rotate_left; (focus (go_simp; try (with_reducible rfl))); simp only [Act.put, List.setIfInBounds_toArray, List.set_cons_zero, List.set_cons_succ]))
    exact rd_nil
  refine Tx.eff 8 1535 rfl (by decide +kernel) (fun K hK => ?_)
  go_simp
  refine hK (fun w' => Below (w5).heap.size (w5) w') _ _ (ext_trans hS_2 (Nat.le_refl _) (below_alloc _ _)) (fun _ h => h) ?_
  clear hK K
  try simp only [Act.put, List.setIfInBounds_toArray, List.set_cons_zero, List.set_cons_succ]
  refine Tx.newF (F := fun w' => Sls w' (.slice (some ⟨(w_2).heap.size, 0, none⟩) 1 1) [L]) (w0 := w_2) (Sls.new1 (hj'.below hS_2) _) (fun w1 h => h.below (Below.refl _ _).drew) (by first | exact .inl rfl | exact .inr rfl) (fun w_3 h8 hnew => ?_)
  have hS_3 : Below (w5).heap.size (w5) w_3 := by first | exact hnew | exact ext_trans hS_2 (Nat.le_refl _) hnew
  clear hnew hS_2
  refine Tx.eff 9 2047 rfl (by decide +kernel) (fun K hK => ?_)
  go_simp
  refine (c2.out _ _ _ h8).mono ?_
  rintro e w_4 ⟨rfl, hb_4⟩
  have hS_4 := ext_trans hS_3 (Nat.le_refl _) hb_4
  refine hK (fun w' => Below (w5).heap.size (w5) w') _ _ hS_4 (fun _ h => h) ?_
  clear hK K hb_4 hS_3
  try simp only [Act.put, List.setIfInBounds_toArray, List.set_cons_zero, List.set_cons_succ]
  refine Tx.seg (A := ?_) 0 16383 (by kernel_rfl) (by exact hS_4) [11, 12, 13] (by kernel_rfl) ?_ ?_
  rotate_left
  · intro w' hB
    have e1 := q.out w'
    iterate 3 (first | (refine rd_skip rfl rfl ?_; simp only [Act.put, List.setIfInBounds_toArray, List.set_cons_zero, List.set_cons_succ]) | (refine rd_load_arr rfl rfl _ _ rfl _ rfl (by kernel_rfl) _ (by assumption) (by first | (rw [lims_len]; kernel_rfl) | (rw [el_rep]; kernel_rfl) | (rw [el_len]; kernel_rfl) | (rw [byts_len]; kernel_rfl) | (rw [us_len]; kernel_rfl) | (rw [bytn_len]; kernel_rfl) | (rw [ens_len, digs_len]; kernel_rfl) | kernel_rfl) ?_; simp only [Act.put, List.setIfInBounds_toArray, List.set_cons_zero, List.set_cons_succ]) | (refine rd_take (v := ?_) rfl rfl ?_ ?_; rotate_left; (focus (go_simp; try (with_reducible rfl))); simp only [Act.put, List.setIfInBounds_toArray, List.set_cons_zero, List.set_cons_succ]))
    exact rd_nil
  refine Tx.done (by kernel_rfl) ?_
  have kb := bel kb hS_4
  clear hS_4
  go_wp2_with fail
  go_ret
  exact ⟨rfl, kb⟩

end Go.Proofs.Ytfljonglibpgcaa
