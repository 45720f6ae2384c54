import Derived.Test.YtibdgkhkhmdihaaGreatDoorJa25

namespace Go.Proofs.YtibdgkhkhmdihaaGreatDoor
open Go.RowKit
def dvv (p c : Nat) (dead : Bool) : List Value := [.pointer (some ⟨p, 0, none⟩), .pointer (some ⟨c, 0, none⟩), .bool dead]
/-- A device that has just been opened over a new flash. -/
def DvNew (p q g r s m : Nat) (F : Fl) (w : World) (e : Ending) (w' : World) : Prop := ∃ d c k F', e = .returned (.tuple #[.pointer (some ⟨d, 0, none⟩), .int .i64 0]) ∧ w.heap.size ≤ d ∧ w.heap.size ≤ c ∧ d ≠ c ∧
  F'.dead = false ∧ F'.op = -1 ∧ F'.b = wrB F.b 0 (recL s 1 []) ∧ Arr w' d (dvv p c false) ∧ Arr w' c (coZ k r s (-1)) ∧ Arr w' q (otv (some ⟨p, 0, none⟩) r s 1 (m : Int)) ∧ FlAt w' p g F' ∧ Ch [p, g, q] w w'
set_option maxHeartbeats 4000000 in
set_option maxRecDepth 100000 in
theorem dopen_fresh (p q g r s m : Nat) (F : Fl) (w : World) (ko : Arr w q (otv (some ⟨p, 0, none⟩) r s 0 (m : Int))) (kf : FlAt w p g F) (hqp : q ≠ p) (hqg : q ≠ g) (hlen : 32768 ≤ F.b.length) (hop : F.op = -1) (hd : F.dead = false) (hm0 : 0 < m) (hm : m ≤ 1000000) (hf : Unmarked F) :
    Calls Tryz.prog 79 #[.pointer (some ⟨p, 0, none⟩), .pointer (some ⟨q, 0, none⟩)] w (DvNew p q g r s m F w) := by
  have hpl := kf.lt
  have hql := ko.lt
  obtain ⟨L, hL⟩ : ∃ L, F.b.length / 256 = L := ⟨_, rfl⟩
  have hL64 : (128 : Int) ≤ (L : Int) := by omega
  have cS := Lib.hid (fsize_any p g F w kf)
  rw [hL] at cS
  have cB := Lib.hid (bopen_fresh p q g r s m F w ko kf hqp hqg (by omega) hop hd hm0 hm hf)
  replace hlen := Lib.hid hlen
  clear ko kf hqp hqg hop hd hm0 hm hf hL
  go_enter Tryz.func79, Tryz.ntmps79
  go_wp2_with fail
  refine cS.out.mono ?_
  rintro e w1 ⟨rfl, hw⟩
  obtain rfl : w = w1 := hw.symm
  clear cS
  go_wp2_with fail
  refine cB.out.mono ?_
  rintro e w1 ⟨b, F', rfl, hb0, hFb, hop', hd', kk, hc⟩
  have hlen' : 32768 ≤ F'.b.length := by rw [hFb, wrB_len]; exact hlen.out
  clear cB hlen hL64
  replace hFb := Lib.hid hFb
  replace hop' := Lib.hid hop'
  replace hd' := Lib.hid hd'
  have hcs := hc.size
  replace hc := Lib.hid hc
  have cL := Lib.hid (bload_nil b p q g r s 1 (m : Int) 0 false F' w1 kk)
  have cV := Lib.hid (fun i (hi : i < 2) w' (hb : Below w1.heap.size w1 w') => vnew_any p g i F' w' (kk.fl.below hb) hlen' hi)
  have cR := Lib.hid (fun w' (hb : Below w1.heap.size w1 w') => oroot_any q (some ⟨p, 0, none⟩) r s 1 (m : Int) w' (kk.ot.below hb))
  have cT := Lib.hid (fun w' (hb : Below w1.heap.size w1 w') => osecret_any q (some ⟨p, 0, none⟩) r s 1 (m : Int) w' (kk.ot.below hb))
  replace kk := Lib.hid kk
  clear hlen'
  go_wp2_with fail
  refine cL.out.mono ?_
  rintro e w2 ⟨rfl, hw⟩
  obtain rfl : w1 = w2 := hw.symm
  clear cL
  go_wp2_with fail
  refine (dstate_nil _).mono ?_
  rintro e w2 ⟨rfl, kb⟩
  go_upto_region 9 with (refine wpl_storeG rfl _ _ _ rfl _ stZ rfl rfl _ (Arr.new _ _ _) (by kernel_rfl) (by rfl) stZ_one (fun w4 k6 hg hsz => ?_))
  replace kb := bel kb (below_fresh hg)
  have hw2 : w1.heap.size ≤ w4.heap.size := kb.size
  have h8 := k6.lt
  obtain ⟨g8, hg8⟩ : ∃ g, w2.heap.size = g := ⟨_, rfl⟩
  rw [hg8] at k6 h8 ⊢
  clear hg hsz hg8
  go_upto_region 10 with fail
  have kb2 := below_alloc w4 (.cells #[.pointer (some ⟨q, 0, none⟩), .pointer (some ⟨b, 0, none⟩), .pointer none, .pointer none] 195)
  have k9 : Arr (w4.alloc (.cells #[.pointer (some ⟨q, 0, none⟩), .pointer (some ⟨b, 0, none⟩), .pointer none, .pointer none] 195)) w4.heap.size [.pointer (some ⟨q, 0, none⟩), .pointer (some ⟨b, 0, none⟩), .pointer none, .pointer none] := Arr.new _ _ _
  replace k6 := k6.below kb2
  replace kb := bel kb kb2
  obtain ⟨W, hW⟩ : ∃ W, w4.alloc (.cells #[.pointer (some ⟨q, 0, none⟩), .pointer (some ⟨b, 0, none⟩), .pointer none, .pointer none] 195) = W := ⟨_, rfl⟩
  obtain ⟨g9, hg9⟩ : ∃ g, w4.heap.size = g := ⟨_, rfl⟩
  rw [hW] at k6 k9 kb ⊢
  rw [hg9] at k9 h8 hw2 ⊢
  clear hW hg9 kb2
  go_wp2_with fail
  go_loopw [44] (fun iv wr => ∃ (i : Nat) (xs : List Value), i ≤ 2 ∧ iv = .int .i64 i ∧ xs.length = 4 ∧ Arr wr g9 xs ∧ Arr wr g8 stZ ∧ Below w1.heap.size w1 wr) (fun iv _ => 2 - (intOf iv).toNat)
  case atStart => exact ⟨0, _, by omega, rfl, rfl, k9, k6, kb⟩
  case round =>
  clear k6 k9 kb
  obtain ⟨i, xs, hi, rfl, hxl, k9, k8, kb⟩ := hrel
  have hi0 : (0 : Int) ≤ (i : Int) := by omega
  by_cases hin : i < 2
  · have hi1 : (i : Int) < 2 := by omega
    have cVi := Lib.hid (cV.out i hin)
    go_upto_region 13 with fail
    obtain ⟨wq, rfl⟩ : ∃ wq : World, wq = wr := ⟨_, rfl⟩
    refine Tx.start (fun w' => Below (wq).heap.size (wq) w') 11 12 rfl (by kernel_rfl) ?_
    have hS_1 : Below (wq).heap.size (wq) (World.drew wq) := (Below.refl _ _).drew
    refine Tx.seg2 (A := ?_) 6 783 (by kernel_rfl) (by exact hS_1) [0, 1, 2, 3, 8, 9] (by kernel_rfl) ?_ ?_
    rotate_left
    · intro w' hB
      iterate 6 (first | (refine rd_skip rfl rfl ?_; simp only [Act.put, List.setIfInBounds_toArray, List.set_cons_zero, List.set_cons_succ]) | (refine rd_load_arr rfl rfl _ _ rfl _ rfl (by decide +kernel) _ (by assumption) (by first | (rw [lims_len]; kernel_rfl) | (rw [el_rep]; kernel_rfl) | (rw [el_len]; kernel_rfl) | (rw [byts_len]; kernel_rfl) | (rw [us_len]; kernel_rfl) | (rw [bytn_len]; kernel_rfl) | (rw [ens_len, digs_len]; kernel_rfl) | (rw [ptL_len]; kernel_rfl) | (rw [pcs_len]; kernel_rfl) | kernel_rfl) ?_; simp only [Act.put, List.setIfInBounds_toArray, List.set_cons_zero, List.set_cons_succ]) | (refine rd_take (v := ?_) rfl rfl ?_ ?_; rotate_left; (focus (go_simp; try (with_reducible rfl))); simp only [Act.put, List.setIfInBounds_toArray, List.set_cons_zero, List.set_cons_succ]))
      exact rd_nil
    refine Tx.eff 4 799 rfl (by decide +kernel) (fun K hK => ?_)
    go_simp
    refine (cVi.out _ (bel kb hS_1)).mono ?_
    rintro e w_2 ⟨a, rfl, hb_2⟩
    have hS_2 := ext_trans hS_1 (Nat.le_refl _) hb_2
    refine hK (fun w' => Below (wq).heap.size (wq) w') _ _ hS_2 (fun _ h => h) ?_
    clear hK K hS_1
    try simp only [Act.put, List.setIfInBounds_toArray, List.set_cons_zero, List.set_cons_succ]
    refine Tx.seg2 (A := ?_) 4 831 (by kernel_rfl) (by exact hS_2) [5] (by kernel_rfl) ?_ ?_
    rotate_left
    · intro w' hB
      iterate 1 (first | (refine rd_skip rfl rfl ?_; simp only [Act.put, List.setIfInBounds_toArray, List.set_cons_zero, List.set_cons_succ]) | (refine rd_load_arr rfl rfl _ _ rfl _ rfl (by decide +kernel) _ (by assumption) (by first | (rw [lims_len]; kernel_rfl) | (rw [el_rep]; kernel_rfl) | (rw [el_len]; kernel_rfl) | (rw [byts_len]; kernel_rfl) | (rw [us_len]; kernel_rfl) | (rw [bytn_len]; kernel_rfl) | (rw [ens_len, digs_len]; kernel_rfl) | (rw [ptL_len]; kernel_rfl) | (rw [pcs_len]; kernel_rfl) | kernel_rfl) ?_; simp only [Act.put, List.setIfInBounds_toArray, List.set_cons_zero, List.set_cons_succ]) | (refine rd_take (v := ?_) rfl rfl ?_ ?_; rotate_left; (focus (go_simp; try (with_reducible rfl))); simp only [Act.put, List.setIfInBounds_toArray, List.set_cons_zero, List.set_cons_succ]))
      exact rd_nil
    refine Tx.pure (A := ?_) 3 959 (by kernel_rfl) (by exact hS_2) [7] (by kernel_rfl) ?_ ?_
    rotate_left
    · intro w'
      iterate 1 (first | (refine rd_skip rfl rfl ?_; simp only [Act.put, List.setIfInBounds_toArray, List.set_cons_zero, List.set_cons_succ]) | (refine rd_take (v := ?_) rfl rfl ?_ ?_; rotate_left; (focus (go_simp; try (with_reducible rfl))); simp only [Act.put, List.setIfInBounds_toArray, List.set_cons_zero, List.set_cons_succ]))
      exact rd_nil
    refine Tx.seg2 (A := ?_) 1 2047 (by kernel_rfl) (by exact hS_2) [6, 10] (by kernel_rfl) ?_ ?_
    rotate_left
    · intro w' hB
      iterate 2 (first | (refine rd_skip rfl rfl ?_; simp only [Act.put, List.setIfInBounds_toArray, List.set_cons_zero, List.set_cons_succ]) | (refine rd_load_arr rfl rfl _ _ rfl _ rfl (by decide +kernel) _ (by assumption) (by first | (rw [lims_len]; kernel_rfl) | (rw [el_rep]; kernel_rfl) | (rw [el_len]; kernel_rfl) | (rw [byts_len]; kernel_rfl) | (rw [us_len]; kernel_rfl) | (rw [bytn_len]; kernel_rfl) | (rw [ens_len, digs_len]; kernel_rfl) | (rw [ptL_len]; kernel_rfl) | (rw [pcs_len]; kernel_rfl) | kernel_rfl) ?_; simp only [Act.put, List.setIfInBounds_toArray, List.set_cons_zero, List.set_cons_succ]) | (refine rd_take (v := ?_) rfl rfl ?_ ?_; rotate_left; (focus (go_simp; try (with_reducible rfl))); simp only [Act.put, List.setIfInBounds_toArray, List.set_cons_zero, List.set_cons_succ]))
      exact rd_nil
    have k9 := k9.below hS_2
    have k8 := k8.below hS_2
    replace kb := bel kb hS_2
    obtain ⟨u, hu⟩ : ∃ u, xs[2 + i]? = some u := ⟨xs[2 + i]'(by omega), List.getElem?_eq_getElem (by omega)⟩
    have hcel := k9.cell hu
    have hfro := k9.frozen (2 + i)
    refine Tx.bar 4095 rfl (by decide +kernel) (fun K hK => ?_)
    go_simp
    refine hK (fun _ => True) 9999 _ _ ?_
    clear hK K
    try simp only [Act.put]
    try simp only [List.setIfInBounds_toArray, List.set_cons_zero, List.set_cons_succ]
    refine Tx.done (by kernel_rfl) ?_
    clear hcel hfro
    have kg := gr_cell w_2 g9 (2 + i) (.pointer (some ⟨a, 0, none⟩))
    have k9 : Arr (w_2.setCell ⟨g9, 2 + i, none⟩ (.pointer (some ⟨a, 0, none⟩))) g9 (xs.set (2 + i) (.pointer (some ⟨a, 0, none⟩))) := k9.set (2 + i) (.pointer (some ⟨a, 0, none⟩))
    generalize (w_2.setCell ⟨g9, 2 + i, none⟩ (.pointer (some ⟨a, 0, none⟩))) = w5 at *
    have k8 := k8.kept kg (by omega)
    have kb := below_gr kb kg hw2 kb.size
    go_wp2_with fail
    exact ⟨⟨i + 1, _, by omega, by go_num, by rw [List.length_set]; exact hxl, k9, k8, kb⟩, by simp [intOf]; omega⟩
  · have dj : decide ((i : Int) < 2) = false := decide_eq_false (by omega)
    have cC := Lib.hid (fun w' => cnew_any g9 r s w')
    clear cV hi hi0 hin hxl hb0
    go_upto_region 15 with fail
    obtain ⟨wq, rfl⟩ : ∃ wq : World, wq = wr := ⟨_, rfl⟩
    refine Tx.start (fun w' => Below (wq).heap.size (wq) w') 9999 13 rfl (by kernel_rfl) ?_
    have hS_3 : Below (wq).heap.size (wq) (World.drew wq) := (Below.refl _ _).drew
    refine Tx.seg (A := ?_) 7 175 (by kernel_rfl) (by exact hS_3) [0, 1, 2, 3, 5, 7] (by kernel_rfl) ?_ ?_
    rotate_left
    · intro w' hB
      have y8 := k8.below hB
      iterate 6 (first | (refine rd_skip rfl rfl ?_; simp only [Act.put, List.setIfInBounds_toArray, List.set_cons_zero, List.set_cons_succ]) | (refine rd_load_arr rfl rfl _ _ rfl _ rfl (by decide +kernel) _ (by assumption) (by first | (rw [lims_len]; kernel_rfl) | (rw [el_rep]; kernel_rfl) | (rw [el_len]; kernel_rfl) | (rw [byts_len]; kernel_rfl) | (rw [us_len]; kernel_rfl) | (rw [bytn_len]; kernel_rfl) | (rw [ens_len, digs_len]; kernel_rfl) | (rw [ptL_len]; kernel_rfl) | (rw [pcs_len]; kernel_rfl) | kernel_rfl) ?_; simp only [Act.put, List.setIfInBounds_toArray, List.set_cons_zero, List.set_cons_succ]) | (refine rd_take (v := ?_) rfl rfl ?_ ?_; rotate_left; (focus (go_simp; try (with_reducible rfl))); simp only [Act.put, List.setIfInBounds_toArray, List.set_cons_zero, List.set_cons_succ]))
      exact rd_nil
    refine Tx.eff 4 191 rfl (by decide +kernel) (fun K hK => ?_)
    go_simp
    refine (cR.out _ (bel kb hS_3)).mono ?_
    rintro e w_4 ⟨rfl, hb_4⟩
    have hS_4 := ext_trans hS_3 (Nat.le_refl _) hb_4
    refine hK (fun w' => Below (wq).heap.size (wq) w') _ _ hS_4 (fun _ h => h) ?_
    clear hK K hb_4 hS_3
    try simp only [Act.put, List.setIfInBounds_toArray, List.set_cons_zero, List.set_cons_succ]
    refine Tx.eff 6 255 rfl (by decide +kernel) (fun K hK => ?_)
    go_simp
    refine (cT.out _ (bel kb hS_4)).mono ?_
    rintro e w_5 ⟨rfl, hb_5⟩
    have hS_5 := ext_trans hS_4 (Nat.le_refl _) hb_5
    refine hK (fun w' => Below (wq).heap.size (wq) w') _ _ hS_5 (fun _ h => h) ?_
    clear hK K hb_5 hS_4
    try simp only [Act.put, List.setIfInBounds_toArray, List.set_cons_zero, List.set_cons_succ]
    have hs5 := (hS_5).size
    have hsq := kb.size
    refine Tx.eff 8 511 rfl (by decide +kernel) (fun K hK => ?_)
    go_simp
    refine (cC.out _).mono ?_
    rintro e w_6 ⟨c, rfl, hcg, kc, hb_6⟩
    have hS_6 := ext_trans hS_5 (Nat.le_refl _) hb_6
    refine hK (fun w' => Below (wq).heap.size (wq) w') _ _ hS_6 (fun _ h => h) ?_
    clear hK K hS_5
    try simp only [Act.put, List.setIfInBounds_toArray, List.set_cons_zero, List.set_cons_succ]
    refine Tx.seg (A := ?_) 3 1023 (by kernel_rfl) (by exact hS_6) [9] (by kernel_rfl) ?_ ?_
    rotate_left
    · intro w' hB
      iterate 1 (first | (refine rd_skip rfl rfl ?_; simp only [Act.put, List.setIfInBounds_toArray, List.set_cons_zero, List.set_cons_succ]) | (refine rd_load_arr rfl rfl _ _ rfl _ rfl (by decide +kernel) _ (by assumption) (by first | (rw [lims_len]; kernel_rfl) | (rw [el_rep]; kernel_rfl) | (rw [el_len]; kernel_rfl) | (rw [byts_len]; kernel_rfl) | (rw [us_len]; kernel_rfl) | (rw [bytn_len]; kernel_rfl) | (rw [ens_len, digs_len]; kernel_rfl) | (rw [ptL_len]; kernel_rfl) | (rw [pcs_len]; kernel_rfl) | kernel_rfl) ?_; simp only [Act.put, List.setIfInBounds_toArray, List.set_cons_zero, List.set_cons_succ]) | (refine rd_take (v := ?_) rfl rfl ?_ ?_; rotate_left; (focus (go_simp; try (with_reducible rfl))); simp only [Act.put, List.setIfInBounds_toArray, List.set_cons_zero, List.set_cons_succ]))
      exact rd_nil
    refine Tx.eff 10 2047 rfl (by decide +kernel) (fun K hK => ?_)
    go_simp
    have kd : Arr (w_6.alloc (.cells #[.pointer (some ⟨p, 0, none⟩), .pointer (some ⟨c, 0, none⟩), .bool false] 151)) w_6.heap.size (dvv p c false) := Arr.new _ _ _
    have kb6 := below_alloc w_6 (.cells #[.pointer (some ⟨p, 0, none⟩), .pointer (some ⟨c, 0, none⟩), .bool false] 151)
    have hlt6 := kc.lt
    replace kc := kc.below kb6
    have hS7 := bel hS_6 kb6
    have hw6 := (hS_6).size
    refine hK (fun w' => Below wq.heap.size wq w') _ _ hS7 (fun _ h => h) ?_
    clear hK K
    try simp only [Act.put, List.setIfInBounds_toArray, List.set_cons_zero, List.set_cons_succ]
    refine Tx.seg (A := ?_) 0 8191 (by kernel_rfl) (by exact hS7) [11, 12] (by kernel_rfl) ?_ ?_
    rotate_left
    · intro w' hB
      iterate 2 (first | (refine rd_skip rfl rfl ?_; simp only [Act.put, List.setIfInBounds_toArray, List.set_cons_zero, List.set_cons_succ]) | (refine rd_load_arr rfl rfl _ _ rfl _ rfl (by decide +kernel) _ (by assumption) (by first | (rw [lims_len]; kernel_rfl) | (rw [el_rep]; kernel_rfl) | (rw [el_len]; kernel_rfl) | (rw [byts_len]; kernel_rfl) | (rw [us_len]; kernel_rfl) | (rw [bytn_len]; kernel_rfl) | (rw [ens_len, digs_len]; kernel_rfl) | (rw [ptL_len]; kernel_rfl) | (rw [pcs_len]; kernel_rfl) | kernel_rfl) ?_; simp only [Act.put, List.setIfInBounds_toArray, List.set_cons_zero, List.set_cons_succ]) | (refine rd_take (v := ?_) rfl rfl ?_ ?_; rotate_left; (focus (go_simp; try (with_reducible rfl))); simp only [Act.put, List.setIfInBounds_toArray, List.set_cons_zero, List.set_cons_succ]))
      exact rd_nil
    refine Tx.done (by kernel_rfl) ?_
    have kb := bel kb hS7
    have hcg2 : w.heap.size ≤ c := by omega
    have hd2 : w.heap.size ≤ w_6.heap.size := by omega
    obtain ⟨W7, hW7⟩ : ∃ W, w_6.alloc (.cells #[.pointer (some ⟨p, 0, none⟩), .pointer (some ⟨c, 0, none⟩), .bool false] 151) = W := ⟨_, rfl⟩
    rw [hW7] at kb kc kd ⊢
    go_wp2_with fail
    go_ret2
    exact ⟨_, c, g9, F', rfl, hd2, hcg2, by omega, hd'.out, hop'.out, hFb.out, kd, kc, kk.out.ot.below kb, kk.out.fl.below kb, hc.out.trans (Ch.of_below kb)⟩
end Go.Proofs.YtibdgkhkhmdihaaGreatDoor


namespace Go.Proofs.YtibdgkhkhmdihaaGreatDoor
open Go.RowKit
set_option maxHeartbeats 1000000 in
theorem ddo4 (d p g c k r s : Nat) (F : Fl) (bv : Value) (n : Int) (w : World) (kd : Arr w d (dvv p c false)) (k0 : Arr w c (coZ k r s (-1))) (kf : FlAt w p g F) (hd : F.dead = false) (hdc : d ≠ c) :
    Calls Tryz.prog 87 #[.pointer (some ⟨d, 0, none⟩), .agg #[.int .i64 4, bv, .int .i64 n]] w fun e w' => e = .returned (.tuple #[.slice none 0 0, .int .i64 18]) ∧ Arr w' c (coZ k r s (-1)) ∧ Ch [c] w w' := by
  have cD := Lib.hid (fun w' (hb : Below w.heap.size w w') => fdead_any p g F w' (kf.below hb))
  rw [hd] at cD
  have cC := Lib.hid (fun w' (hb : Below w.heap.size w w') => do4 c k r s (-1) bv n w' (k0.below hb))
  replace kd := Lib.hid kd
  have hcl := k0.lt
  clear k0 kf hd
  go_enter Tryz.func87, Tryz.ntmps87
  go_upto_region 1 with fail
  have kb := below_alloc w (.cells #[.int .i64 4, bv, .int .i64 n] 90)
  have k1 : Arr (w.alloc (.cells #[.int .i64 4, bv, .int .i64 n] 90)) w.heap.size [.int .i64 4, bv, .int .i64 n] := Arr.new _ _ _
  obtain ⟨W, hW⟩ : ∃ W, w.alloc (.cells #[.int .i64 4, bv, .int .i64 n] 90) = W := ⟨_, rfl⟩
  obtain ⟨g1, hg⟩ : ∃ g, w.heap.size = g := ⟨_, rfl⟩
  rw [hW] at kb k1 ⊢
  rw [hg] at k1 ⊢
  have hg1 : g1 ≠ c := by have := hcl; omega
  clear hW hg
  have kd1 := kd.out.below kb
  have x0 := kd1.cell (j := 0) rfl
  have x2 := kd1.cell (j := 2) rfl
  go_wp2_with fail
  refine (cD.out _ kb).mono ?_
  rintro e w1 ⟨rfl, hw⟩
  obtain rfl : W = w1 := hw.symm
  clear cD x0 x2
  go_upto_region 3 with fail
  refine Tx.start (fun w' => Ch [c] W w') 9999 11 rfl (by kernel_rfl) ?_
  have hS0 : Ch [c] W W.drew := Ch.of_below (Below.refl _ _).drew
  refine Tx.seg (A := ?_) 6 31 (by kernel_rfl) (by exact hS0) [0, 1, 2, 3, 4] (by kernel_rfl) ?_ ?_
  rotate_left
  · intro w' hB
    have x1 := (kd1.ch hB (by simpa using hdc)).cell (j := 1) rfl
    have y1 := k1.ch hB (by simpa using hg1)
    iterate 5 (first | (refine rd_skip rfl rfl ?_; simp only [Act.put, List.setIfInBounds_toArray, List.set_cons_zero, List.set_cons_succ]) | (refine rd_load_arr rfl rfl _ _ rfl _ rfl (by decide +kernel) _ (by assumption) (by first | (rw [lims_len]; kernel_rfl) | (rw [el_rep]; kernel_rfl) | (rw [el_len]; kernel_rfl) | (rw [byts_len]; kernel_rfl) | (rw [us_len]; kernel_rfl) | (rw [bytn_len]; kernel_rfl) | (rw [ens_len, digs_len]; kernel_rfl) | (rw [ptL_len]; kernel_rfl) | (rw [pcs_len]; kernel_rfl) | kernel_rfl) ?_; simp only [Act.put, List.setIfInBounds_toArray, List.set_cons_zero, List.set_cons_succ]) | (refine rd_take (v := ?_) rfl rfl ?_ ?_; rotate_left; (focus (go_simp; try (with_reducible rfl))); simp only [Act.put, List.setIfInBounds_toArray, List.set_cons_zero, List.set_cons_succ]))
    exact rd_nil
  refine Tx.eff 5 63 rfl (by decide +kernel) (fun K hK => ?_)
  go_simp
  refine (cC.out _ kb.drew).mono ?_
  rintro e w2 ⟨rfl, k2, hc⟩
  have hS1 : Ch [c] W w2 := hS0.trans hc
  refine hK (fun w' => Ch [c] W w') _ _ hS1 (fun _ h => h) ?_
  clear hK K hS0
  try simp only [Act.put, List.setIfInBounds_toArray, List.set_cons_zero, List.set_cons_succ]
  refine Tx.seg (A := ?_) 0 2047 (by kernel_rfl) (by exact hS1) [6, 7, 8, 9, 10] (by kernel_rfl) ?_ ?_
  rotate_left
  · intro w' hB
    iterate 5 (first | (refine rd_skip rfl rfl ?_; simp only [Act.put, List.setIfInBounds_toArray, List.set_cons_zero, List.set_cons_succ]) | (refine rd_load_arr rfl rfl _ _ rfl _ rfl (by decide +kernel) _ (by assumption) (by first | (rw [lims_len]; kernel_rfl) | (rw [el_rep]; kernel_rfl) | (rw [el_len]; kernel_rfl) | (rw [byts_len]; kernel_rfl) | (rw [us_len]; kernel_rfl) | (rw [bytn_len]; kernel_rfl) | (rw [ens_len, digs_len]; kernel_rfl) | (rw [ptL_len]; kernel_rfl) | (rw [pcs_len]; kernel_rfl) | kernel_rfl) ?_; simp only [Act.put, List.setIfInBounds_toArray, List.set_cons_zero, List.set_cons_succ]) | (refine rd_take (v := ?_) rfl rfl ?_ ?_; rotate_left; (focus (go_simp; try (with_reducible rfl))); simp only [Act.put, List.setIfInBounds_toArray, List.set_cons_zero, List.set_cons_succ]))
    exact rd_nil
  refine Tx.done (by kernel_rfl) ?_
  have hq := (Ch.of_below (M := [c]) kb).trans hS1
  clear hS1 cC kb hc
  go_wp2_with fail
  go_ret2
  exact ⟨rfl, k2, hq⟩
end Go.Proofs.YtibdgkhkhmdihaaGreatDoor


namespace Go.Proofs.YtibdgkhkhmdihaaGreatDoor
open Go.RowKit
theorem unmarked_new (n : Nat) (hn : 64 ≤ n) : Unmarked (Fl.new n) := by
  intro k hk
  show ((List.replicate (n * 256) (255 : UInt8)).drop (8192 * k)).take 4 = _
  rw [List.drop_replicate, List.take_replicate, show min 4 (n * 256 - 8192 * k) = 4 by omega]
  rfl
end Go.Proofs.YtibdgkhkhmdihaaGreatDoor

