/- slots: the reference's Target, Put, Done, Try, Confirm. -/
import Derived.Test.YtkipejhjpfakpaaSt6
namespace Go.Proofs.Ytkipejhjpfakpaa
open Go.RowKit

/-- The slot that is not the confirmed one. -/
noncomputable def tgtS (S : Stt) : Int := if mayB S = true then tgt S.act else -1

theorem refTarget_any (S : Stt) (v : Sv) (w : World) (h : StOk w S v) : Calls Try.prog 36 #[.agg (S.cs v).toArray] w fun e w' => e = .returned (.int .i64 (tgtS S)) ∧ Below w.heap.size w w' := by
  have ho := Lib.hid h
  clear h
  go_enter Try.func36, Try.ntmps36
  go_upto_region 1 with fail
  refine wp_new1 (fun W hsz k1 kb => ?_)
  have k1 : Arr W w.heap.size (S.cs v) := k1
  clear hsz
  go_wp2_with (first | (refine wpList_load_arr2 rfl _ _ rfl _ rfl (by decide +kernel) _ (by assumption) (by first | (rw [lims_len]; kernel_rfl) | (rw [el_rep]; kernel_rfl) | (rw [el_len]; kernel_rfl) | (rw [byts_len]; kernel_rfl) | (rw [us_len]; kernel_rfl) | (rw [bytn_len]; kernel_rfl) | (rw [ens_len, digs_len]; kernel_rfl) | kernel_rfl) ?_) | fail)
  refine (mayStateb_any S v _ (ho.out.below kb)).mono ?_
  rintro e w1 ⟨he, hb⟩
  have x8 := (k1.below hb).cell (j := 8) rfl
  have kb := bel kb hb
  clear hb k1
  obtain ⟨m, hm⟩ : ∃ m, mayB S = m := ⟨_, rfl⟩
  cases m with
  | false =>
    have ht := Lib.hid (show tgtS S = -1 by unfold tgtS; rw [hm]; rfl)
    rw [hm] at he
    subst he
    clear hm
    go_wp2_with fail
    go_ret
    exact ⟨by rw [ht.out] <;> rfl, kb⟩
  | true =>
    have ht := Lib.hid (show tgtS S = tgt S.act by unfold tgtS; rw [hm]; rfl)
    rw [hm] at he
    subst he
    clear hm
    by_cases ha : S.act = 0
    · have ht2 := Lib.hid (show tgt S.act = 1 from if_pos ha)
      go_wp2_with fail
      go_ret
      exact ⟨by rw [ht.out, ht2.out] <;> rfl, kb⟩
    · have ht2 := Lib.hid (show tgt S.act = 0 from if_neg ha)
      go_wp2_with fail
      go_ret
      exact ⟨by rw [ht.out, ht2.out] <;> rfl, kb⟩
theorem refTargetb_any (S : Stt) (v : Sv) (w : World) (h : StOk w S v) (hm : mayB S = true) : Calls Try.prog 36 #[.agg (S.cs v).toArray] w fun e w' => e = .returned (.int .i64 (tgt S.act)) ∧ Below w.heap.size w w' :=
  (refTarget_any S v w h).mono fun e w' h => ⟨by rw [h.1]; unfold tgtS; rw [hm]; rfl, h.2⟩

theorem target2_any (S : Stt) (v : Sv) (w : World) (h : StOk w S v) : Calls Try.prog 14 #[.agg (S.cs v).toArray] w fun e w' => e = .returned (.int .i64 (tgtS S)) ∧ Below w.heap.size w w' := by
  have ho := Lib.hid h
  clear h
  go_enter Try.func14, Try.ntmps14
  go_upto_region 1 with fail
  refine wp_new1 (fun W hsz k1 kb => ?_)
  have k1 : Arr W w.heap.size (S.cs v) := k1
  clear hsz
  go_wp2_with (first | (refine wpList_load_arr2 rfl _ _ rfl _ rfl (by decide +kernel) _ (by assumption) (by first | (rw [lims_len]; kernel_rfl) | (rw [el_rep]; kernel_rfl) | (rw [el_len]; kernel_rfl) | (rw [byts_len]; kernel_rfl) | (rw [us_len]; kernel_rfl) | (rw [bytn_len]; kernel_rfl) | (rw [ens_len, digs_len]; kernel_rfl) | kernel_rfl) ?_) | fail)
  refine (mayb_any S v _ (ho.out.below kb)).mono ?_
  rintro e w1 ⟨he, hb⟩
  have k1 := k1.below hb
  have kb := bel kb hb
  clear hb
  obtain ⟨m, hm⟩ : ∃ m, mayB S = m := ⟨_, rfl⟩
  cases m with
  | false =>
    have ht := Lib.hid (show tgtS S = -1 by unfold tgtS; rw [hm]; rfl)
    rw [hm] at he
    subst he
    clear hm
    go_wp2_with fail
    go_ret
    exact ⟨by rw [ht.out] <;> rfl, kb⟩
  | true =>
    have ht := Lib.hid (show tgtS S = tgt S.act by unfold tgtS; rw [hm]; rfl)
    rw [hm] at he
    subst he
    clear hm
    go_wp2_with (first | (refine wpList_load_arr2 rfl _ _ rfl _ rfl (by decide +kernel) _ (by assumption) (by first | (rw [lims_len]; kernel_rfl) | (rw [el_rep]; kernel_rfl) | (rw [el_len]; kernel_rfl) | (rw [byts_len]; kernel_rfl) | (rw [us_len]; kernel_rfl) | (rw [bytn_len]; kernel_rfl) | (rw [ens_len, digs_len]; kernel_rfl) | kernel_rfl) ?_) | fail)
    refine (target_any S v _).mono ?_
    rintro e w2 ⟨rfl, hb⟩
    have kb := bel kb hb
    clear hb
    go_wp2_with fail
    go_ret
    exact ⟨by rw [ht.out] <;> rfl, kb⟩

theorem mayP_d0 {S : Stt} (h : mayP S) (h0 : S.m0.length = 0) : S.d0 = false := by
  have := h.s0
  rw [slotB_0 h0] at this
  simp at this; exact this.1
theorem mayP_d1 {S : Stt} (h : mayP S) (h0 : S.m1.length = 0) : S.d1 = false := by
  have := h.s1
  rw [slotB_0 h0] at this
  simp at this; exact this.1

set_option maxHeartbeats 2000000 in
set_option maxRecDepth 100000 in
theorem refDone_any (S : Stt) (v : Sv) (w : World) (h : StOk w S v) : Calls Try.prog 33 #[.agg (S.cs v).toArray] w (RetSt (doneS S) w) := by
  have ho := Lib.hid h
  clear h
  go_enter Try.func33, Try.ntmps33
  go_upto_region 1 with fail
  refine wp_new2 (fun W hsz k1 k2 kb => ?_)
  have k1 : Arr W w.heap.size (S.cs v) := k1
  obtain ⟨G, hG⟩ : ∃ G, w.heap.size = G := ⟨_, rfl⟩
  rw [hG] at k1 k2 hsz ⊢
  replace hG := Lib.hid hG
  go_wp2_with (first | (refine wpList_load_arr2 rfl _ _ rfl _ rfl (by decide +kernel) _ (by assumption) (by first | (rw [lims_len]; kernel_rfl) | (rw [el_rep]; kernel_rfl) | (rw [el_len]; kernel_rfl) | (rw [byts_len]; kernel_rfl) | (rw [us_len]; kernel_rfl) | (rw [bytn_len]; kernel_rfl) | (rw [ens_len, digs_len]; kernel_rfl) | kernel_rfl) ?_) | fail)
  refine (mayStateb_any S v _ (ho.out.below kb)).mono ?_
  rintro e w1 ⟨he, hb⟩
  have k1 := k1.below hb
  have k2 := k2.below hb
  have kb := bel kb hb
  have hs1 : G + 2 ≤ w1.heap.size := by have := hb.size; omega
  clear hb hsz
  cases hm : mayB S with
  | false =>
    rw [hm] at he
    subst he
    have hch := Lib.hid (show doneS S = newS by unfold doneS chg; rw [hm]; rfl)
    clear hm
    have hk2 := Lib.hid k2
    clear k2
    go_wp2_with fail
    refine (newState_any _).mono ?_
    rintro e w2 ⟨v2, rfl, ho2, hb⟩
    have k2 := hk2.out.below hb
    have kb := bel kb hb
    have hone := Lib.hid (StOk.one ho2.ok)
    clear hb hk2
    go_wp2_with (first | (refine wpList_load_arr2 rfl _ _ rfl _ rfl (by decide +kernel) _ (by assumption) (by first | (rw [lims_len]; kernel_rfl) | (rw [el_rep]; kernel_rfl) | (rw [el_len]; kernel_rfl) | (rw [byts_len]; kernel_rfl) | (rw [us_len]; kernel_rfl) | (rw [bytn_len]; kernel_rfl) | (rw [ens_len, digs_len]; kernel_rfl) | kernel_rfl) ?_) | (refine wpl_storeG rfl _ _ _ rfl _ _ rfl rfl _ k2 (by kernel_rfl) rfl hone.out (fun W k2 hg hsz => ?_)))
    have ho3 := ho2.grown hg (by omega)
    have kb3 := below_gr kb hg (by rw [hG.out]; omega) kb.size
    exact bodyPost_ret (results_arr2 Try.results33 _ _ _ rfl (by kernel_rfl) _ (by first | assumption | exact Arr.setRow (by assumption) _) (by first | (rw [lims_len]; kernel_rfl) | (rw [el_rep]; kernel_rfl) | (rw [el_len]; kernel_rfl) | (rw [byts_len]; kernel_rfl) | (rw [us_len]; kernel_rfl) | (rw [bytn_len]; kernel_rfl) | (rw [ens_len, digs_len]; kernel_rfl) | kernel_rfl)) rfl (by rw [hch.out]; exact ⟨_, rfl, ho3.mono (show w.heap.size ≤ w1.heap.size by rw [hG.out]; omega), kb3⟩)
  | true =>
    rw [hm] at he
    subst he
    have hch := Lib.hid (show doneS S = doneC S by unfold doneS chg; rw [hm]; rfl)
    have hmp := Lib.hid ((mayB_iff S).1 hm)
    replace hm := Lib.hid hm
    have hk2 := Lib.hid k2
    clear k2
    go_wp2_with (first | (refine wpList_load_arr2 rfl _ _ rfl _ rfl (by decide +kernel) _ (by assumption) (by first | (rw [lims_len]; kernel_rfl) | (rw [el_rep]; kernel_rfl) | (rw [el_len]; kernel_rfl) | (rw [byts_len]; kernel_rfl) | (rw [us_len]; kernel_rfl) | (rw [bytn_len]; kernel_rfl) | (rw [ens_len, digs_len]; kernel_rfl) | kernel_rfl) ?_) | fail)
    refine (copyState_any S v _ (ho.out.below kb) (mayP_fit hmp.out)).mono ?_
    rintro e w2 ⟨v2, rfl, ho2, hb⟩
    have hone := Lib.hid (StOk.one ho2.ok)
    have hb2 := hb.size
    have k2 := Lib.hid (hk2.out.below hb)
    have k1 := k1.below hb
    have kb := Lib.hid (bel kb hb)
    have ho2 := Lib.hid ho2
    clear hb hk2
    go_upto_region 4 with (first | (refine wpl_storeG rfl _ _ _ rfl _ _ rfl rfl _ k1 (by kernel_rfl) rfl hone.out (fun W3 k1 hg hsz => ?_)))
    have ho2 : Hid (StOwn (G + 2) W3 S v2) := Lib.hid (StOwn.mono (ho2.out.grown hg (by omega)) hs1)
    have k2 := Lib.hid (k2.out.kept hg (by omega))
    have kb := Lib.hid (below_gr kb.out hg (by rw [hG.out]; omega) kb.out.size)
    have hs3 : G + 2 ≤ W3.heap.size := by omega
    clear hg hsz hb2 hs1
    go_wp2_with (first | (refine wpList_load_arr2 rfl _ _ rfl _ rfl (by decide +kernel) _ (by assumption) (by first | (rw [lims_len]; kernel_rfl) | (rw [el_rep]; kernel_rfl) | (rw [el_len]; kernel_rfl) | (rw [byts_len]; kernel_rfl) | (rw [us_len]; kernel_rfl) | (rw [bytn_len]; kernel_rfl) | (rw [ens_len, digs_len]; kernel_rfl) | kernel_rfl) ?_) | fail)
    refine (refTargetb_any S v2 _ ho2.out.ok hm.out).mono ?_
    rintro e w4 ⟨he, hb⟩
    have k1 := k1.below hb
    have k2 := Lib.hid (k2.out.below hb)
    have kb := Lib.hid (bel kb.out hb)
    have ho2 := Lib.hid (ho2.out.below hb)
    have hs4 : G + 2 ≤ w4.heap.size := by have := hb.size; omega
    clear hb hs3
    by_cases ha : S.act = 0
    · rw [show tgt S.act = 1 from if_pos ha] at he
      subst he
      have hdc := Lib.hid (show doneC S = { S with d1 := decide (0 < S.m1.length) } from if_pos ha)
      clear ha
      have x2 := k1.cell (j := 5) rfl
      obtain ⟨am, cm, hv⟩ := own_shape ho2.out.m1
      rw [hv] at x2
      replace hv := Lib.hid hv
      by_cases hl : S.m1.length = 0
      · have iw : ¬ (0 : Int) < (S.m1.length : Int) := by omega
        have hd := Lib.hid (mayP_d1 hmp.out hl)
        have hq : Hid (doneS S = S) := Lib.hid (by rw [hch.out, hdc.out, hl]; obtain ⟨f, l, m0, d0, t0, m1, d1, t1, a⟩ := S; have := hd.out; simp only at this ⊢; rw [this]; rfl)
        go_upto_region 7 with fail
        clear x2 iw
        have hone := Lib.hid (StOk.one (S := S) (v := v2) (ho2.out.same (S' := S) rfl rfl rfl).ok)
        replace k2 := k2.out
        go_wp2_with (first | (refine wpList_load_arr2 rfl _ _ rfl _ rfl (by decide +kernel) _ (by assumption) (by first | (rw [lims_len]; kernel_rfl) | (rw [el_rep]; kernel_rfl) | (rw [el_len]; kernel_rfl) | (rw [byts_len]; kernel_rfl) | (rw [us_len]; kernel_rfl) | (rw [bytn_len]; kernel_rfl) | (rw [ens_len, digs_len]; kernel_rfl) | kernel_rfl) ?_) | (refine wpl_storeG rfl _ _ _ rfl _ _ rfl rfl _ k2 (by kernel_rfl) rfl hone.out (fun W6 k2 hg hsz => ?_)))
        have ho6 := (ho2.out.same (S' := S) rfl rfl rfl).grown hg (by omega)
        have kb6 := below_gr kb.out hg (by rw [hG.out]; omega) kb.out.size
        exact bodyPost_ret (results_arr2 Try.results33 _ _ _ rfl (by kernel_rfl) _ (by first | assumption | exact Arr.setRow (by assumption) _) (by first | (rw [lims_len]; kernel_rfl) | (rw [el_rep]; kernel_rfl) | (rw [el_len]; kernel_rfl) | (rw [byts_len]; kernel_rfl) | (rw [us_len]; kernel_rfl) | (rw [bytn_len]; kernel_rfl) | (rw [ens_len, digs_len]; kernel_rfl) | kernel_rfl)) rfl (by rw [hq.out]; exact ⟨_, rfl, ho6.mono (show w.heap.size ≤ G + 2 by rw [hG.out]; omega), kb6⟩)
      · have iw : (0 : Int) < (S.m1.length : Int) := by omega
        have hq : Hid (doneS S = { S with d1 := true }) := Lib.hid (by rw [hch.out, hdc.out]; rw [show decide (0 < S.m1.length) = true by simp; omega])
        have x3 := k1.cell (j := 6) rfl
        have f3 := k1.frozen 6
        go_upto_region 7 with fail
        refine code_cellG k1 (fun W5 k1 hg hsz5 => ?_)
        rw [cs_d1] at k1
        have ho2 := Lib.hid (ho2.out.grown hg (by omega))
        have k2 := Lib.hid (k2.out.kept hg (by omega))
        have kb := Lib.hid (below_gr kb.out hg (by rw [hG.out]; omega) kb.out.size)
        clear hg x2 x3 f3 iw
        have hone := Lib.hid (StOk.one (S := { S with d1 := true }) (v := v2) (ho2.out.same (S' := { S with d1 := true }) rfl rfl rfl).ok)
        replace k2 := k2.out
        go_wp2_with (first | (refine wpList_load_arr2 rfl _ _ rfl _ rfl (by decide +kernel) _ (by assumption) (by first | (rw [lims_len]; kernel_rfl) | (rw [el_rep]; kernel_rfl) | (rw [el_len]; kernel_rfl) | (rw [byts_len]; kernel_rfl) | (rw [us_len]; kernel_rfl) | (rw [bytn_len]; kernel_rfl) | (rw [ens_len, digs_len]; kernel_rfl) | kernel_rfl) ?_) | (refine wpl_storeG rfl _ _ _ rfl _ _ rfl rfl _ k2 (by kernel_rfl) rfl hone.out (fun W6 k2 hg hsz => ?_)))
        have ho6 := (ho2.out.same (S' := { S with d1 := true }) rfl rfl rfl).grown hg (by omega)
        have kb6 := below_gr kb.out hg (by rw [hG.out]; omega) kb.out.size
        exact bodyPost_ret (results_arr2 Try.results33 _ _ _ rfl (by kernel_rfl) _ (by first | assumption | exact Arr.setRow (by assumption) _) (by first | (rw [lims_len]; kernel_rfl) | (rw [el_rep]; kernel_rfl) | (rw [el_len]; kernel_rfl) | (rw [byts_len]; kernel_rfl) | (rw [us_len]; kernel_rfl) | (rw [bytn_len]; kernel_rfl) | (rw [ens_len, digs_len]; kernel_rfl) | kernel_rfl)) rfl (by rw [hq.out]; exact ⟨_, rfl, ho6.mono (show w.heap.size ≤ G + 2 by rw [hG.out]; omega), kb6⟩)
    · rw [show tgt S.act = 0 from if_neg ha] at he
      subst he
      have hdc := Lib.hid (show doneC S = { S with d0 := decide (0 < S.m0.length) } from if_neg ha)
      clear ha
      have x2 := k1.cell (j := 2) rfl
      obtain ⟨am, cm, hv⟩ := own_shape ho2.out.m0
      rw [hv] at x2
      replace hv := Lib.hid hv
      by_cases hl : S.m0.length = 0
      · have iw : ¬ (0 : Int) < (S.m0.length : Int) := by omega
        have hd := Lib.hid (mayP_d0 hmp.out hl)
        have hq : Hid (doneS S = S) := Lib.hid (by rw [hch.out, hdc.out, hl]; obtain ⟨f, l, m0, d0, t0, m1, d1, t1, a⟩ := S; have := hd.out; simp only at this ⊢; rw [this]; rfl)
        go_upto_region 7 with fail
        clear x2 iw
        have hone := Lib.hid (StOk.one (S := S) (v := v2) (ho2.out.same (S' := S) rfl rfl rfl).ok)
        replace k2 := k2.out
        go_wp2_with (first | (refine wpList_load_arr2 rfl _ _ rfl _ rfl (by decide +kernel) _ (by assumption) (by first | (rw [lims_len]; kernel_rfl) | (rw [el_rep]; kernel_rfl) | (rw [el_len]; kernel_rfl) | (rw [byts_len]; kernel_rfl) | (rw [us_len]; kernel_rfl) | (rw [bytn_len]; kernel_rfl) | (rw [ens_len, digs_len]; kernel_rfl) | kernel_rfl) ?_) | (refine wpl_storeG rfl _ _ _ rfl _ _ rfl rfl _ k2 (by kernel_rfl) rfl hone.out (fun W6 k2 hg hsz => ?_)))
        have ho6 := (ho2.out.same (S' := S) rfl rfl rfl).grown hg (by omega)
        have kb6 := below_gr kb.out hg (by rw [hG.out]; omega) kb.out.size
        exact bodyPost_ret (results_arr2 Try.results33 _ _ _ rfl (by kernel_rfl) _ (by first | assumption | exact Arr.setRow (by assumption) _) (by first | (rw [lims_len]; kernel_rfl) | (rw [el_rep]; kernel_rfl) | (rw [el_len]; kernel_rfl) | (rw [byts_len]; kernel_rfl) | (rw [us_len]; kernel_rfl) | (rw [bytn_len]; kernel_rfl) | (rw [ens_len, digs_len]; kernel_rfl) | kernel_rfl)) rfl (by rw [hq.out]; exact ⟨_, rfl, ho6.mono (show w.heap.size ≤ G + 2 by rw [hG.out]; omega), kb6⟩)
      · have iw : (0 : Int) < (S.m0.length : Int) := by omega
        have hq : Hid (doneS S = { S with d0 := true }) := Lib.hid (by rw [hch.out, hdc.out]; rw [show decide (0 < S.m0.length) = true by simp; omega])
        have x3 := k1.cell (j := 3) rfl
        have f3 := k1.frozen 3
        go_upto_region 7 with fail
        refine code_cellG k1 (fun W5 k1 hg hsz5 => ?_)
        rw [cs_d0] at k1
        have ho2 := Lib.hid (ho2.out.grown hg (by omega))
        have k2 := Lib.hid (k2.out.kept hg (by omega))
        have kb := Lib.hid (below_gr kb.out hg (by rw [hG.out]; omega) kb.out.size)
        clear hg x2 x3 f3 iw
        have hone := Lib.hid (StOk.one (S := { S with d0 := true }) (v := v2) (ho2.out.same (S' := { S with d0 := true }) rfl rfl rfl).ok)
        replace k2 := k2.out
        go_wp2_with (first | (refine wpList_load_arr2 rfl _ _ rfl _ rfl (by decide +kernel) _ (by assumption) (by first | (rw [lims_len]; kernel_rfl) | (rw [el_rep]; kernel_rfl) | (rw [el_len]; kernel_rfl) | (rw [byts_len]; kernel_rfl) | (rw [us_len]; kernel_rfl) | (rw [bytn_len]; kernel_rfl) | (rw [ens_len, digs_len]; kernel_rfl) | kernel_rfl) ?_) | (refine wpl_storeG rfl _ _ _ rfl _ _ rfl rfl _ k2 (by kernel_rfl) rfl hone.out (fun W6 k2 hg hsz => ?_)))
        have ho6 := (ho2.out.same (S' := { S with d0 := true }) rfl rfl rfl).grown hg (by omega)
        have kb6 := below_gr kb.out hg (by rw [hG.out]; omega) kb.out.size
        exact bodyPost_ret (results_arr2 Try.results33 _ _ _ rfl (by kernel_rfl) _ (by first | assumption | exact Arr.setRow (by assumption) _) (by first | (rw [lims_len]; kernel_rfl) | (rw [el_rep]; kernel_rfl) | (rw [el_len]; kernel_rfl) | (rw [byts_len]; kernel_rfl) | (rw [us_len]; kernel_rfl) | (rw [bytn_len]; kernel_rfl) | (rw [ens_len, digs_len]; kernel_rfl) | kernel_rfl)) rfl (by rw [hq.out]; exact ⟨_, rfl, ho6.mono (show w.heap.size ≤ G + 2 by rw [hG.out]; omega), kb6⟩)

end Go.Proofs.Ytkipejhjpfakpaa
