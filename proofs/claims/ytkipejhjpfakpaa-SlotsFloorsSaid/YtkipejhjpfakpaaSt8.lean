/- slots: the reference's Put, Try, Confirm. -/
import Derived.Test.YtkipejhjpfakpaaSt7
namespace Go.Proofs.Ytkipejhjpfakpaa
open Go.RowKit

set_option maxHeartbeats 2000000 in
set_option maxRecDepth 100000 in
theorem refTry_any (S : Stt) (v : Sv) (w : World) (h : StOk w S v) : Calls Try.prog 34 #[.agg (S.cs v).toArray] w (RetSt (tryS S) w) := by
  have ho := Lib.hid h
  clear h
  go_enter Try.func34, Try.ntmps34
  go_upto_region 1 with fail
  refine wp_new2 (fun W hsz k1 k2 kb => ?_)
  have k1 : Arr W w.heap.size (S.cs v) := k1
  obtain ⟨G, hG⟩ : ∃ G, w.heap.size = G := ⟨_, rfl⟩
  rw [hG] at k1 k2 hsz ⊢
  replace hG := Lib.hid hG
  go_wp2_with (first | (refine wpList_load_arr2 rfl _ _ rfl _ rfl (by decide +kernel) _ (by assumption) (by first | (rw [lims_len]; kernel_rfl) | (rw [el_rep]; kernel_rfl) | (rw [el_len]; kernel_rfl) | (rw [byts_len]; kernel_rfl) | (rw [us_len]; kernel_rfl) | (rw [bytn_len]; kernel_rfl) | (rw [ens_len, digs_len]; kernel_rfl) | kernel_rfl) ?_) | fail)
  refine (mayStateb_any S v _ (ho.out.below kb)).mono ?_
  rintro e w1 ⟨he, hb⟩
  have k1 := k1.below hb
  have k2 := k2.below hb
  have kb := bel kb hb
  have hs1 : G + 2 ≤ w1.heap.size := by have := hb.size; omega
  clear hb hsz
  cases hm : mayB S with
  | false =>
    rw [hm] at he
    subst he
    have hch := Lib.hid (show tryS S = newS by unfold tryS chg; rw [hm]; rfl)
    clear hm
    have hk2 := Lib.hid k2
    clear k2
    go_wp2_with fail
    refine (newState_any _).mono ?_
    rintro e w2 ⟨v2, rfl, ho2, hb⟩
    have k2 := hk2.out.below hb
    have kb := bel kb hb
    have hone := Lib.hid (StOk.one ho2.ok)
    clear hb hk2
    go_wp2_with (first | (refine wpList_load_arr2 rfl _ _ rfl _ rfl (by decide +kernel) _ (by assumption) (by first | (rw [lims_len]; kernel_rfl) | (rw [el_rep]; kernel_rfl) | (rw [el_len]; kernel_rfl) | (rw [byts_len]; kernel_rfl) | (rw [us_len]; kernel_rfl) | (rw [bytn_len]; kernel_rfl) | (rw [ens_len, digs_len]; kernel_rfl) | kernel_rfl) ?_) | (refine wpl_storeG rfl _ _ _ rfl _ _ rfl rfl _ k2 (by kernel_rfl) rfl hone.out (fun W k2 hg hsz => ?_)))
    have ho3 := ho2.grown hg (by omega)
    have kb3 := below_gr kb hg (by rw [hG.out]; omega) kb.size
    exact bodyPost_ret (results_arr2 Try.results34 _ _ _ rfl (by kernel_rfl) _ (by first | assumption | exact Arr.setRow (by assumption) _) (by first | (rw [lims_len]; kernel_rfl) | (rw [el_rep]; kernel_rfl) | (rw [el_len]; kernel_rfl) | (rw [byts_len]; kernel_rfl) | (rw [us_len]; kernel_rfl) | (rw [bytn_len]; kernel_rfl) | (rw [ens_len, digs_len]; kernel_rfl) | kernel_rfl)) rfl (by rw [hch.out]; exact ⟨_, rfl, ho3.mono (show w.heap.size ≤ w1.heap.size by rw [hG.out]; omega), kb3⟩)
  | true =>
    rw [hm] at he
    subst he
    have hch := Lib.hid (show tryS S = tryC S by unfold tryS chg; rw [hm]; rfl)
    have hmp := Lib.hid ((mayB_iff S).1 hm)
    replace hm := Lib.hid hm
    have hk2 := Lib.hid k2
    clear k2
    go_wp2_with (first | (refine wpList_load_arr2 rfl _ _ rfl _ rfl (by decide +kernel) _ (by assumption) (by first | (rw [lims_len]; kernel_rfl) | (rw [el_rep]; kernel_rfl) | (rw [el_len]; kernel_rfl) | (rw [byts_len]; kernel_rfl) | (rw [us_len]; kernel_rfl) | (rw [bytn_len]; kernel_rfl) | (rw [ens_len, digs_len]; kernel_rfl) | kernel_rfl) ?_) | fail)
    refine (copyState_any S v _ (ho.out.below kb) (mayP_fit hmp.out)).mono ?_
    rintro e w2 ⟨v2, rfl, ho2, hb⟩
    have hone := Lib.hid (StOk.one ho2.ok)
    have hb2 := hb.size
    have k2 := Lib.hid (hk2.out.below hb)
    have k1 := k1.below hb
    have kb := Lib.hid (bel kb hb)
    have ho2 := Lib.hid ho2
    clear hb hk2
    go_upto_region 4 with (first | (refine wpl_storeG rfl _ _ _ rfl _ _ rfl rfl _ k1 (by kernel_rfl) rfl hone.out (fun W3 k1 hg hsz => ?_)))
    have ho2 : Hid (StOwn (G + 2) W3 S v2) := Lib.hid (StOwn.mono (ho2.out.grown hg (by omega)) hs1)
    have k2 := Lib.hid (k2.out.kept hg (by omega))
    have kb := Lib.hid (below_gr kb.out hg (by rw [hG.out]; omega) kb.out.size)
    have hs3 : G + 2 ≤ W3.heap.size := by omega
    clear hg hsz hb2 hs1
    go_wp2_with (first | (refine wpList_load_arr2 rfl _ _ rfl _ rfl (by decide +kernel) _ (by assumption) (by first | (rw [lims_len]; kernel_rfl) | (rw [el_rep]; kernel_rfl) | (rw [el_len]; kernel_rfl) | (rw [byts_len]; kernel_rfl) | (rw [us_len]; kernel_rfl) | (rw [bytn_len]; kernel_rfl) | (rw [ens_len, digs_len]; kernel_rfl) | kernel_rfl) ?_) | fail)
    refine (refTargetb_any S v2 _ ho2.out.ok hm.out).mono ?_
    rintro e w4 ⟨he, hb⟩
    have k1 := k1.below hb
    have k2 := Lib.hid (k2.out.below hb)
    have kb := Lib.hid (bel kb.out hb)
    have ho2 := Lib.hid (ho2.out.below hb)
    have hs4 : G + 2 ≤ w4.heap.size := by have := hb.size; omega
    clear hb hs3
    by_cases ha : S.act = 0
    · rw [show tgt S.act = 1 from if_pos ha] at he
      subst he
      have hdc := Lib.hid (show tryC S = if S.d1 = true then { S with t1 := min (S.t1 + 1) 3 } else S from if_pos ha)
      clear ha
      have x3 := k1.cell (j := 6) rfl
      have x4 := k1.cell (j := 7) rfl
      cases hd : S.d1 with
      | false =>
        have hq : Hid (tryS S = S) := Lib.hid (by rw [hch.out, hdc.out, hd]; rfl)
        rw [hd] at x3
        replace hd := Lib.hid hd
        go_upto_region 7 with fail
        clear x3 x4
        have hone := Lib.hid (StOk.one (ho2.out.same (S' := S) rfl rfl rfl).ok)
        replace k2 := k2.out
        go_wp2_with (first | (refine wpList_load_arr2 rfl _ _ rfl _ rfl (by decide +kernel) _ (by assumption) (by first | (rw [lims_len]; kernel_rfl) | (rw [el_rep]; kernel_rfl) | (rw [el_len]; kernel_rfl) | (rw [byts_len]; kernel_rfl) | (rw [us_len]; kernel_rfl) | (rw [bytn_len]; kernel_rfl) | (rw [ens_len, digs_len]; kernel_rfl) | kernel_rfl) ?_) | (refine wpl_storeG rfl _ _ _ rfl _ _ rfl rfl _ k2 (by kernel_rfl) rfl hone.out (fun W6 k2 hg hsz => ?_)))
        have ho6 := (ho2.out.same (S' := S) rfl rfl rfl).grown hg (by omega)
        have kb6 := below_gr kb.out hg (by rw [hG.out]; omega) kb.out.size
        exact bodyPost_ret (results_arr2 Try.results34 _ _ _ rfl (by kernel_rfl) _ (by first | assumption | exact Arr.setRow (by assumption) _) (by first | (rw [lims_len]; kernel_rfl) | (rw [el_rep]; kernel_rfl) | (rw [el_len]; kernel_rfl) | (rw [byts_len]; kernel_rfl) | (rw [us_len]; kernel_rfl) | (rw [bytn_len]; kernel_rfl) | (rw [ens_len, digs_len]; kernel_rfl) | kernel_rfl)) rfl (by rw [hq.out]; exact ⟨_, rfl, ho6.mono (show w.heap.size ≤ G + 2 by rw [hG.out]; omega), kb6⟩)
      | true =>
        rw [hd] at x3
        have ht := And.right (mayP_try hmp.out)
        by_cases hl : S.t1 < 3
        · have hq : Hid (tryS S = { S with t1 := S.t1 + 1 }) := Lib.hid (by rw [hch.out, hdc.out, hd, if_pos rfl, show min (S.t1 + 1) 3 = S.t1 + 1 by omega])
          replace hd := Lib.hid hd
          have ht0 := ht.1
          replace ht := Lib.hid ht
          have f4 := k1.frozen 7
          go_upto_region 7 with fail
          refine code_cellG k1 (fun W5 k1 hg hsz5 => ?_)
          rw [cs_t1] at k1
          have ho2 := Lib.hid (ho2.out.grown hg (by omega))
          have k2 := Lib.hid (k2.out.kept hg (by omega))
          have kb := Lib.hid (below_gr kb.out hg (by rw [hG.out]; omega) kb.out.size)
          clear hg
          clear x3 x4 f4
          have hone := Lib.hid (StOk.one (ho2.out.same (S' := { S with t1 := S.t1 + 1 }) rfl rfl rfl).ok)
          replace k2 := k2.out
          go_wp2_with (first | (refine wpList_load_arr2 rfl _ _ rfl _ rfl (by decide +kernel) _ (by assumption) (by first | (rw [lims_len]; kernel_rfl) | (rw [el_rep]; kernel_rfl) | (rw [el_len]; kernel_rfl) | (rw [byts_len]; kernel_rfl) | (rw [us_len]; kernel_rfl) | (rw [bytn_len]; kernel_rfl) | (rw [ens_len, digs_len]; kernel_rfl) | kernel_rfl) ?_) | (refine wpl_storeG rfl _ _ _ rfl _ _ rfl rfl _ k2 (by kernel_rfl) rfl hone.out (fun W6 k2 hg hsz => ?_)))
          have ho6 := (ho2.out.same (S' := { S with t1 := S.t1 + 1 }) rfl rfl rfl).grown hg (by omega)
          have kb6 := below_gr kb.out hg (by rw [hG.out]; omega) kb.out.size
          exact bodyPost_ret (results_arr2 Try.results34 _ _ _ rfl (by kernel_rfl) _ (by first | assumption | exact Arr.setRow (by assumption) _) (by first | (rw [lims_len]; kernel_rfl) | (rw [el_rep]; kernel_rfl) | (rw [el_len]; kernel_rfl) | (rw [byts_len]; kernel_rfl) | (rw [us_len]; kernel_rfl) | (rw [bytn_len]; kernel_rfl) | (rw [ens_len, digs_len]; kernel_rfl) | kernel_rfl)) rfl (by rw [hq.out]; exact ⟨_, rfl, ho6.mono (show w.heap.size ≤ G + 2 by rw [hG.out]; omega), kb6⟩)
        · have hq : Hid (tryS S = S) := Lib.hid (by rw [hch.out, hdc.out, if_pos hd, show min (S.t1 + 1) 3 = S.t1 by omega])
          replace hd := Lib.hid hd
          replace ht := Lib.hid ht
          go_upto_region 7 with fail
          clear x3 x4
          have hone := Lib.hid (StOk.one (ho2.out.same (S' := S) rfl rfl rfl).ok)
          replace k2 := k2.out
          go_wp2_with (first | (refine wpList_load_arr2 rfl _ _ rfl _ rfl (by decide +kernel) _ (by assumption) (by first | (rw [lims_len]; kernel_rfl) | (rw [el_rep]; kernel_rfl) | (rw [el_len]; kernel_rfl) | (rw [byts_len]; kernel_rfl) | (rw [us_len]; kernel_rfl) | (rw [bytn_len]; kernel_rfl) | (rw [ens_len, digs_len]; kernel_rfl) | kernel_rfl) ?_) | (refine wpl_storeG rfl _ _ _ rfl _ _ rfl rfl _ k2 (by kernel_rfl) rfl hone.out (fun W6 k2 hg hsz => ?_)))
          have ho6 := (ho2.out.same (S' := S) rfl rfl rfl).grown hg (by omega)
          have kb6 := below_gr kb.out hg (by rw [hG.out]; omega) kb.out.size
          exact bodyPost_ret (results_arr2 Try.results34 _ _ _ rfl (by kernel_rfl) _ (by first | assumption | exact Arr.setRow (by assumption) _) (by first | (rw [lims_len]; kernel_rfl) | (rw [el_rep]; kernel_rfl) | (rw [el_len]; kernel_rfl) | (rw [byts_len]; kernel_rfl) | (rw [us_len]; kernel_rfl) | (rw [bytn_len]; kernel_rfl) | (rw [ens_len, digs_len]; kernel_rfl) | kernel_rfl)) rfl (by rw [hq.out]; exact ⟨_, rfl, ho6.mono (show w.heap.size ≤ G + 2 by rw [hG.out]; omega), kb6⟩)
    · rw [show tgt S.act = 0 from if_neg ha] at he
      subst he
      have hdc := Lib.hid (show tryC S = if S.d0 = true then { S with t0 := min (S.t0 + 1) 3 } else S from if_neg ha)
      clear ha
      have x3 := k1.cell (j := 3) rfl
      have x4 := k1.cell (j := 4) rfl
      cases hd : S.d0 with
      | false =>
        have hq : Hid (tryS S = S) := Lib.hid (by rw [hch.out, hdc.out, hd]; rfl)
        rw [hd] at x3
        replace hd := Lib.hid hd
        go_upto_region 7 with fail
        clear x3 x4
        have hone := Lib.hid (StOk.one (ho2.out.same (S' := S) rfl rfl rfl).ok)
        replace k2 := k2.out
        go_wp2_with (first | (refine wpList_load_arr2 rfl _ _ rfl _ rfl (by decide +kernel) _ (by assumption) (by first | (rw [lims_len]; kernel_rfl) | (rw [el_rep]; kernel_rfl) | (rw [el_len]; kernel_rfl) | (rw [byts_len]; kernel_rfl) | (rw [us_len]; kernel_rfl) | (rw [bytn_len]; kernel_rfl) | (rw [ens_len, digs_len]; kernel_rfl) | kernel_rfl) ?_) | (refine wpl_storeG rfl _ _ _ rfl _ _ rfl rfl _ k2 (by kernel_rfl) rfl hone.out (fun W6 k2 hg hsz => ?_)))
        have ho6 := (ho2.out.same (S' := S) rfl rfl rfl).grown hg (by omega)
        have kb6 := below_gr kb.out hg (by rw [hG.out]; omega) kb.out.size
        exact bodyPost_ret (results_arr2 Try.results34 _ _ _ rfl (by kernel_rfl) _ (by first | assumption | exact Arr.setRow (by assumption) _) (by first | (rw [lims_len]; kernel_rfl) | (rw [el_rep]; kernel_rfl) | (rw [el_len]; kernel_rfl) | (rw [byts_len]; kernel_rfl) | (rw [us_len]; kernel_rfl) | (rw [bytn_len]; kernel_rfl) | (rw [ens_len, digs_len]; kernel_rfl) | kernel_rfl)) rfl (by rw [hq.out]; exact ⟨_, rfl, ho6.mono (show w.heap.size ≤ G + 2 by rw [hG.out]; omega), kb6⟩)
      | true =>
        rw [hd] at x3
        have ht := And.left (mayP_try hmp.out)
        by_cases hl : S.t0 < 3
        · have hq : Hid (tryS S = { S with t0 := S.t0 + 1 }) := Lib.hid (by rw [hch.out, hdc.out, hd, if_pos rfl, show min (S.t0 + 1) 3 = S.t0 + 1 by omega])
          replace hd := Lib.hid hd
          have ht0 := ht.1
          replace ht := Lib.hid ht
          have f4 := k1.frozen 4
          go_upto_region 7 with fail
          refine code_cellG k1 (fun W5 k1 hg hsz5 => ?_)
          rw [cs_t0] at k1
          have ho2 := Lib.hid (ho2.out.grown hg (by omega))
          have k2 := Lib.hid (k2.out.kept hg (by omega))
          have kb := Lib.hid (below_gr kb.out hg (by rw [hG.out]; omega) kb.out.size)
          clear hg
          clear x3 x4 f4
          have hone := Lib.hid (StOk.one (ho2.out.same (S' := { S with t0 := S.t0 + 1 }) rfl rfl rfl).ok)
          replace k2 := k2.out
          go_wp2_with (first | (refine wpList_load_arr2 rfl _ _ rfl _ rfl (by decide +kernel) _ (by assumption) (by first | (rw [lims_len]; kernel_rfl) | (rw [el_rep]; kernel_rfl) | (rw [el_len]; kernel_rfl) | (rw [byts_len]; kernel_rfl) | (rw [us_len]; kernel_rfl) | (rw [bytn_len]; kernel_rfl) | (rw [ens_len, digs_len]; kernel_rfl) | kernel_rfl) ?_) | (refine wpl_storeG rfl _ _ _ rfl _ _ rfl rfl _ k2 (by kernel_rfl) rfl hone.out (fun W6 k2 hg hsz => ?_)))
          have ho6 := (ho2.out.same (S' := { S with t0 := S.t0 + 1 }) rfl rfl rfl).grown hg (by omega)
          have kb6 := below_gr kb.out hg (by rw [hG.out]; omega) kb.out.size
          exact bodyPost_ret (results_arr2 Try.results34 _ _ _ rfl (by kernel_rfl) _ (by first | assumption | exact Arr.setRow (by assumption) _) (by first | (rw [lims_len]; kernel_rfl) | (rw [el_rep]; kernel_rfl) | (rw [el_len]; kernel_rfl) | (rw [byts_len]; kernel_rfl) | (rw [us_len]; kernel_rfl) | (rw [bytn_len]; kernel_rfl) | (rw [ens_len, digs_len]; kernel_rfl) | kernel_rfl)) rfl (by rw [hq.out]; exact ⟨_, rfl, ho6.mono (show w.heap.size ≤ G + 2 by rw [hG.out]; omega), kb6⟩)
        · have hq : Hid (tryS S = S) := Lib.hid (by rw [hch.out, hdc.out, if_pos hd, show min (S.t0 + 1) 3 = S.t0 by omega])
          replace hd := Lib.hid hd
          replace ht := Lib.hid ht
          go_upto_region 7 with fail
          clear x3 x4
          have hone := Lib.hid (StOk.one (ho2.out.same (S' := S) rfl rfl rfl).ok)
          replace k2 := k2.out
          go_wp2_with (first | (refine wpList_load_arr2 rfl _ _ rfl _ rfl (by decide +kernel) _ (by assumption) (by first | (rw [lims_len]; kernel_rfl) | (rw [el_rep]; kernel_rfl) | (rw [el_len]; kernel_rfl) | (rw [byts_len]; kernel_rfl) | (rw [us_len]; kernel_rfl) | (rw [bytn_len]; kernel_rfl) | (rw [ens_len, digs_len]; kernel_rfl) | kernel_rfl) ?_) | (refine wpl_storeG rfl _ _ _ rfl _ _ rfl rfl _ k2 (by kernel_rfl) rfl hone.out (fun W6 k2 hg hsz => ?_)))
          have ho6 := (ho2.out.same (S' := S) rfl rfl rfl).grown hg (by omega)
          have kb6 := below_gr kb.out hg (by rw [hG.out]; omega) kb.out.size
          exact bodyPost_ret (results_arr2 Try.results34 _ _ _ rfl (by kernel_rfl) _ (by first | assumption | exact Arr.setRow (by assumption) _) (by first | (rw [lims_len]; kernel_rfl) | (rw [el_rep]; kernel_rfl) | (rw [el_len]; kernel_rfl) | (rw [byts_len]; kernel_rfl) | (rw [us_len]; kernel_rfl) | (rw [bytn_len]; kernel_rfl) | (rw [ens_len, digs_len]; kernel_rfl) | kernel_rfl)) rfl (by rw [hq.out]; exact ⟨_, rfl, ho6.mono (show w.heap.size ≤ G + 2 by rw [hG.out]; omega), kb6⟩)

set_option maxHeartbeats 2000000 in
set_option maxRecDepth 100000 in
theorem refPut_any (S : Stt) (v : Sv) (vm : Value) (m : List UInt8) (w : World) (h : StOk w S v) (hm : Sl w vm (u8s m)) (hl : m.length ≤ 140737488355328) : Calls Try.prog 32 #[.agg (S.cs v).toArray, vm] w (RetSt (putS S m) w) := by
  have ho := Lib.hid h
  clear h
  obtain ⟨am, cm, rfl, hc1, hc2⟩ := slice_of hm
  rw [u8s_len] at hm hc1
  simp only [u8s_len]
  have hsm := Lib.hid hm
  clear hm
  obtain ⟨tb, htb, hbz0, hbz1, hbz2⟩ := info_parts info_u8
  go_enter Try.func32, Try.ntmps32
  go_upto_region 1 with fail
  refine wp_new2 (fun W hsz k1 k2 kb => ?_)
  have k1 : Arr W w.heap.size (S.cs v) := k1
  obtain ⟨G, hG⟩ : ∃ G, w.heap.size = G := ⟨_, rfl⟩
  rw [hG] at k1 k2 hsz ⊢
  replace hG := Lib.hid hG
  go_wp2_with (first | (refine wpList_load_arr2 rfl _ _ rfl _ rfl (by decide +kernel) _ (by assumption) (by first | (rw [lims_len]; kernel_rfl) | (rw [el_rep]; kernel_rfl) | (rw [el_len]; kernel_rfl) | (rw [byts_len]; kernel_rfl) | (rw [us_len]; kernel_rfl) | (rw [bytn_len]; kernel_rfl) | (rw [ens_len, digs_len]; kernel_rfl) | kernel_rfl) ?_) | fail)
  refine (mayStateb_any S v _ (ho.out.below kb)).mono ?_
  rintro e w1 ⟨he, hb⟩
  have k1 := k1.below hb
  have k2 := k2.below hb
  have kb := bel kb hb
  have hs1 : G + 2 ≤ w1.heap.size := by have := hb.size; omega
  clear hb hsz
  cases hm : mayB S with
  | false =>
    rw [hm] at he
    subst he
    have hch := Lib.hid (show putS S m = newS by unfold putS chg; rw [hm]; split <;> rfl)
    clear hm
    have hk2 := Lib.hid k2
    clear k2
    go_wp2_with fail
    refine (newState_any _).mono ?_
    rintro e w2 ⟨v2, rfl, ho2, hb⟩
    have k2 := hk2.out.below hb
    have kb := bel kb hb
    have hone := Lib.hid (StOk.one ho2.ok)
    clear hb hk2
    go_wp2_with (first | (refine wpList_load_arr2 rfl _ _ rfl _ rfl (by decide +kernel) _ (by assumption) (by first | (rw [lims_len]; kernel_rfl) | (rw [el_rep]; kernel_rfl) | (rw [el_len]; kernel_rfl) | (rw [byts_len]; kernel_rfl) | (rw [us_len]; kernel_rfl) | (rw [bytn_len]; kernel_rfl) | (rw [ens_len, digs_len]; kernel_rfl) | kernel_rfl) ?_) | (refine wpl_storeG rfl _ _ _ rfl _ _ rfl rfl _ k2 (by kernel_rfl) rfl hone.out (fun W k2 hg hsz => ?_)))
    have ho3 := ho2.grown hg (by omega)
    have kb3 := below_gr kb hg (by rw [hG.out]; omega) kb.size
    exact bodyPost_ret (results_arr2 Try.results32 _ _ _ rfl (by kernel_rfl) _ (by first | assumption | exact Arr.setRow (by assumption) _) (by first | (rw [lims_len]; kernel_rfl) | (rw [el_rep]; kernel_rfl) | (rw [el_len]; kernel_rfl) | (rw [byts_len]; kernel_rfl) | (rw [us_len]; kernel_rfl) | (rw [bytn_len]; kernel_rfl) | (rw [ens_len, digs_len]; kernel_rfl) | kernel_rfl)) rfl (by rw [hch.out]; exact ⟨_, rfl, ho3.mono (show w.heap.size ≤ w1.heap.size by rw [hG.out]; omega), kb3⟩)
  | true =>
    rw [hm] at he
    subst he
    by_cases h3 : m.length = 300
    rotate_left
    · have hch := Lib.hid (show putS S m = newS from if_neg h3)
      have iw : ¬ (m.length : Int) = 300 := by omega
      clear hm h3
      have hk2 := Lib.hid k2
      clear k2
      go_wp2_with fail
      refine (newState_any _).mono ?_
      rintro e w2 ⟨v2, rfl, ho2, hb⟩
      have k2 := hk2.out.below hb
      have kb := bel kb hb
      have hone := Lib.hid (StOk.one ho2.ok)
      clear hb hk2
      go_wp2_with (first | (refine wpList_load_arr2 rfl _ _ rfl _ rfl (by decide +kernel) _ (by assumption) (by first | (rw [lims_len]; kernel_rfl) | (rw [el_rep]; kernel_rfl) | (rw [el_len]; kernel_rfl) | (rw [byts_len]; kernel_rfl) | (rw [us_len]; kernel_rfl) | (rw [bytn_len]; kernel_rfl) | (rw [ens_len, digs_len]; kernel_rfl) | kernel_rfl) ?_) | (refine wpl_storeG rfl _ _ _ rfl _ _ rfl rfl _ k2 (by kernel_rfl) rfl hone.out (fun W k2 hg hsz => ?_)))
      have ho3 := ho2.grown hg (by omega)
      have kb3 := below_gr kb hg (by rw [hG.out]; omega) kb.size
      exact bodyPost_ret (results_arr2 Try.results32 _ _ _ rfl (by kernel_rfl) _ (by first | assumption | exact Arr.setRow (by assumption) _) (by first | (rw [lims_len]; kernel_rfl) | (rw [el_rep]; kernel_rfl) | (rw [el_len]; kernel_rfl) | (rw [byts_len]; kernel_rfl) | (rw [us_len]; kernel_rfl) | (rw [bytn_len]; kernel_rfl) | (rw [ens_len, digs_len]; kernel_rfl) | kernel_rfl)) rfl (by rw [hch.out]; exact ⟨_, rfl, ho3.mono (show w.heap.size ≤ w1.heap.size by rw [hG.out]; omega), kb3⟩)
    have hch := Lib.hid (show putS S m = putC S m by unfold putS chg; rw [if_pos h3, hm]; rfl)
    have iw : (m.length : Int) = 300 := by omega
    have h3' := Lib.hid h3
    clear h3
    have hmp := Lib.hid ((mayB_iff S).1 hm)
    replace hm := Lib.hid hm
    have hk2 := Lib.hid k2
    clear k2
    go_wp2_with (first | (refine wpList_load_arr2 rfl _ _ rfl _ rfl (by decide +kernel) _ (by assumption) (by first | (rw [lims_len]; kernel_rfl) | (rw [el_rep]; kernel_rfl) | (rw [el_len]; kernel_rfl) | (rw [byts_len]; kernel_rfl) | (rw [us_len]; kernel_rfl) | (rw [bytn_len]; kernel_rfl) | (rw [ens_len, digs_len]; kernel_rfl) | kernel_rfl) ?_) | fail)
    refine (copyState_any S v _ (ho.out.below kb) (mayP_fit hmp.out)).mono ?_
    rintro e w2 ⟨v2, rfl, ho2, hb⟩
    have hone := Lib.hid (StOk.one ho2.ok)
    have hb2 := hb.size
    have k2 := Lib.hid (hk2.out.below hb)
    have k1 := k1.below hb
    have kb := Lib.hid (bel kb hb)
    have ho2 := Lib.hid ho2
    clear hb hk2
    clear iw
    go_upto_region 4 with (first | (refine wpl_storeG rfl _ _ _ rfl _ _ rfl rfl _ k1 (by kernel_rfl) rfl hone.out (fun W3 k1 hg hsz => ?_)))
    have ho2 : Hid (StOwn (G + 2) W3 S v2) := Lib.hid (StOwn.mono (ho2.out.grown hg (by omega)) hs1)
    have k2 := Lib.hid (k2.out.kept hg (by omega))
    have kb := Lib.hid (below_gr kb.out hg (by rw [hG.out]; omega) kb.out.size)
    have hs3 : G + 2 ≤ W3.heap.size := by omega
    clear hg hsz hb2 hs1
    go_wp2_with (first | (refine wpList_load_arr2 rfl _ _ rfl _ rfl (by decide +kernel) _ (by assumption) (by first | (rw [lims_len]; kernel_rfl) | (rw [el_rep]; kernel_rfl) | (rw [el_len]; kernel_rfl) | (rw [byts_len]; kernel_rfl) | (rw [us_len]; kernel_rfl) | (rw [bytn_len]; kernel_rfl) | (rw [ens_len, digs_len]; kernel_rfl) | kernel_rfl) ?_) | fail)
    refine (refTargetb_any S v2 _ ho2.out.ok hm.out).mono ?_
    rintro e w4 ⟨he, hb⟩
    have k1 := k1.below hb
    have k2 := Lib.hid (k2.out.below hb)
    have kb := Lib.hid (bel kb.out hb)
    have ho2 := Lib.hid (ho2.out.below hb)
    have hs4 : G + 2 ≤ w4.heap.size := by have := hb.size; omega
    clear hb hs3
    by_cases ha : S.act = 0
    · rw [show tgt S.act = 1 from if_pos ha] at he
      subst he
      have hdc := Lib.hid (show putC S m = { S with m1 := m, d1 := false, t1 := 0 } from if_pos ha)
      clear ha
      have hsl := Lib.hid (hsm.out.below kb.out)
      have hone2 : ∀ a c, ∀ u ∈ [Value.slice a m.length c, .bool false, .int .i64 0], u.oneCell' = true := by simp [Value.oneCell']
      replace hone2 := Lib.hid hone2
      go_wp2_with (at_builtin; refine wpList_append_sl rfl _ _ 23 rfl w4.heap.size 5 Try.underlying23 htb hbz0 hbz1 hbz2 rfl _ 0 [] rfl (World.ownsRow_nil _ _ _ _) _ (u8s m) rfl hsl.out (u8s_one _) ?d21 ?d31 (Nat.le_refl _) ?_)
      case d21 => rw [u8s_len]; unfold maxLen; omega
      case d31 => rw [u8s_len]; omega
      intro u w5 o2 hg
      have hb := below_nil hg
      have o2 := own_nil_u8s o2
      obtain ⟨a2, c2, rfl⟩ := own_shape o2
      have k1 := k1.below hb
      have k2 := Lib.hid (k2.out.below hb)
      have kb := Lib.hid (bel kb.out hb)
      have ho2 := Lib.hid (ho2.out.below hb)
      have o2 := Lib.hid (own_mono (base' := G + 2) o2 hs4)
      have hs5 := hb.size
      clear hg hsl hb
      go_upto_region 5 with (refine wpl_storeMG rfl _ _ _ rfl _ 5 [.slice a2 m.length c2, .bool false, .int .i64 0] rfl rfl _ k1 (by kernel_rfl) (Nat.le_of_ble_eq_true rfl) (hone2.out _ _) (fun W5 k1 hg => ?_))
      have k1 : Arr W5 G (Stt.cs { S with m1 := m, d1 := false, t1 := 0 } { v2 with m1 := .slice a2 m.length c2 }) := k1
      have o2 := Lib.hid (own_grown o2.out hg (by omega))
      have hz5 := hg.size
      have ho2 := Lib.hid (ho2.out.grown hg (by omega))
      have k2 := Lib.hid (k2.out.kept hg (by omega))
      have kb := Lib.hid (below_gr kb.out hg (by rw [hG.out]; omega) kb.out.size)
      clear hg
      have ho2 : Hid (StOwn (G + 2) W5 { S with m1 := m, d1 := false, t1 := 0 } { v2 with m1 := .slice a2 m.length c2 }) := Lib.hid ⟨ho2.out.rv, ho2.out.m0, o2.out⟩
      have hs4 : G + 2 ≤ W5.heap.size := by omega
      have hq := Lib.hid (hch.out.trans hdc.out)
      have hone := Lib.hid (StOk.one ho2.out.ok)
      replace k2 := k2.out
      go_wp2_with (first | (refine wpList_load_arr2 rfl _ _ rfl _ rfl (by decide +kernel) _ (by assumption) (by first | (rw [lims_len]; kernel_rfl) | (rw [el_rep]; kernel_rfl) | (rw [el_len]; kernel_rfl) | (rw [byts_len]; kernel_rfl) | (rw [us_len]; kernel_rfl) | (rw [bytn_len]; kernel_rfl) | (rw [ens_len, digs_len]; kernel_rfl) | kernel_rfl) ?_) | (refine wpl_storeG rfl _ _ _ rfl _ _ rfl rfl _ k2 (by kernel_rfl) rfl hone.out (fun W6 k2 hg hsz => ?_)))
      have ho6 := ho2.out.grown hg (by omega)
      have kb6 := below_gr kb.out hg (by rw [hG.out]; omega) kb.out.size
      exact bodyPost_ret (results_arr2 Try.results32 _ _ _ rfl (by kernel_rfl) _ (by first | assumption | exact Arr.setRow (by assumption) _) (by first | (rw [lims_len]; kernel_rfl) | (rw [el_rep]; kernel_rfl) | (rw [el_len]; kernel_rfl) | (rw [byts_len]; kernel_rfl) | (rw [us_len]; kernel_rfl) | (rw [bytn_len]; kernel_rfl) | (rw [ens_len, digs_len]; kernel_rfl) | kernel_rfl)) rfl (by rw [hq.out]; exact ⟨_, rfl, ho6.mono (show w.heap.size ≤ G + 2 by rw [hG.out]; omega), kb6⟩)
    · rw [show tgt S.act = 0 from if_neg ha] at he
      subst he
      have hdc := Lib.hid (show putC S m = { S with m0 := m, d0 := false, t0 := 0 } from if_neg ha)
      clear ha
      have hsl := Lib.hid (hsm.out.below kb.out)
      have hone2 : ∀ a c, ∀ u ∈ [Value.slice a m.length c, .bool false, .int .i64 0], u.oneCell' = true := by simp [Value.oneCell']
      replace hone2 := Lib.hid hone2
      go_wp2_with (at_builtin; refine wpList_append_sl rfl _ _ 23 rfl w4.heap.size 5 Try.underlying23 htb hbz0 hbz1 hbz2 rfl _ 0 [] rfl (World.ownsRow_nil _ _ _ _) _ (u8s m) rfl hsl.out (u8s_one _) ?d20 ?d30 (Nat.le_refl _) ?_)
      case d20 => rw [u8s_len]; unfold maxLen; omega
      case d30 => rw [u8s_len]; omega
      intro u w5 o2 hg
      have hb := below_nil hg
      have o2 := own_nil_u8s o2
      obtain ⟨a2, c2, rfl⟩ := own_shape o2
      have k1 := k1.below hb
      have k2 := Lib.hid (k2.out.below hb)
      have kb := Lib.hid (bel kb.out hb)
      have ho2 := Lib.hid (ho2.out.below hb)
      have o2 := Lib.hid (own_mono (base' := G + 2) o2 hs4)
      have hs5 := hb.size
      clear hg hsl hb
      go_upto_region 5 with (refine wpl_storeMG rfl _ _ _ rfl _ 2 [.slice a2 m.length c2, .bool false, .int .i64 0] rfl rfl _ k1 (by kernel_rfl) (Nat.le_of_ble_eq_true rfl) (hone2.out _ _) (fun W5 k1 hg => ?_))
      have k1 : Arr W5 G (Stt.cs { S with m0 := m, d0 := false, t0 := 0 } { v2 with m0 := .slice a2 m.length c2 }) := k1
      have o2 := Lib.hid (own_grown o2.out hg (by omega))
      have hz5 := hg.size
      have ho2 := Lib.hid (ho2.out.grown hg (by omega))
      have k2 := Lib.hid (k2.out.kept hg (by omega))
      have kb := Lib.hid (below_gr kb.out hg (by rw [hG.out]; omega) kb.out.size)
      clear hg
      have ho2 : Hid (StOwn (G + 2) W5 { S with m0 := m, d0 := false, t0 := 0 } { v2 with m0 := .slice a2 m.length c2 }) := Lib.hid ⟨ho2.out.rv, o2.out, ho2.out.m1⟩
      have hs4 : G + 2 ≤ W5.heap.size := by omega
      have hq := Lib.hid (hch.out.trans hdc.out)
      have hone := Lib.hid (StOk.one ho2.out.ok)
      replace k2 := k2.out
      go_wp2_with (first | (refine wpList_load_arr2 rfl _ _ rfl _ rfl (by decide +kernel) _ (by assumption) (by first | (rw [lims_len]; kernel_rfl) | (rw [el_rep]; kernel_rfl) | (rw [el_len]; kernel_rfl) | (rw [byts_len]; kernel_rfl) | (rw [us_len]; kernel_rfl) | (rw [bytn_len]; kernel_rfl) | (rw [ens_len, digs_len]; kernel_rfl) | kernel_rfl) ?_) | (refine wpl_storeG rfl _ _ _ rfl _ _ rfl rfl _ k2 (by kernel_rfl) rfl hone.out (fun W6 k2 hg hsz => ?_)))
      have ho6 := ho2.out.grown hg (by omega)
      have kb6 := below_gr kb.out hg (by rw [hG.out]; omega) kb.out.size
      exact bodyPost_ret (results_arr2 Try.results32 _ _ _ rfl (by kernel_rfl) _ (by first | assumption | exact Arr.setRow (by assumption) _) (by first | (rw [lims_len]; kernel_rfl) | (rw [el_rep]; kernel_rfl) | (rw [el_len]; kernel_rfl) | (rw [byts_len]; kernel_rfl) | (rw [us_len]; kernel_rfl) | (rw [bytn_len]; kernel_rfl) | (rw [ens_len, digs_len]; kernel_rfl) | kernel_rfl)) rfl (by rw [hq.out]; exact ⟨_, rfl, ho6.mono (show w.heap.size ≤ G + 2 by rw [hG.out]; omega), kb6⟩)

set_option maxHeartbeats 2000000 in
set_option maxRecDepth 100000 in
theorem refConfirm_any (S : Stt) (v : Sv) (ver : Int) (w : World) (h : StOk w S v) : Calls Try.prog 35 #[.agg (S.cs v).toArray, .int .i64 ver] w (RetSt (confirmS S ver) w) := by
  have ho := Lib.hid h
  clear h
  go_enter Try.func35, Try.ntmps35
  go_upto_region 1 with fail
  refine wp_new2 (fun W hsz k1 k2 kb => ?_)
  have k1 : Arr W w.heap.size (S.cs v) := k1
  obtain ⟨G, hG⟩ : ∃ G, w.heap.size = G := ⟨_, rfl⟩
  rw [hG] at k1 k2 hsz ⊢
  replace hG := Lib.hid hG
  go_wp2_with (first | (refine wpList_load_arr2 rfl _ _ rfl _ rfl (by decide +kernel) _ (by assumption) (by first | (rw [lims_len]; kernel_rfl) | (rw [el_rep]; kernel_rfl) | (rw [el_len]; kernel_rfl) | (rw [byts_len]; kernel_rfl) | (rw [us_len]; kernel_rfl) | (rw [bytn_len]; kernel_rfl) | (rw [ens_len, digs_len]; kernel_rfl) | kernel_rfl) ?_) | fail)
  refine (mayStateb_any S v _ (ho.out.below kb)).mono ?_
  rintro e w1 ⟨he, hb⟩
  have k1 := k1.below hb
  have k2 := k2.below hb
  have kb := bel kb hb
  have hs1 : G + 2 ≤ w1.heap.size := by have := hb.size; omega
  clear hb hsz
  cases hm : mayB S with
  | false =>
    rw [hm] at he
    subst he
    have hch := Lib.hid (show confirmS S ver = newS by unfold confirmS chg; rw [hm]; rfl)
    clear hm
    have hk2 := Lib.hid k2
    clear k2
    go_wp2_with fail
    refine (newState_any _).mono ?_
    rintro e w2 ⟨v2, rfl, ho2, hb⟩
    have k2 := hk2.out.below hb
    have kb := bel kb hb
    have hone := Lib.hid (StOk.one ho2.ok)
    clear hb hk2
    go_wp2_with (first | (refine wpList_load_arr2 rfl _ _ rfl _ rfl (by decide +kernel) _ (by assumption) (by first | (rw [lims_len]; kernel_rfl) | (rw [el_rep]; kernel_rfl) | (rw [el_len]; kernel_rfl) | (rw [byts_len]; kernel_rfl) | (rw [us_len]; kernel_rfl) | (rw [bytn_len]; kernel_rfl) | (rw [ens_len, digs_len]; kernel_rfl) | kernel_rfl) ?_) | (refine wpl_storeG rfl _ _ _ rfl _ _ rfl rfl _ k2 (by kernel_rfl) rfl hone.out (fun W k2 hg hsz => ?_)))
    have ho3 := ho2.grown hg (by omega)
    have kb3 := below_gr kb hg (by rw [hG.out]; omega) kb.size
    exact bodyPost_ret (results_arr2 Try.results35 _ _ _ rfl (by kernel_rfl) _ (by first | assumption | exact Arr.setRow (by assumption) _) (by first | (rw [lims_len]; kernel_rfl) | (rw [el_rep]; kernel_rfl) | (rw [el_len]; kernel_rfl) | (rw [byts_len]; kernel_rfl) | (rw [us_len]; kernel_rfl) | (rw [bytn_len]; kernel_rfl) | (rw [ens_len, digs_len]; kernel_rfl) | kernel_rfl)) rfl (by rw [hch.out]; exact ⟨_, rfl, ho3.mono (show w.heap.size ≤ w1.heap.size by rw [hG.out]; omega), kb3⟩)
  | true =>
    rw [hm] at he
    subst he
    have hch := Lib.hid (show confirmS S ver = confirmC S ver by unfold confirmS chg; rw [hm]; rfl)
    have hmp := Lib.hid ((mayB_iff S).1 hm)
    replace hm := Lib.hid hm
    have hk2 := Lib.hid k2
    clear k2
    go_wp2_with (first | (refine wpList_load_arr2 rfl _ _ rfl _ rfl (by decide +kernel) _ (by assumption) (by first | (rw [lims_len]; kernel_rfl) | (rw [el_rep]; kernel_rfl) | (rw [el_len]; kernel_rfl) | (rw [byts_len]; kernel_rfl) | (rw [us_len]; kernel_rfl) | (rw [bytn_len]; kernel_rfl) | (rw [ens_len, digs_len]; kernel_rfl) | kernel_rfl) ?_) | fail)
    refine (copyState_any S v _ (ho.out.below kb) (mayP_fit hmp.out)).mono ?_
    rintro e w2 ⟨v2, rfl, ho2, hb⟩
    have hone := Lib.hid (StOk.one ho2.ok)
    have hb2 := hb.size
    have k2 := Lib.hid (hk2.out.below hb)
    have k1 := k1.below hb
    have kb := Lib.hid (bel kb hb)
    have ho2 := Lib.hid ho2
    clear hb hk2
    go_upto_region 4 with (first | (refine wpl_storeG rfl _ _ _ rfl _ _ rfl rfl _ k1 (by kernel_rfl) rfl hone.out (fun W3 k1 hg hsz => ?_)))
    have ho2 : Hid (StOwn (G + 2) W3 S v2) := Lib.hid (StOwn.mono (ho2.out.grown hg (by omega)) hs1)
    have k2 := Lib.hid (k2.out.kept hg (by omega))
    have kb := Lib.hid (below_gr kb.out hg (by rw [hG.out]; omega) kb.out.size)
    have hs3 : G + 2 ≤ W3.heap.size := by omega
    clear hg hsz hb2 hs1
    go_wp2_with (first | (refine wpList_load_arr2 rfl _ _ rfl _ rfl (by decide +kernel) _ (by assumption) (by first | (rw [lims_len]; kernel_rfl) | (rw [el_rep]; kernel_rfl) | (rw [el_len]; kernel_rfl) | (rw [byts_len]; kernel_rfl) | (rw [us_len]; kernel_rfl) | (rw [bytn_len]; kernel_rfl) | (rw [ens_len, digs_len]; kernel_rfl) | kernel_rfl) ?_) | fail)
    refine (refTargetb_any S v2 _ ho2.out.ok hm.out).mono ?_
    rintro e w4 ⟨he, hb⟩
    have k1 := k1.below hb
    have k2 := Lib.hid (k2.out.below hb)
    have kb := Lib.hid (bel kb.out hb)
    have ho2 := Lib.hid (ho2.out.below hb)
    have hs4 : G + 2 ≤ w4.heap.size := by have := hb.size; omega
    clear hb hs3
    by_cases ha : S.act = 0
    · rw [show tgt S.act = 1 from if_pos ha] at he
      subst he
      have hdc := Lib.hid (show confirmC S ver = if S.d1 = true then { S with floor := flo S.floor ver, t1 := 0, act := 1, m0 := [], d0 := false, t0 := 0 } else S from if_pos ha)
      clear ha
      have x3 := k1.cell (j := 6) rfl
      cases hd : S.d1 with
      | false =>
        have hq : Hid (confirmS S ver = S) := Lib.hid (by rw [hch.out, hdc.out, hd]; rfl)
        rw [hd] at x3
        replace hd := Lib.hid hd
        go_upto_region 6 with fail
        clear x3
        have hone := Lib.hid (StOk.one (ho2.out.same (S' := S) rfl rfl rfl).ok)
        replace k2 := k2.out
        go_wp2_with (first | (refine wpList_load_arr2 rfl _ _ rfl _ rfl (by decide +kernel) _ (by assumption) (by first | (rw [lims_len]; kernel_rfl) | (rw [el_rep]; kernel_rfl) | (rw [el_len]; kernel_rfl) | (rw [byts_len]; kernel_rfl) | (rw [us_len]; kernel_rfl) | (rw [bytn_len]; kernel_rfl) | (rw [ens_len, digs_len]; kernel_rfl) | kernel_rfl) ?_) | (refine wpl_storeG rfl _ _ _ rfl _ _ rfl rfl _ k2 (by kernel_rfl) rfl hone.out (fun W6 k2 hg hsz => ?_)))
        have ho6 := (ho2.out.same (S' := S) rfl rfl rfl).grown hg (by omega)
        have kb6 := below_gr kb.out hg (by rw [hG.out]; omega) kb.out.size
        exact bodyPost_ret (results_arr2 Try.results35 _ _ _ rfl (by kernel_rfl) _ (by first | assumption | exact Arr.setRow (by assumption) _) (by first | (rw [lims_len]; kernel_rfl) | (rw [el_rep]; kernel_rfl) | (rw [el_len]; kernel_rfl) | (rw [byts_len]; kernel_rfl) | (rw [us_len]; kernel_rfl) | (rw [bytn_len]; kernel_rfl) | (rw [ens_len, digs_len]; kernel_rfl) | kernel_rfl)) rfl (by rw [hq.out]; exact ⟨_, rfl, ho6.mono (show w.heap.size ≤ G + 2 by rw [hG.out]; omega), kb6⟩)
      | true =>
        rw [hd] at x3
        have hq : Hid (confirmS S ver = { S with floor := flo S.floor ver, t1 := 0, act := 1, m0 := [], d0 := false, t0 := 0 }) := Lib.hid (by rw [hch.out, hdc.out, hd, if_pos rfl])
        replace hd := Lib.hid hd
        have x8 := k1.cell (j := 8) rfl
        have f8 := k1.frozen 8
        go_upto_region 8 with fail
        refine code_cellG k1 (fun W5 k1 hg hsz5 => ?_)
        rw [cs_act] at k1
        have ho2 := Lib.hid (ho2.out.grown hg (by omega))
        have k2 := Lib.hid (k2.out.kept hg (by omega))
        have kb := Lib.hid (below_gr kb.out hg (by rw [hG.out]; omega) kb.out.size)
        clear hg
        clear x3 x8 f8
        have x4 := k1.cell (j := 7) rfl
        have f4 := k1.frozen 7
        go_upto_region 9 with fail
        refine code_cellG k1 (fun W6 k1 hg hsz6 => ?_)
        rw [cs_t1] at k1
        have ho2 := Lib.hid (ho2.out.grown hg (by omega))
        have k2 := Lib.hid (k2.out.kept hg (by omega))
        have kb := Lib.hid (below_gr kb.out hg (by rw [hG.out]; omega) kb.out.size)
        clear hg
        clear x4 f4
        have hone2 : ∀ u ∈ [Value.slice none 0 0, .bool false, .int .i64 0], u.oneCell' = true := by simp [Value.oneCell']
        replace hone2 := Lib.hid hone2
        go_upto_region 10 with (refine wpl_storeMG rfl _ _ _ rfl _ 2 [.slice none 0 0, .bool false, .int .i64 0] rfl rfl _ k1 (by kernel_rfl) (Nat.le_of_ble_eq_true rfl) hone2.out (fun W7 k1 hg => ?_))
        have k1 : Arr W7 G (Stt.cs { S with t1 := 0, act := 1, m0 := [], d0 := false, t0 := 0 } { v2 with m0 := .slice none 0 0 }) := k1
        have hz7 := hg.size
        have ho2 := Lib.hid (ho2.out.grown hg (by omega))
        have k2 := Lib.hid (k2.out.kept hg (by omega))
        have kb := Lib.hid (below_gr kb.out hg (by rw [hG.out]; omega) kb.out.size)
        clear hg
        have ho2 : Hid (StOwn (G + 2) W7 { S with t1 := 0, act := 1, m0 := [], d0 := false, t0 := 0 } { v2 with m0 := .slice none 0 0 }) := Lib.hid ⟨ho2.out.rv, World.ownsRow_nil _ _ _ _, ho2.out.m1⟩
        have x0 := k1.cell (j := 0) rfl
        have f0 := k1.frozen 0
        have hfl := (mayP.floor hmp.out)
        rw [numB_iff] at hfl
        by_cases hv : S.floor < ver
        · have ux : Hid (numB ver = decide (ver ≤ 2147483647)) := Lib.hid (by unfold numB; rw [show decide (0 ≤ ver) = true by simp; omega]; rfl)
          have hfl2 : Hid (flo S.floor ver = if ver ≤ 2147483647 then ver else S.floor) := Lib.hid (by unfold flo; split <;> omega)
          clear hfl
          go_wp2_with fail
          refine (small_any _ _).mono ?_
          rintro e w8 ⟨rfl, hw⟩
          rw [hw]
          clear hw w8
          rw [ux.out]
          by_cases hx : ver ≤ 2147483647
          · rw [show decide (ver ≤ 2147483647) = true by simpa using hx]
            rw [if_pos hx] at hfl2
            go_upto_region 12 with fail
            refine code_cellG k1 (fun W8 k1 hg hsz8 => ?_)
            rw [cs_flo] at k1
            have hz8 := hg.size
            have ho2 := Lib.hid (ho2.out.grown hg (by omega))
            have k2 := Lib.hid (k2.out.kept hg (by omega))
            have kb := Lib.hid (below_gr kb.out hg (by rw [hG.out]; omega) kb.out.size)
            clear hg
            have ho2 := Lib.hid (StOwn.same (S' := { S with floor := ver, t1 := 0, act := 1, m0 := [], d0 := false, t0 := 0 }) ho2.out rfl rfl rfl)
            have hq2 : Hid (confirmS S ver = { S with floor := ver, t1 := 0, act := 1, m0 := [], d0 := false, t0 := 0 }) := Lib.hid (by rw [hq.out, hfl2.out])
            clear x0 f0
            have hone := Lib.hid (StOk.one ho2.out.ok)
            replace k2 := k2.out
            go_wp2_with (first | (refine wpList_load_arr2 rfl _ _ rfl _ rfl (by decide +kernel) _ (by assumption) (by first | (rw [lims_len]; kernel_rfl) | (rw [el_rep]; kernel_rfl) | (rw [el_len]; kernel_rfl) | (rw [byts_len]; kernel_rfl) | (rw [us_len]; kernel_rfl) | (rw [bytn_len]; kernel_rfl) | (rw [ens_len, digs_len]; kernel_rfl) | kernel_rfl) ?_) | (refine wpl_storeG rfl _ _ _ rfl _ _ rfl rfl _ k2 (by kernel_rfl) rfl hone.out (fun W6 k2 hg hsz => ?_)))
            have ho6 := ho2.out.grown hg (by omega)
            have kb6 := below_gr kb.out hg (by rw [hG.out]; omega) kb.out.size
            exact bodyPost_ret (results_arr2 Try.results35 _ _ _ rfl (by kernel_rfl) _ (by first | assumption | exact Arr.setRow (by assumption) _) (by first | (rw [lims_len]; kernel_rfl) | (rw [el_rep]; kernel_rfl) | (rw [el_len]; kernel_rfl) | (rw [byts_len]; kernel_rfl) | (rw [us_len]; kernel_rfl) | (rw [bytn_len]; kernel_rfl) | (rw [ens_len, digs_len]; kernel_rfl) | kernel_rfl)) rfl (by rw [hq2.out]; exact ⟨_, rfl, ho6.mono (show w.heap.size ≤ G + 2 by rw [hG.out]; omega), kb6⟩)
          · rw [show decide (ver ≤ 2147483647) = false by simpa using hx]
            rw [if_neg hx] at hfl2
            have hq2 : Hid (confirmS S ver = { S with t1 := 0, act := 1, m0 := [], d0 := false, t0 := 0 }) := Lib.hid (by rw [hq.out, hfl2.out])
            go_upto_region 12 with fail
            clear x0 f0
            have hone := Lib.hid (StOk.one ho2.out.ok)
            replace k2 := k2.out
            go_wp2_with (first | (refine wpList_load_arr2 rfl _ _ rfl _ rfl (by decide +kernel) _ (by assumption) (by first | (rw [lims_len]; kernel_rfl) | (rw [el_rep]; kernel_rfl) | (rw [el_len]; kernel_rfl) | (rw [byts_len]; kernel_rfl) | (rw [us_len]; kernel_rfl) | (rw [bytn_len]; kernel_rfl) | (rw [ens_len, digs_len]; kernel_rfl) | kernel_rfl) ?_) | (refine wpl_storeG rfl _ _ _ rfl _ _ rfl rfl _ k2 (by kernel_rfl) rfl hone.out (fun W6 k2 hg hsz => ?_)))
            have ho6 := ho2.out.grown hg (by omega)
            have kb6 := below_gr kb.out hg (by rw [hG.out]; omega) kb.out.size
            exact bodyPost_ret (results_arr2 Try.results35 _ _ _ rfl (by kernel_rfl) _ (by first | assumption | exact Arr.setRow (by assumption) _) (by first | (rw [lims_len]; kernel_rfl) | (rw [el_rep]; kernel_rfl) | (rw [el_len]; kernel_rfl) | (rw [byts_len]; kernel_rfl) | (rw [us_len]; kernel_rfl) | (rw [bytn_len]; kernel_rfl) | (rw [ens_len, digs_len]; kernel_rfl) | kernel_rfl)) rfl (by rw [hq2.out]; exact ⟨_, rfl, ho6.mono (show w.heap.size ≤ G + 2 by rw [hG.out]; omega), kb6⟩)
        · have hfl2 : Hid (flo S.floor ver = S.floor) := Lib.hid (by unfold flo; split <;> omega)
          have hq2 : Hid (confirmS S ver = { S with t1 := 0, act := 1, m0 := [], d0 := false, t0 := 0 }) := Lib.hid (by rw [hq.out, hfl2.out])
          clear hfl
          go_upto_region 12 with fail
          clear x0 f0
          have hone := Lib.hid (StOk.one ho2.out.ok)
          replace k2 := k2.out
          go_wp2_with (first | (refine wpList_load_arr2 rfl _ _ rfl _ rfl (by decide +kernel) _ (by assumption) (by first | (rw [lims_len]; kernel_rfl) | (rw [el_rep]; kernel_rfl) | (rw [el_len]; kernel_rfl) | (rw [byts_len]; kernel_rfl) | (rw [us_len]; kernel_rfl) | (rw [bytn_len]; kernel_rfl) | (rw [ens_len, digs_len]; kernel_rfl) | kernel_rfl) ?_) | (refine wpl_storeG rfl _ _ _ rfl _ _ rfl rfl _ k2 (by kernel_rfl) rfl hone.out (fun W6 k2 hg hsz => ?_)))
          have ho6 := ho2.out.grown hg (by omega)
          have kb6 := below_gr kb.out hg (by rw [hG.out]; omega) kb.out.size
          exact bodyPost_ret (results_arr2 Try.results35 _ _ _ rfl (by kernel_rfl) _ (by first | assumption | exact Arr.setRow (by assumption) _) (by first | (rw [lims_len]; kernel_rfl) | (rw [el_rep]; kernel_rfl) | (rw [el_len]; kernel_rfl) | (rw [byts_len]; kernel_rfl) | (rw [us_len]; kernel_rfl) | (rw [bytn_len]; kernel_rfl) | (rw [ens_len, digs_len]; kernel_rfl) | kernel_rfl)) rfl (by rw [hq2.out]; exact ⟨_, rfl, ho6.mono (show w.heap.size ≤ G + 2 by rw [hG.out]; omega), kb6⟩)
    · rw [show tgt S.act = 0 from if_neg ha] at he
      subst he
      have hdc := Lib.hid (show confirmC S ver = if S.d0 = true then { S with floor := flo S.floor ver, t0 := 0, act := 0, m1 := [], d1 := false, t1 := 0 } else S from if_neg ha)
      clear ha
      have x3 := k1.cell (j := 3) rfl
      cases hd : S.d0 with
      | false =>
        have hq : Hid (confirmS S ver = S) := Lib.hid (by rw [hch.out, hdc.out, hd]; rfl)
        rw [hd] at x3
        replace hd := Lib.hid hd
        go_upto_region 6 with fail
        clear x3
        have hone := Lib.hid (StOk.one (ho2.out.same (S' := S) rfl rfl rfl).ok)
        replace k2 := k2.out
        go_wp2_with (first | (refine wpList_load_arr2 rfl _ _ rfl _ rfl (by decide +kernel) _ (by assumption) (by first | (rw [lims_len]; kernel_rfl) | (rw [el_rep]; kernel_rfl) | (rw [el_len]; kernel_rfl) | (rw [byts_len]; kernel_rfl) | (rw [us_len]; kernel_rfl) | (rw [bytn_len]; kernel_rfl) | (rw [ens_len, digs_len]; kernel_rfl) | kernel_rfl) ?_) | (refine wpl_storeG rfl _ _ _ rfl _ _ rfl rfl _ k2 (by kernel_rfl) rfl hone.out (fun W6 k2 hg hsz => ?_)))
        have ho6 := (ho2.out.same (S' := S) rfl rfl rfl).grown hg (by omega)
        have kb6 := below_gr kb.out hg (by rw [hG.out]; omega) kb.out.size
        exact bodyPost_ret (results_arr2 Try.results35 _ _ _ rfl (by kernel_rfl) _ (by first | assumption | exact Arr.setRow (by assumption) _) (by first | (rw [lims_len]; kernel_rfl) | (rw [el_rep]; kernel_rfl) | (rw [el_len]; kernel_rfl) | (rw [byts_len]; kernel_rfl) | (rw [us_len]; kernel_rfl) | (rw [bytn_len]; kernel_rfl) | (rw [ens_len, digs_len]; kernel_rfl) | kernel_rfl)) rfl (by rw [hq.out]; exact ⟨_, rfl, ho6.mono (show w.heap.size ≤ G + 2 by rw [hG.out]; omega), kb6⟩)
      | true =>
        rw [hd] at x3
        have hq : Hid (confirmS S ver = { S with floor := flo S.floor ver, t0 := 0, act := 0, m1 := [], d1 := false, t1 := 0 }) := Lib.hid (by rw [hch.out, hdc.out, hd, if_pos rfl])
        replace hd := Lib.hid hd
        have x8 := k1.cell (j := 8) rfl
        have f8 := k1.frozen 8
        go_upto_region 8 with fail
        refine code_cellG k1 (fun W5 k1 hg hsz5 => ?_)
        rw [cs_act] at k1
        have ho2 := Lib.hid (ho2.out.grown hg (by omega))
        have k2 := Lib.hid (k2.out.kept hg (by omega))
        have kb := Lib.hid (below_gr kb.out hg (by rw [hG.out]; omega) kb.out.size)
        clear hg
        clear x3 x8 f8
        have x4 := k1.cell (j := 4) rfl
        have f4 := k1.frozen 4
        go_upto_region 9 with fail
        refine code_cellG k1 (fun W6 k1 hg hsz6 => ?_)
        rw [cs_t0] at k1
        have ho2 := Lib.hid (ho2.out.grown hg (by omega))
        have k2 := Lib.hid (k2.out.kept hg (by omega))
        have kb := Lib.hid (below_gr kb.out hg (by rw [hG.out]; omega) kb.out.size)
        clear hg
        clear x4 f4
        have hone2 : ∀ u ∈ [Value.slice none 0 0, .bool false, .int .i64 0], u.oneCell' = true := by simp [Value.oneCell']
        replace hone2 := Lib.hid hone2
        go_upto_region 10 with (refine wpl_storeMG rfl _ _ _ rfl _ 5 [.slice none 0 0, .bool false, .int .i64 0] rfl rfl _ k1 (by kernel_rfl) (Nat.le_of_ble_eq_true rfl) hone2.out (fun W7 k1 hg => ?_))
        have k1 : Arr W7 G (Stt.cs { S with t0 := 0, act := 0, m1 := [], d1 := false, t1 := 0 } { v2 with m1 := .slice none 0 0 }) := k1
        have hz7 := hg.size
        have ho2 := Lib.hid (ho2.out.grown hg (by omega))
        have k2 := Lib.hid (k2.out.kept hg (by omega))
        have kb := Lib.hid (below_gr kb.out hg (by rw [hG.out]; omega) kb.out.size)
        clear hg
        have ho2 : Hid (StOwn (G + 2) W7 { S with t0 := 0, act := 0, m1 := [], d1 := false, t1 := 0 } { v2 with m1 := .slice none 0 0 }) := Lib.hid ⟨ho2.out.rv, ho2.out.m0, World.ownsRow_nil _ _ _ _⟩
        have x0 := k1.cell (j := 0) rfl
        have f0 := k1.frozen 0
        have hfl := (mayP.floor hmp.out)
        rw [numB_iff] at hfl
        by_cases hv : S.floor < ver
        · have ux : Hid (numB ver = decide (ver ≤ 2147483647)) := Lib.hid (by unfold numB; rw [show decide (0 ≤ ver) = true by simp; omega]; rfl)
          have hfl2 : Hid (flo S.floor ver = if ver ≤ 2147483647 then ver else S.floor) := Lib.hid (by unfold flo; split <;> omega)
          clear hfl
          go_wp2_with fail
          refine (small_any _ _).mono ?_
          rintro e w8 ⟨rfl, hw⟩
          rw [hw]
          clear hw w8
          rw [ux.out]
          by_cases hx : ver ≤ 2147483647
          · rw [show decide (ver ≤ 2147483647) = true by simpa using hx]
            rw [if_pos hx] at hfl2
            go_upto_region 12 with fail
            refine code_cellG k1 (fun W8 k1 hg hsz8 => ?_)
            rw [cs_flo] at k1
            have hz8 := hg.size
            have ho2 := Lib.hid (ho2.out.grown hg (by omega))
            have k2 := Lib.hid (k2.out.kept hg (by omega))
            have kb := Lib.hid (below_gr kb.out hg (by rw [hG.out]; omega) kb.out.size)
            clear hg
            have ho2 := Lib.hid (StOwn.same (S' := { S with floor := ver, t0 := 0, act := 0, m1 := [], d1 := false, t1 := 0 }) ho2.out rfl rfl rfl)
            have hq2 : Hid (confirmS S ver = { S with floor := ver, t0 := 0, act := 0, m1 := [], d1 := false, t1 := 0 }) := Lib.hid (by rw [hq.out, hfl2.out])
            clear x0 f0
            have hone := Lib.hid (StOk.one ho2.out.ok)
            replace k2 := k2.out
            go_wp2_with (first | (refine wpList_load_arr2 rfl _ _ rfl _ rfl (by decide +kernel) _ (by assumption) (by first | (rw [lims_len]; kernel_rfl) | (rw [el_rep]; kernel_rfl) | (rw [el_len]; kernel_rfl) | (rw [byts_len]; kernel_rfl) | (rw [us_len]; kernel_rfl) | (rw [bytn_len]; kernel_rfl) | (rw [ens_len, digs_len]; kernel_rfl) | kernel_rfl) ?_) | (refine wpl_storeG rfl _ _ _ rfl _ _ rfl rfl _ k2 (by kernel_rfl) rfl hone.out (fun W6 k2 hg hsz => ?_)))
            have ho6 := ho2.out.grown hg (by omega)
            have kb6 := below_gr kb.out hg (by rw [hG.out]; omega) kb.out.size
            exact bodyPost_ret (results_arr2 Try.results35 _ _ _ rfl (by kernel_rfl) _ (by first | assumption | exact Arr.setRow (by assumption) _) (by first | (rw [lims_len]; kernel_rfl) | (rw [el_rep]; kernel_rfl) | (rw [el_len]; kernel_rfl) | (rw [byts_len]; kernel_rfl) | (rw [us_len]; kernel_rfl) | (rw [bytn_len]; kernel_rfl) | (rw [ens_len, digs_len]; kernel_rfl) | kernel_rfl)) rfl (by rw [hq2.out]; exact ⟨_, rfl, ho6.mono (show w.heap.size ≤ G + 2 by rw [hG.out]; omega), kb6⟩)
          · rw [show decide (ver ≤ 2147483647) = false by simpa using hx]
            rw [if_neg hx] at hfl2
            have hq2 : Hid (confirmS S ver = { S with t0 := 0, act := 0, m1 := [], d1 := false, t1 := 0 }) := Lib.hid (by rw [hq.out, hfl2.out])
            go_upto_region 12 with fail
            clear x0 f0
            have hone := Lib.hid (StOk.one ho2.out.ok)
            replace k2 := k2.out
            go_wp2_with (first | (refine wpList_load_arr2 rfl _ _ rfl _ rfl (by decide +kernel) _ (by assumption) (by first | (rw [lims_len]; kernel_rfl) | (rw [el_rep]; kernel_rfl) | (rw [el_len]; kernel_rfl) | (rw [byts_len]; kernel_rfl) | (rw [us_len]; kernel_rfl) | (rw [bytn_len]; kernel_rfl) | (rw [ens_len, digs_len]; kernel_rfl) | kernel_rfl) ?_) | (refine wpl_storeG rfl _ _ _ rfl _ _ rfl rfl _ k2 (by kernel_rfl) rfl hone.out (fun W6 k2 hg hsz => ?_)))
            have ho6 := ho2.out.grown hg (by omega)
            have kb6 := below_gr kb.out hg (by rw [hG.out]; omega) kb.out.size
            exact bodyPost_ret (results_arr2 Try.results35 _ _ _ rfl (by kernel_rfl) _ (by first | assumption | exact Arr.setRow (by assumption) _) (by first | (rw [lims_len]; kernel_rfl) | (rw [el_rep]; kernel_rfl) | (rw [el_len]; kernel_rfl) | (rw [byts_len]; kernel_rfl) | (rw [us_len]; kernel_rfl) | (rw [bytn_len]; kernel_rfl) | (rw [ens_len, digs_len]; kernel_rfl) | kernel_rfl)) rfl (by rw [hq2.out]; exact ⟨_, rfl, ho6.mono (show w.heap.size ≤ G + 2 by rw [hG.out]; omega), kb6⟩)
        · have hfl2 : Hid (flo S.floor ver = S.floor) := Lib.hid (by unfold flo; split <;> omega)
          have hq2 : Hid (confirmS S ver = { S with t0 := 0, act := 0, m1 := [], d1 := false, t1 := 0 }) := Lib.hid (by rw [hq.out, hfl2.out])
          clear hfl
          go_upto_region 12 with fail
          clear x0 f0
          have hone := Lib.hid (StOk.one ho2.out.ok)
          replace k2 := k2.out
          go_wp2_with (first | (refine wpList_load_arr2 rfl _ _ rfl _ rfl (by decide +kernel) _ (by assumption) (by first | (rw [lims_len]; kernel_rfl) | (rw [el_rep]; kernel_rfl) | (rw [el_len]; kernel_rfl) | (rw [byts_len]; kernel_rfl) | (rw [us_len]; kernel_rfl) | (rw [bytn_len]; kernel_rfl) | (rw [ens_len, digs_len]; kernel_rfl) | kernel_rfl) ?_) | (refine wpl_storeG rfl _ _ _ rfl _ _ rfl rfl _ k2 (by kernel_rfl) rfl hone.out (fun W6 k2 hg hsz => ?_)))
          have ho6 := ho2.out.grown hg (by omega)
          have kb6 := below_gr kb.out hg (by rw [hG.out]; omega) kb.out.size
          exact bodyPost_ret (results_arr2 Try.results35 _ _ _ rfl (by kernel_rfl) _ (by first | assumption | exact Arr.setRow (by assumption) _) (by first | (rw [lims_len]; kernel_rfl) | (rw [el_rep]; kernel_rfl) | (rw [el_len]; kernel_rfl) | (rw [byts_len]; kernel_rfl) | (rw [us_len]; kernel_rfl) | (rw [bytn_len]; kernel_rfl) | (rw [ens_len, digs_len]; kernel_rfl) | kernel_rfl)) rfl (by rw [hq2.out]; exact ⟨_, rfl, ho6.mono (show w.heap.size ≤ G + 2 by rw [hG.out]; omega), kb6⟩)

end Go.Proofs.Ytkipejhjpfakpaa
