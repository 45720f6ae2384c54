/- The law SlotsLives, walked. -/
import Derived.Test.YtkipejhjpfakpaaSv0
import Derived.Test.YtkipejhjpfakpaaInS
namespace Go.Proofs.Ytkipejhjpfakpaa
open Go.RowKit

theorem StOwn.offB {B g : Nat} {w : World} {S : Stt} {v : Sv} (h : StOwn B w S v) (hg : g < B) : StOff g v :=
  ⟨fun e => by have := (h.rv.lt g e).1; omega, fun e => by have := (h.m0.lt g e).1; omega, fun e => by have := (h.m1.lt g e).1; omega⟩

set_option maxHeartbeats 8000000 in
set_option maxRecDepth 100000 in
theorem slotsLives_walk (S : Stt) (v : Sv) (am : Option Addr) (cm : Nat) (m : List UInt8) (ver tries : Int) (w : World) (h : StOk w S v) (_ : StWf S) (hm : Sl w (.slice am m.length cm) (u8s m)) (_ : (Lit.int .i64 ver).wf = true) (_ : (Lit.int .i64 tries).wf = true) :
    Calls Try.prog 3 #[.agg (S.cs v).toArray, .slice am m.length cm, .int .i64 ver, .int .i64 tries] w fun e w' => e = .returned (.bool true) ∧ Below w.heap.size w w' := by
  have ho := Lib.hid h
  have hsm := Lib.hid hm
  obtain ⟨hlm, hc1, hc2⟩ := hm.len
  clear h hm hlm hc1 hc2
  go_enter Try.func3, Try.ntmps3
  go_upto_region 1 with fail
  refine wp_new1 (fun W hsz k1 kb => ?_)
  have k1 : Arr W w.heap.size (S.cs v) := k1
  obtain ⟨G, hG⟩ : ∃ G, w.heap.size = G := ⟨_, rfl⟩
  rw [hG] at k1 hsz ⊢
  replace hG := Lib.hid hG
  clear hsz
  go_wp2_with fail
  refine (alive_any _).mono ?_
  rintro e w1 ⟨rfl, hb⟩
  have k1 := k1.below hb
  have kb := bel kb hb
  clear hb
  go_wp2_with (first | (refine wpList_load_arr2 rfl _ _ rfl _ rfl (by decide +kernel) _ (by assumption) (by first | (rw [lims_len]; kernel_rfl) | (rw [el_rep]; kernel_rfl) | (rw [el_len]; kernel_rfl) | (rw [byts_len]; kernel_rfl) | (rw [us_len]; kernel_rfl) | (rw [bytn_len]; kernel_rfl) | (rw [ens_len, digs_len]; kernel_rfl) | kernel_rfl) ?_) | fail)
  refine (big_any S v _ (ho.out.below kb)).mono ?_
  rintro e w2 ⟨he, hb⟩
  have k1 := k1.below hb
  have kb := bel kb hb
  clear hb
  cases hbg : bigB S with
  | true =>
    rw [hbg] at he
    subst he
    clear hbg
    go_wp2_with fail
    go_ret
    exact ⟨rfl, kb⟩
  | false =>
    rw [hbg] at he
    subst he
    have hfit := Lib.hid (big_fit hbg)
    clear hbg
    by_cases h3 : m.length = 300
    rotate_left
    · have iw : ¬ (m.length : Int) = 300 := by omega
      clear h3
      go_wp2_with fail
      go_ret
      exact ⟨rfl, kb⟩
    have iw : (m.length : Int) = 300 := by omega
    replace h3 := Lib.hid h3
    by_cases ht0 : tries < 0
    · go_wp2_with fail
      go_ret
      exact ⟨rfl, kb⟩
    have dt0 : decide (tries < 0) = false := by simpa using ht0
    by_cases ht1 : 10 < tries
    · go_wp2_with fail
      go_ret
      exact ⟨rfl, kb⟩
    have dt1 : decide (10 < tries) = false := by simpa using ht1
    go_wp2_with (first | (refine wpList_load_arr2 rfl _ _ rfl _ rfl (by decide +kernel) _ (by assumption) (by first | (rw [lims_len]; kernel_rfl) | (rw [el_rep]; kernel_rfl) | (rw [el_len]; kernel_rfl) | (rw [byts_len]; kernel_rfl) | (rw [us_len]; kernel_rfl) | (rw [bytn_len]; kernel_rfl) | (rw [ens_len, digs_len]; kernel_rfl) | kernel_rfl) ?_) | fail)
    refine (mayStateb_any S v _ (ho.out.below kb)).mono ?_
    rintro e w3 ⟨he, hb⟩
    have k1 := k1.below hb
    have kb := bel kb hb
    clear hb
    cases hmy : mayB S with
    | false =>
      rw [hmy] at he
      subst he
      clear hmy
      go_wp2_with fail
      go_ret
      exact ⟨rfl, kb⟩
    | true =>
      rw [hmy] at he
      subst he
      have hmp := Lib.hid ((mayB_iff S).1 hmy)
      clear hmy
      have htg : Hid (tgtS S = tgt S.act) := Lib.hid (by unfold tgtS; rw [if_pos (mayB_of hmp.out)])
      go_wp2_with (first | (refine wpList_load_arr2 rfl _ _ rfl _ rfl (by decide +kernel) _ (by assumption) (by first | (rw [lims_len]; kernel_rfl) | (rw [el_rep]; kernel_rfl) | (rw [el_len]; kernel_rfl) | (rw [byts_len]; kernel_rfl) | (rw [us_len]; kernel_rfl) | (rw [bytn_len]; kernel_rfl) | (rw [ens_len, digs_len]; kernel_rfl) | kernel_rfl) ?_) | fail)
      refine (target2_any S v _ (ho.out.below kb)).mono ?_
      rintro e w4 ⟨rfl, hb⟩
      rw [htg.out]
      have k1 := k1.below hb
      have kb := bel kb hb
      clear hb
      have hx1 := Lib.hid (ho.out.below kb)
      have hx2 := Lib.hid (hsm.out.below kb)
      go_wp2_with (first | (refine wpList_load_arr2 rfl _ _ rfl _ rfl (by decide +kernel) _ (by assumption) (by first | (rw [lims_len]; kernel_rfl) | (rw [el_rep]; kernel_rfl) | (rw [el_len]; kernel_rfl) | (rw [byts_len]; kernel_rfl) | (rw [us_len]; kernel_rfl) | (rw [bytn_len]; kernel_rfl) | (rw [ens_len, digs_len]; kernel_rfl) | kernel_rfl) ?_) | fail)
      refine (put_any S v _ m _ hx1.out hx2.out (by have := h3.out; omega)).mono ?_
      rintro e w5 ⟨v5, rfl, ho5, hb⟩
      have k1 := k1.below hb
      have kb := bel kb hb
      have hone := Lib.hid (StOk.one ho5.ok)
      have ho5 := Lib.hid ho5.ok
      clear hb hx1 hx2
      go_upto_region 7 with (first | (refine wpl_storeG rfl _ _ _ rfl _ _ rfl rfl _ (Arr.new _ _ _) (by kernel_rfl) rfl hone.out (fun W6 k2 hg hsz => ?_)))
      have hb := below_new hg
      have k1 := k1.below hb
      have kb := bel kb hb
      have ho5 := Lib.hid (ho5.out.below hb)
      have hk6 := kb.size
      clear hg hb hsz hone
      go_wp2_with (first | (refine wpList_load_arr2 rfl _ _ rfl _ rfl (by decide +kernel) _ (by assumption) (by first | (rw [lims_len]; kernel_rfl) | (rw [el_rep]; kernel_rfl) | (rw [el_len]; kernel_rfl) | (rw [byts_len]; kernel_rfl) | (rw [us_len]; kernel_rfl) | (rw [bytn_len]; kernel_rfl) | (rw [ens_len, digs_len]; kernel_rfl) | kernel_rfl) ?_) | fail)
      refine (done_any _ v5 _ ho5.out).mono ?_
      rintro e w7 ⟨v7, rfl, ho7, hb⟩
      rw [bS_done hmp.out h3.out] at ho7 ⊢
      have k1 := k1.below hb
      have hGg := k1.lt
      have kb := bel kb hb
      have hone := Lib.hid (StOk.one ho7.ok)
      have hoff := Lib.hid (ho7.off (Nat.le_refl _))
      clear hb k2 ho5
      have ho7 : Hid (StOwn w.heap.size w7 (bS S m 0) v7) := Lib.hid (ho7.mono hk6)
      go_upto_region 8 with (first | (refine wpl_storeG rfl _ _ _ rfl _ _ rfl rfl _ (Arr.new _ _ _) (by kernel_rfl) rfl hone.out (fun W8 k2 hg hsz => ?_)))
      have hb := below_new hg
      have k1 := k1.below hb
      have kb := bel kb hb
      have ho7 := Lib.hid (ho7.out.below hb)
      obtain ⟨g2, hg2⟩ : ∃ g, w7.heap.size = g := ⟨_, rfl⟩
      rw [hg2] at k2 hoff hGg ⊢
      clear hg hb hsz hone hg2
      go_upto_region 9 with (first | (refine wpl_storeG rfl _ _ _ rfl _ _ rfl rfl _ (Arr.new _ _ _) (by kernel_rfl) rfl (by simp [Value.oneCell']) (fun W9 k3 hg hsz => ?_)))
      have hb := below_new hg
      have k1 := k1.below hb
      have hg23 := k2.lt
      have k2 := k2.below hb
      have kb := bel kb hb
      have ho7 := Lib.hid (ho7.out.below hb)
      obtain ⟨g3, hg3⟩ : ∃ g, W8.heap.size = g := ⟨_, rfl⟩
      rw [hg3] at k3 hg23 ⊢
      clear hg hb hsz hg3
      obtain ⟨T, hT⟩ : ∃ T, tgt S.act = T := ⟨_, rfl⟩
      rw [hT] at htg
      rw [hT]
      replace hT := Lib.hid hT
      replace k2 := Lib.hid k2
      replace k3 := Lib.hid k3
      replace k1 := Lib.hid k1
      replace kb := Lib.hid kb
      clear iw ht0 ht1
      have htr : 0 ≤ tries := by simpa using dt0
      have htr1 : tries ≤ 10 := by simpa using dt1
      clear dt0 dt1
      go_wp2_with fail
      go_loopw [15] (fun iv wr => ∃ (i : Nat) (vb : Sv), (i : Int) ≤ tries ∧ iv = .int .i64 i ∧ Arr wr G (S.cs v) ∧ Arr wr g2 ((bS S m i).cs vb) ∧ Arr wr g3 [.bool true, .bool true] ∧ StOwn w.heap.size wr (bS S m i) vb ∧ StOff g2 vb ∧ Below w.heap.size w wr) (fun iv _ => tries.toNat - (intOf iv).toNat)
      case atStart => exact ⟨0, v7, htr, rfl, k1.out, k2.out, k3.out, ho7.out, hoff.out, kb.out⟩
      case round =>
        clear k1 k2 k3 kb ho7 hoff
        obtain ⟨i, vb, hi, rfl, k1, k2, k3, ho7, hoff, kb⟩ := hrel
        have ho7 := Lib.hid ho7
        have hoff := Lib.hid hoff
        by_cases hlt : (i : Int) < tries
        · have hi0 : 0 ≤ (i : Int) := by omega
          have hpk := Lib.hid (bS_pick (i := (i : Int)) hmp.out h3.out hi0)
          have htn := Lib.hid (bS_try (i := (i : Int)) hmp.out h3.out hi0)
          go_upto_region 12 with fail
          go_wp2_with (first | (refine wpList_load_arr2 rfl _ _ rfl _ rfl (by decide +kernel) _ (by assumption) (by first | (rw [lims_len]; kernel_rfl) | (rw [el_rep]; kernel_rfl) | (rw [el_len]; kernel_rfl) | (rw [byts_len]; kernel_rfl) | (rw [us_len]; kernel_rfl) | (rw [bytn_len]; kernel_rfl) | (rw [ens_len, digs_len]; kernel_rfl) | kernel_rfl) ?_) | fail)
          refine (pick_any (bS S m i) vb true true _ ho7.out.ok).mono ?_
          rintro e w10 ⟨he, hb⟩
          rw [hpk.out] at he
          have k1 := k1.below hb
          have k2 := k2.below hb
          have k3 := k3.below hb
          have kb := bel kb hb
          have ho7 := Lib.hid (ho7.out.below hb)
          have hkz := kb.size
          clear hb
          by_cases hi3 : (i : Int) < 3
          · rw [if_pos hi3, hT.out] at he
            subst he
            have d3 : ¬ 3 ≤ (i : Int) := by omega
            go_upto_region 18 with fail
            have hlt2 := k2.lt
            go_wp2_with (first | (refine wpList_load_arr2 rfl _ _ rfl _ rfl (by decide +kernel) _ (by assumption) (by first | (rw [lims_len]; kernel_rfl) | (rw [el_rep]; kernel_rfl) | (rw [el_len]; kernel_rfl) | (rw [byts_len]; kernel_rfl) | (rw [us_len]; kernel_rfl) | (rw [bytn_len]; kernel_rfl) | (rw [ens_len, digs_len]; kernel_rfl) | kernel_rfl) ?_) | fail)
            refine (try_any (bS S m i) vb _ ho7.out.ok).mono ?_
            rintro e w11 ⟨v11, rfl, ho11, hb⟩
            rw [htn.out] at ho11 ⊢
            have k1 := k1.below hb
            have k2 := Lib.hid (k2.below hb)
            have k3 := k3.below hb
            have kb := bel kb hb
            have hone := Lib.hid (StOk.one ho11.ok)
            have hoff2 := Lib.hid (ho11.offB hlt2)
            have ho11 := Lib.hid (ho11.mono hkz)
            clear hb ho7
            go_upto_region 11 with (first | (refine wpl_storeG rfl _ _ _ rfl _ _ rfl rfl _ k2.out (by kernel_rfl) rfl hone.out (fun W12 k2 hg hsz => ?_)))
            have k1 := Lib.hid (k1.kept hg (by omega))
            have k3 := Lib.hid (k3.kept hg (by omega))
            have k2 := Lib.hid k2
            have ho11 := Lib.hid (ho11.out.kept hg hoff2.out)
            have kb := Lib.hid (below_gr kb hg (by rw [hG.out]; omega) kb.size)
            clear hg hsz
            go_wp2_with fail
            exact ⟨⟨i + 1, v11, by omega, by go_num, k1.out, k2.out, k3.out, ho11.out, hoff2.out, kb.out⟩, by simp [intOf]; omega⟩
          · rw [if_neg hi3] at he
            subst he
            have d3 : 3 ≤ (i : Int) := by omega
            have dd : decide ((i : Int) < 3) = false := by simpa using d3
            have x8 := k1.cell (j := 8) rfl
            go_upto_region 18 with fail
            have hlt2 := k2.lt
            go_wp2_with (first | (refine wpList_load_arr2 rfl _ _ rfl _ rfl (by decide +kernel) _ (by assumption) (by first | (rw [lims_len]; kernel_rfl) | (rw [el_rep]; kernel_rfl) | (rw [el_len]; kernel_rfl) | (rw [byts_len]; kernel_rfl) | (rw [us_len]; kernel_rfl) | (rw [bytn_len]; kernel_rfl) | (rw [ens_len, digs_len]; kernel_rfl) | kernel_rfl) ?_) | fail)
            refine (try_any (bS S m i) vb _ ho7.out.ok).mono ?_
            rintro e w11 ⟨v11, rfl, ho11, hb⟩
            rw [htn.out] at ho11 ⊢
            have k1 := k1.below hb
            have k2 := Lib.hid (k2.below hb)
            have k3 := k3.below hb
            have kb := bel kb hb
            have hone := Lib.hid (StOk.one ho11.ok)
            have hoff2 := Lib.hid (ho11.offB hlt2)
            have ho11 := Lib.hid (ho11.mono hkz)
            clear hb ho7 x8
            go_upto_region 11 with (first | (refine wpl_storeG rfl _ _ _ rfl _ _ rfl rfl _ k2.out (by kernel_rfl) rfl hone.out (fun W12 k2 hg hsz => ?_)))
            have k1 := Lib.hid (k1.kept hg (by omega))
            have k3 := Lib.hid (k3.kept hg (by omega))
            have k2 := Lib.hid k2
            have ho11 := Lib.hid (ho11.out.kept hg hoff2.out)
            have kb := Lib.hid (below_gr kb hg (by rw [hG.out]; omega) kb.size)
            clear hg hsz
            go_wp2_with fail
            exact ⟨⟨i + 1, v11, by omega, by go_num, k1.out, k2.out, k3.out, ho11.out, hoff2.out, kb.out⟩, by simp [intOf]; omega⟩
        · obtain rfl : (i : Int) = tries := by omega
          have hi0 : 0 ≤ (i : Int) := by omega
          have hcf := Lib.hid (bS_confirm (i := (i : Int)) (ver := ver) hmp.out h3.out hi0)
          have hcp := Lib.hid (cS_pick (ver := ver) hmp.out h3.out)
          have hcm := Lib.hid (mayB_of (cS_may (ver := ver) hmp.out h3.out))
          have hct := Lib.hid (cS_tgt (ver := ver) hmp.out h3.out)
          go_upto_region 19 with fail
          go_wp2_with (first | (refine wpList_load_arr2 rfl _ _ rfl _ rfl (by decide +kernel) _ (by assumption) (by first | (rw [lims_len]; kernel_rfl) | (rw [el_rep]; kernel_rfl) | (rw [el_len]; kernel_rfl) | (rw [byts_len]; kernel_rfl) | (rw [us_len]; kernel_rfl) | (rw [bytn_len]; kernel_rfl) | (rw [ens_len, digs_len]; kernel_rfl) | kernel_rfl) ?_) | fail)
          refine (confirm_any (bS S m i) vb ver _ ho7.out.ok).mono ?_
          rintro e w10 ⟨v10, rfl, ho10, hb⟩
          rw [hcf.out] at ho10 ⊢
          have k1 := k1.below hb
          have k3 := k3.below hb
          have kb := bel kb hb
          have hone := Lib.hid (StOk.one ho10.ok)
          have ho10 := Lib.hid ho10
          clear hb ho7 k2 hoff
          go_upto_region 20 with (first | (refine wpl_storeG rfl _ _ _ rfl _ _ rfl rfl _ (Arr.new _ _ _) (by kernel_rfl) rfl hone.out (fun W11 k4 hg hsz => ?_)))
          have hb := below_new hg
          have k1 := k1.below hb
          have k3 := k3.below hb
          have kb := bel kb hb
          have ho10 := Lib.hid (ho10.out.below hb)
          obtain ⟨g4, hg4⟩ : ∃ g, w10.heap.size = g := ⟨_, rfl⟩
          rw [hg4] at k4 ⊢
          clear hg hb hsz hg4 hone
          go_wp2_with (first | (refine wpList_load_arr2 rfl _ _ rfl _ rfl (by decide +kernel) _ (by assumption) (by first | (rw [lims_len]; kernel_rfl) | (rw [el_rep]; kernel_rfl) | (rw [el_len]; kernel_rfl) | (rw [byts_len]; kernel_rfl) | (rw [us_len]; kernel_rfl) | (rw [bytn_len]; kernel_rfl) | (rw [ens_len, digs_len]; kernel_rfl) | kernel_rfl) ?_) | fail)
          refine (pick_any (cS S m ver) v10 true true _ ho10.out.ok).mono ?_
          rintro e w12 ⟨he, hb⟩
          rw [hcp.out, hT.out] at he
          subst he
          have k1 := k1.below hb
          have k4 := k4.below hb
          have kb := bel kb hb
          have ho10 := Lib.hid (ho10.out.below hb)
          clear hb k3
          have x0 := k1.cell (j := 0) rfl
          by_cases ha : S.act = 0
          · have hcs : cS S m ver = ⟨flo S.floor ver, S.rev, [], false, 0, m, true, 0, 1⟩ := if_pos ha
            have hT1 : T = 1 := by rw [← hT.out]; exact if_pos ha
            subst hT1
            rw [hcs] at k4 ho10 hct hcm
            have hm1 := ho10.out.m1
            have hm0 := ho10.out.m0
            obtain ⟨a1, c1, e1⟩ := own_shape hm1
            obtain ⟨a0, c0, e0⟩ := own_shape hm0
            obtain ⟨vr10, v0, v1⟩ := v10
            simp only at e1 e0 hm1 hm0
            subst e1 e0
            have hs1 := Lib.hid (Sl.of_own hm1)
            clear hm1 hm0 hcs ha
            have iwz : Hid (IntKind.i64.wrap 0 = 0) := Lib.hid (i64_in (by omega))
            have hw12 : Hid (Below w12.heap.size w12 w12) := Lib.hid (Below.refl _ _)
            have tctr : ∀ w', Below w12.heap.size w12 w' → Calls Try.prog 14 #[.agg (Stt.cs ⟨flo S.floor ver, S.rev, [], false, 0, m, true, 0, 1⟩ ⟨vr10, .slice a0 0 c0, .slice a1 m.length c1⟩).toArray] w' fun e w'' => e = .returned (.int .i64 0) ∧ Below w'.heap.size w' w'' :=
              fun w' hb => (target2_any _ _ w' (ho10.out.ok.below hb)).mono fun e w'' h => ⟨by rw [h.1, hct.out, hT.out] <;> rfl, h.2⟩
            have mctr : ∀ w', Below w12.heap.size w12 w' → Calls Try.prog 20 #[.agg (Stt.cs ⟨flo S.floor ver, S.rev, [], false, 0, m, true, 0, 1⟩ ⟨vr10, .slice a0 0 c0, .slice a1 m.length c1⟩).toArray] w' fun e w'' => e = .returned (.bool true) ∧ Below w'.heap.size w' w'' :=
              fun w' hb => (mayb_any _ _ w' (ho10.out.ok.below hb)).mono fun e w'' h => ⟨by rw [h.1, hcm.out], h.2⟩
            have kbh := Lib.hid kb
            by_cases hv1 : S.floor < ver
            · by_cases hv2 : ver ≤ 2147483647
              · have hfl : flo S.floor ver = ver := by unfold flo; rw [if_pos hv2]; omega
                rw [hfl] at k4 tctr mctr
                replace tctr := Lib.hid tctr
                replace mctr := Lib.hid mctr
                clear hfl
                go_upto_region 24 with fail
                go_upto_region 24 with (first | (refine wpList_load_arr2 rfl _ _ rfl _ rfl (by decide +kernel) _ (by assumption) (by first | (rw [lims_len]; kernel_rfl) | (rw [el_rep]; kernel_rfl) | (rw [el_len]; kernel_rfl) | (rw [byts_len]; kernel_rfl) | (rw [us_len]; kernel_rfl) | (rw [bytn_len]; kernel_rfl) | (rw [ens_len, digs_len]; kernel_rfl) | kernel_rfl) ?_) | (refine wpList_store_arr rfl _ _ _ rfl _ _ rfl rfl _ (by first | assumption | exact Arr.new _ _ _) (by first | (rw [lims_len]; kernel_rfl) | (rw [el_rep]; kernel_rfl) | (rw [el_len]; kernel_rfl) | (rw [byts_len]; kernel_rfl) | (rw [us_len]; kernel_rfl) | (rw [bytn_len]; kernel_rfl) | (rw [ens_len, digs_len]; kernel_rfl) | kernel_rfl) (by first | (rw [lims_len, lims_len]) | (rw [el_rep, el_rep]) | (rw [el_rep, el_len]; rfl) | (rw [el_len, el_rep]; rfl) | (rw [el_len, el_len]; rfl) | (rw [byts_len, byts_len]) | (rw [lims_len]; rfl) | (rw [byts_len]; rfl) | (rw [us_len, us_len]; rfl) | (rw [bytn_len, bytn_len]) | (rw [bytn_len]; rfl) | (rw [ens_len, ens_len, digs_len, digs_len]) | rfl) (by first | exact lims_one _ _ | exact el_one _ | exact byts_one _ | exact us_one _ | exact bytn_one _ _ | exact ens_one _ | (intro v hv; simp at hv; rcases hv with rfl | rfl | rfl | rfl <;> rfl)) ?_))
                refine Tx.start (fun w' => Below (w12).heap.size (w12) w') 9999 52 rfl (by kernel_rfl) ?_
                have hS_1 : Below (w12).heap.size (w12) (World.drew w12) := (Below.refl _ _).drew
                refine Tx.seg (A := ?_) 8 30786325577727 (by kernel_rfl) (by exact hS_1) [0, 1, 2, 3, 4, 5, 6, 7, 8, 9, 10, 11, 12, 13, 14, 15, 16, 17, 18, 19, 20, 21, 22, 23, 24, 25, 26, 27, 28, 29, 30, 31, 32, 33, 34, 35, 36, 37, 38, 39, 40, 41, 43, 44] (by kernel_rfl) ?_ ?_
                rotate_left
                · intro w' hB
                  have e0 := k4.below hB
                  have xa := e0.cell (j := 8) rfl
                  have xb := e0.cell (j := 0) rfl
                  have xc := e0.cell (j := 2) rfl
                  have xd := e0.cell (j := 5) rfl
                  have s1 := str (hs1.out.below (bel hw12.out hB))
                  have s2 := str (hsm.out.below (bel kbh.out hB))
                  have iwA := iwz.out
                  iterate 44 (first | (refine rd_skip rfl rfl ?_; simp only [Act.put, List.setIfInBounds_toArray, List.set_cons_zero, List.set_cons_succ]) | (refine rd_load_arr rfl rfl _ _ rfl _ rfl (by decide +kernel) _ (by assumption) (by first | (rw [lims_len]; kernel_rfl) | (rw [el_rep]; kernel_rfl) | (rw [el_len]; kernel_rfl) | (rw [byts_len]; kernel_rfl) | (rw [us_len]; kernel_rfl) | (rw [bytn_len]; kernel_rfl) | (rw [ens_len, digs_len]; kernel_rfl) | kernel_rfl) ?_; simp only [Act.put, List.setIfInBounds_toArray, List.set_cons_zero, List.set_cons_succ]) | (refine rd_take (v := ?_) rfl rfl ?_ ?_; rotate_left; (focus (go_simp; try (with_reducible rfl))); simp only [Act.put, List.setIfInBounds_toArray, List.set_cons_zero, List.set_cons_succ]) | (refine rd_take (v := ?_) rfl rfl ?_ ?_; rotate_left; (focus (try go_simp); fail)))
                  exact rd_nil
                refine Tx.eff 42 35184372088831 rfl (by decide +kernel) (fun K hK => ?_)
                go_simp
                refine (tctr.out _ hS_1).mono ?_
                rintro e w_2 ⟨rfl, hb_2⟩
                have hS_2 := ext_trans hS_1 (Nat.le_refl _) hb_2
                refine hK (fun w' => Below (w12).heap.size (w12) w') _ _ hS_2 (fun _ h => h) ?_
                clear hK K hb_2 hS_1
                try simp only [Act.put, List.setIfInBounds_toArray, List.set_cons_zero, List.set_cons_succ]
                refine Tx.seg (A := ?_) 3 562949953421311 (by kernel_rfl) (by exact hS_2) [45, 46, 47, 48] (by kernel_rfl) ?_ ?_
                rotate_left
                · intro w' hB
                  have e0 := k4.below hB
                  have xa := e0.cell (j := 8) rfl
                  have xb := e0.cell (j := 0) rfl
                  have xc := e0.cell (j := 2) rfl
                  have xd := e0.cell (j := 5) rfl
                  have s1 := str (hs1.out.below (bel hw12.out hB))
                  have s2 := str (hsm.out.below (bel kbh.out hB))
                  have iwA := iwz.out
                  iterate 4 (first | (refine rd_skip rfl rfl ?_; simp only [Act.put, List.setIfInBounds_toArray, List.set_cons_zero, List.set_cons_succ]) | (refine rd_load_arr rfl rfl _ _ rfl _ rfl (by decide +kernel) _ (by assumption) (by first | (rw [lims_len]; kernel_rfl) | (rw [el_rep]; kernel_rfl) | (rw [el_len]; kernel_rfl) | (rw [byts_len]; kernel_rfl) | (rw [us_len]; kernel_rfl) | (rw [bytn_len]; kernel_rfl) | (rw [ens_len, digs_len]; kernel_rfl) | kernel_rfl) ?_; simp only [Act.put, List.setIfInBounds_toArray, List.set_cons_zero, List.set_cons_succ]) | (refine rd_take (v := ?_) rfl rfl ?_ ?_; rotate_left; (focus (go_simp; try (with_reducible rfl))); simp only [Act.put, List.setIfInBounds_toArray, List.set_cons_zero, List.set_cons_succ]) | (refine rd_take (v := ?_) rfl rfl ?_ ?_; rotate_left; (focus (try go_simp); fail)))
                  exact rd_nil
                refine Tx.eff 49 1125899906842623 rfl (by decide +kernel) (fun K hK => ?_)
                go_simp
                refine (mctr.out _ hS_2).mono ?_
                rintro e w_3 ⟨rfl, hb_3⟩
                have hS_3 := ext_trans hS_2 (Nat.le_refl _) hb_3
                refine hK (fun w' => Below (w12).heap.size (w12) w') _ _ hS_3 (fun _ h => h) ?_
                clear hK K hb_3 hS_2
                try simp only [Act.put, List.setIfInBounds_toArray, List.set_cons_zero, List.set_cons_succ]
                refine Tx.seg (A := ?_) 0 4503599627370495 (by kernel_rfl) (by exact hS_3) [50, 51] (by kernel_rfl) ?_ ?_
                rotate_left
                · intro w' hB
                  iterate 2 (first | (refine rd_skip rfl rfl ?_; simp only [Act.put, List.setIfInBounds_toArray, List.set_cons_zero, List.set_cons_succ]) | (refine rd_load_arr rfl rfl _ _ rfl _ rfl (by decide +kernel) _ (by assumption) (by first | (rw [lims_len]; kernel_rfl) | (rw [el_rep]; kernel_rfl) | (rw [el_len]; kernel_rfl) | (rw [byts_len]; kernel_rfl) | (rw [us_len]; kernel_rfl) | (rw [bytn_len]; kernel_rfl) | (rw [ens_len, digs_len]; kernel_rfl) | kernel_rfl) ?_; simp only [Act.put, List.setIfInBounds_toArray, List.set_cons_zero, List.set_cons_succ]) | (refine rd_take (v := ?_) rfl rfl ?_ ?_; rotate_left; (focus (go_simp; try (with_reducible rfl))); simp only [Act.put, List.setIfInBounds_toArray, List.set_cons_zero, List.set_cons_succ]) | (refine rd_take (v := ?_) rfl rfl ?_ ?_; rotate_left; (focus (try go_simp); fail)))
                  exact rd_nil
                refine Tx.done (by kernel_rfl) ?_
                have k4 := k4.below hS_3
                have kb := bel kb hS_3
                clear hS_3
                go_wp2_with fail
                go_ret
                exact ⟨rfl, kb⟩
              · have hfl : flo S.floor ver = S.floor := by unfold flo; rw [if_neg hv2]
                rw [hfl] at k4 tctr mctr
                replace tctr := Lib.hid tctr
                replace mctr := Lib.hid mctr
                clear hfl
                go_upto_region 24 with fail
                go_upto_region 24 with (first | (refine wpList_load_arr2 rfl _ _ rfl _ rfl (by decide +kernel) _ (by assumption) (by first | (rw [lims_len]; kernel_rfl) | (rw [el_rep]; kernel_rfl) | (rw [el_len]; kernel_rfl) | (rw [byts_len]; kernel_rfl) | (rw [us_len]; kernel_rfl) | (rw [bytn_len]; kernel_rfl) | (rw [ens_len, digs_len]; kernel_rfl) | kernel_rfl) ?_) | (refine wpList_store_arr rfl _ _ _ rfl _ _ rfl rfl _ (by first | assumption | exact Arr.new _ _ _) (by first | (rw [lims_len]; kernel_rfl) | (rw [el_rep]; kernel_rfl) | (rw [el_len]; kernel_rfl) | (rw [byts_len]; kernel_rfl) | (rw [us_len]; kernel_rfl) | (rw [bytn_len]; kernel_rfl) | (rw [ens_len, digs_len]; kernel_rfl) | kernel_rfl) (by first | (rw [lims_len, lims_len]) | (rw [el_rep, el_rep]) | (rw [el_rep, el_len]; rfl) | (rw [el_len, el_rep]; rfl) | (rw [el_len, el_len]; rfl) | (rw [byts_len, byts_len]) | (rw [lims_len]; rfl) | (rw [byts_len]; rfl) | (rw [us_len, us_len]; rfl) | (rw [bytn_len, bytn_len]) | (rw [bytn_len]; rfl) | (rw [ens_len, ens_len, digs_len, digs_len]) | rfl) (by first | exact lims_one _ _ | exact el_one _ | exact byts_one _ | exact us_one _ | exact bytn_one _ _ | exact ens_one _ | (intro v hv; simp at hv; rcases hv with rfl | rfl | rfl | rfl <;> rfl)) ?_))
                refine Tx.start (fun w' => Below (w12).heap.size (w12) w') 9999 52 rfl (by kernel_rfl) ?_
                have hS_4 : Below (w12).heap.size (w12) (World.drew w12) := (Below.refl _ _).drew
                refine Tx.seg (A := ?_) 8 30786325577727 (by kernel_rfl) (by exact hS_4) [0, 1, 2, 3, 4, 5, 6, 7, 8, 9, 10, 11, 12, 13, 14, 15, 16, 17, 18, 19, 20, 21, 22, 23, 24, 25, 26, 27, 28, 29, 30, 31, 32, 33, 34, 35, 36, 37, 38, 39, 40, 41, 43, 44] (by kernel_rfl) ?_ ?_
                rotate_left
                · intro w' hB
                  have e0 := k4.below hB
                  have xa := e0.cell (j := 8) rfl
                  have xb := e0.cell (j := 0) rfl
                  have xc := e0.cell (j := 2) rfl
                  have xd := e0.cell (j := 5) rfl
                  have s1 := str (hs1.out.below (bel hw12.out hB))
                  have s2 := str (hsm.out.below (bel kbh.out hB))
                  have iwA := iwz.out
                  iterate 44 (first | (refine rd_skip rfl rfl ?_; simp only [Act.put, List.setIfInBounds_toArray, List.set_cons_zero, List.set_cons_succ]) | (refine rd_load_arr rfl rfl _ _ rfl _ rfl (by decide +kernel) _ (by assumption) (by first | (rw [lims_len]; kernel_rfl) | (rw [el_rep]; kernel_rfl) | (rw [el_len]; kernel_rfl) | (rw [byts_len]; kernel_rfl) | (rw [us_len]; kernel_rfl) | (rw [bytn_len]; kernel_rfl) | (rw [ens_len, digs_len]; kernel_rfl) | kernel_rfl) ?_; simp only [Act.put, List.setIfInBounds_toArray, List.set_cons_zero, List.set_cons_succ]) | (refine rd_take (v := ?_) rfl rfl ?_ ?_; rotate_left; (focus (go_simp; try (with_reducible rfl))); simp only [Act.put, List.setIfInBounds_toArray, List.set_cons_zero, List.set_cons_succ]) | (refine rd_take (v := ?_) rfl rfl ?_ ?_; rotate_left; (focus (try go_simp); fail)))
                  exact rd_nil
                refine Tx.eff 42 35184372088831 rfl (by decide +kernel) (fun K hK => ?_)
                go_simp
                refine (tctr.out _ hS_4).mono ?_
                rintro e w_5 ⟨rfl, hb_5⟩
                have hS_5 := ext_trans hS_4 (Nat.le_refl _) hb_5
                refine hK (fun w' => Below (w12).heap.size (w12) w') _ _ hS_5 (fun _ h => h) ?_
                clear hK K hb_5 hS_4
                try simp only [Act.put, List.setIfInBounds_toArray, List.set_cons_zero, List.set_cons_succ]
                refine Tx.seg (A := ?_) 3 562949953421311 (by kernel_rfl) (by exact hS_5) [45, 46, 47, 48] (by kernel_rfl) ?_ ?_
                rotate_left
                · intro w' hB
                  have e0 := k4.below hB
                  have xa := e0.cell (j := 8) rfl
                  have xb := e0.cell (j := 0) rfl
                  have xc := e0.cell (j := 2) rfl
                  have xd := e0.cell (j := 5) rfl
                  have s1 := str (hs1.out.below (bel hw12.out hB))
                  have s2 := str (hsm.out.below (bel kbh.out hB))
                  have iwA := iwz.out
                  iterate 4 (first | (refine rd_skip rfl rfl ?_; simp only [Act.put, List.setIfInBounds_toArray, List.set_cons_zero, List.set_cons_succ]) | (refine rd_load_arr rfl rfl _ _ rfl _ rfl (by decide +kernel) _ (by assumption) (by first | (rw [lims_len]; kernel_rfl) | (rw [el_rep]; kernel_rfl) | (rw [el_len]; kernel_rfl) | (rw [byts_len]; kernel_rfl) | (rw [us_len]; kernel_rfl) | (rw [bytn_len]; kernel_rfl) | (rw [ens_len, digs_len]; kernel_rfl) | kernel_rfl) ?_; simp only [Act.put, List.setIfInBounds_toArray, List.set_cons_zero, List.set_cons_succ]) | (refine rd_take (v := ?_) rfl rfl ?_ ?_; rotate_left; (focus (go_simp; try (with_reducible rfl))); simp only [Act.put, List.setIfInBounds_toArray, List.set_cons_zero, List.set_cons_succ]) | (refine rd_take (v := ?_) rfl rfl ?_ ?_; rotate_left; (focus (try go_simp); fail)))
                  exact rd_nil
                refine Tx.eff 49 1125899906842623 rfl (by decide +kernel) (fun K hK => ?_)
                go_simp
                refine (mctr.out _ hS_5).mono ?_
                rintro e w_6 ⟨rfl, hb_6⟩
                have hS_6 := ext_trans hS_5 (Nat.le_refl _) hb_6
                refine hK (fun w' => Below (w12).heap.size (w12) w') _ _ hS_6 (fun _ h => h) ?_
                clear hK K hb_6 hS_5
                try simp only [Act.put, List.setIfInBounds_toArray, List.set_cons_zero, List.set_cons_succ]
                refine Tx.seg (A := ?_) 0 4503599627370495 (by kernel_rfl) (by exact hS_6) [50, 51] (by kernel_rfl) ?_ ?_
                rotate_left
                · intro w' hB
                  iterate 2 (first | (refine rd_skip rfl rfl ?_; simp only [Act.put, List.setIfInBounds_toArray, List.set_cons_zero, List.set_cons_succ]) | (refine rd_load_arr rfl rfl _ _ rfl _ rfl (by decide +kernel) _ (by assumption) (by first | (rw [lims_len]; kernel_rfl) | (rw [el_rep]; kernel_rfl) | (rw [el_len]; kernel_rfl) | (rw [byts_len]; kernel_rfl) | (rw [us_len]; kernel_rfl) | (rw [bytn_len]; kernel_rfl) | (rw [ens_len, digs_len]; kernel_rfl) | kernel_rfl) ?_; simp only [Act.put, List.setIfInBounds_toArray, List.set_cons_zero, List.set_cons_succ]) | (refine rd_take (v := ?_) rfl rfl ?_ ?_; rotate_left; (focus (go_simp; try (with_reducible rfl))); simp only [Act.put, List.setIfInBounds_toArray, List.set_cons_zero, List.set_cons_succ]) | (refine rd_take (v := ?_) rfl rfl ?_ ?_; rotate_left; (focus (try go_simp); fail)))
                  exact rd_nil
                refine Tx.done (by kernel_rfl) ?_
                have k4 := k4.below hS_6
                have kb := bel kb hS_6
                clear hS_6
                go_wp2_with fail
                go_ret
                exact ⟨rfl, kb⟩
            · have hfl : flo S.floor ver = S.floor := by unfold flo; split <;> omega
              rw [hfl] at k4 tctr mctr
              replace tctr := Lib.hid tctr
              replace mctr := Lib.hid mctr
              clear hfl
              go_upto_region 24 with fail
              go_upto_region 24 with (first | (refine wpList_load_arr2 rfl _ _ rfl _ rfl (by decide +kernel) _ (by assumption) (by first | (rw [lims_len]; kernel_rfl) | (rw [el_rep]; kernel_rfl) | (rw [el_len]; kernel_rfl) | (rw [byts_len]; kernel_rfl) | (rw [us_len]; kernel_rfl) | (rw [bytn_len]; kernel_rfl) | (rw [ens_len, digs_len]; kernel_rfl) | kernel_rfl) ?_) | (refine wpList_store_arr rfl _ _ _ rfl _ _ rfl rfl _ (by first | assumption | exact Arr.new _ _ _) (by first | (rw [lims_len]; kernel_rfl) | (rw [el_rep]; kernel_rfl) | (rw [el_len]; kernel_rfl) | (rw [byts_len]; kernel_rfl) | (rw [us_len]; kernel_rfl) | (rw [bytn_len]; kernel_rfl) | (rw [ens_len, digs_len]; kernel_rfl) | kernel_rfl) (by first | (rw [lims_len, lims_len]) | (rw [el_rep, el_rep]) | (rw [el_rep, el_len]; rfl) | (rw [el_len, el_rep]; rfl) | (rw [el_len, el_len]; rfl) | (rw [byts_len, byts_len]) | (rw [lims_len]; rfl) | (rw [byts_len]; rfl) | (rw [us_len, us_len]; rfl) | (rw [bytn_len, bytn_len]) | (rw [bytn_len]; rfl) | (rw [ens_len, ens_len, digs_len, digs_len]) | rfl) (by first | exact lims_one _ _ | exact el_one _ | exact byts_one _ | exact us_one _ | exact bytn_one _ _ | exact ens_one _ | (intro v hv; simp at hv; rcases hv with rfl | rfl | rfl | rfl <;> rfl)) ?_))
              refine Tx.start (fun w' => Below (w12).heap.size (w12) w') 9999 52 rfl (by kernel_rfl) ?_
              have hS_7 : Below (w12).heap.size (w12) (World.drew w12) := (Below.refl _ _).drew
              refine Tx.seg (A := ?_) 8 30786325577727 (by kernel_rfl) (by exact hS_7) [0, 1, 2, 3, 4, 5, 6, 7, 8, 9, 10, 11, 12, 13, 14, 15, 16, 17, 18, 19, 20, 21, 22, 23, 24, 25, 26, 27, 28, 29, 30, 31, 32, 33, 34, 35, 36, 37, 38, 39, 40, 41, 43, 44] (by kernel_rfl) ?_ ?_
              rotate_left
              · intro w' hB
                have e0 := k4.below hB
                have xa := e0.cell (j := 8) rfl
                have xb := e0.cell (j := 0) rfl
                have xc := e0.cell (j := 2) rfl
                have xd := e0.cell (j := 5) rfl
                have s1 := str (hs1.out.below (bel hw12.out hB))
                have s2 := str (hsm.out.below (bel kbh.out hB))
                have iwA := iwz.out
                iterate 44 (first | (refine rd_skip rfl rfl ?_; simp only [Act.put, List.setIfInBounds_toArray, List.set_cons_zero, List.set_cons_succ]) | (refine rd_load_arr rfl rfl _ _ rfl _ rfl (by decide +kernel) _ (by assumption) (by first | (rw [lims_len]; kernel_rfl) | (rw [el_rep]; kernel_rfl) | (rw [el_len]; kernel_rfl) | (rw [byts_len]; kernel_rfl) | (rw [us_len]; kernel_rfl) | (rw [bytn_len]; kernel_rfl) | (rw [ens_len, digs_len]; kernel_rfl) | kernel_rfl) ?_; simp only [Act.put, List.setIfInBounds_toArray, List.set_cons_zero, List.set_cons_succ]) | (refine rd_take (v := ?_) rfl rfl ?_ ?_; rotate_left; (focus (go_simp; try (with_reducible rfl))); simp only [Act.put, List.setIfInBounds_toArray, List.set_cons_zero, List.set_cons_succ]) | (refine rd_take (v := ?_) rfl rfl ?_ ?_; rotate_left; (focus (try go_simp); fail)))
                exact rd_nil
              refine Tx.eff 42 35184372088831 rfl (by decide +kernel) (fun K hK => ?_)
              go_simp
              refine (tctr.out _ hS_7).mono ?_
              rintro e w_8 ⟨rfl, hb_8⟩
              have hS_8 := ext_trans hS_7 (Nat.le_refl _) hb_8
              refine hK (fun w' => Below (w12).heap.size (w12) w') _ _ hS_8 (fun _ h => h) ?_
              clear hK K hb_8 hS_7
              try simp only [Act.put, List.setIfInBounds_toArray, List.set_cons_zero, List.set_cons_succ]
              refine Tx.seg (A := ?_) 3 562949953421311 (by kernel_rfl) (by exact hS_8) [45, 46, 47, 48] (by kernel_rfl) ?_ ?_
              rotate_left
              · intro w' hB
                have e0 := k4.below hB
                have xa := e0.cell (j := 8) rfl
                have xb := e0.cell (j := 0) rfl
                have xc := e0.cell (j := 2) rfl
                have xd := e0.cell (j := 5) rfl
                have s1 := str (hs1.out.below (bel hw12.out hB))
                have s2 := str (hsm.out.below (bel kbh.out hB))
                have iwA := iwz.out
                iterate 4 (first | (refine rd_skip rfl rfl ?_; simp only [Act.put, List.setIfInBounds_toArray, List.set_cons_zero, List.set_cons_succ]) | (refine rd_load_arr rfl rfl _ _ rfl _ rfl (by decide +kernel) _ (by assumption) (by first | (rw [lims_len]; kernel_rfl) | (rw [el_rep]; kernel_rfl) | (rw [el_len]; kernel_rfl) | (rw [byts_len]; kernel_rfl) | (rw [us_len]; kernel_rfl) | (rw [bytn_len]; kernel_rfl) | (rw [ens_len, digs_len]; kernel_rfl) | kernel_rfl) ?_; simp only [Act.put, List.setIfInBounds_toArray, List.set_cons_zero, List.set_cons_succ]) | (refine rd_take (v := ?_) rfl rfl ?_ ?_; rotate_left; (focus (go_simp; try (with_reducible rfl))); simp only [Act.put, List.setIfInBounds_toArray, List.set_cons_zero, List.set_cons_succ]) | (refine rd_take (v := ?_) rfl rfl ?_ ?_; rotate_left; (focus (try go_simp); fail)))
                exact rd_nil
              refine Tx.eff 49 1125899906842623 rfl (by decide +kernel) (fun K hK => ?_)
              go_simp
              refine (mctr.out _ hS_8).mono ?_
              rintro e w_9 ⟨rfl, hb_9⟩
              have hS_9 := ext_trans hS_8 (Nat.le_refl _) hb_9
              refine hK (fun w' => Below (w12).heap.size (w12) w') _ _ hS_9 (fun _ h => h) ?_
              clear hK K hb_9 hS_8
              try simp only [Act.put, List.setIfInBounds_toArray, List.set_cons_zero, List.set_cons_succ]
              refine Tx.seg (A := ?_) 0 4503599627370495 (by kernel_rfl) (by exact hS_9) [50, 51] (by kernel_rfl) ?_ ?_
              rotate_left
              · intro w' hB
                iterate 2 (first | (refine rd_skip rfl rfl ?_; simp only [Act.put, List.setIfInBounds_toArray, List.set_cons_zero, List.set_cons_succ]) | (refine rd_load_arr rfl rfl _ _ rfl _ rfl (by decide +kernel) _ (by assumption) (by first | (rw [lims_len]; kernel_rfl) | (rw [el_rep]; kernel_rfl) | (rw [el_len]; kernel_rfl) | (rw [byts_len]; kernel_rfl) | (rw [us_len]; kernel_rfl) | (rw [bytn_len]; kernel_rfl) | (rw [ens_len, digs_len]; kernel_rfl) | kernel_rfl) ?_; simp only [Act.put, List.setIfInBounds_toArray, List.set_cons_zero, List.set_cons_succ]) | (refine rd_take (v := ?_) rfl rfl ?_ ?_; rotate_left; (focus (go_simp; try (with_reducible rfl))); simp only [Act.put, List.setIfInBounds_toArray, List.set_cons_zero, List.set_cons_succ]) | (refine rd_take (v := ?_) rfl rfl ?_ ?_; rotate_left; (focus (try go_simp); fail)))
                exact rd_nil
              refine Tx.done (by kernel_rfl) ?_
              have k4 := k4.below hS_9
              have kb := bel kb hS_9
              clear hS_9
              go_wp2_with fail
              go_ret
              exact ⟨rfl, kb⟩
          · have hcs : cS S m ver = ⟨flo S.floor ver, S.rev, m, true, 0, [], false, 0, 0⟩ := if_neg ha
            have hT1 : T = 0 := by rw [← hT.out]; exact if_neg ha
            subst hT1
            rw [hcs] at k4 ho10 hct hcm
            have hm1 := ho10.out.m1
            have hm0 := ho10.out.m0
            obtain ⟨a1, c1, e1⟩ := own_shape hm1
            obtain ⟨a0, c0, e0⟩ := own_shape hm0
            obtain ⟨vr10, v0, v1⟩ := v10
            simp only at e1 e0 hm1 hm0
            subst e1 e0
            have hs1 := Lib.hid (Sl.of_own hm0)
            clear hm1 hm0 hcs ha
            have iwz : Hid (IntKind.i64.wrap 1 = 1) := Lib.hid (i64_in (by omega))
            have hw12 : Hid (Below w12.heap.size w12 w12) := Lib.hid (Below.refl _ _)
            have tctr : ∀ w', Below w12.heap.size w12 w' → Calls Try.prog 14 #[.agg (Stt.cs ⟨flo S.floor ver, S.rev, m, true, 0, [], false, 0, 0⟩ ⟨vr10, .slice a0 m.length c0, .slice a1 0 c1⟩).toArray] w' fun e w'' => e = .returned (.int .i64 1) ∧ Below w'.heap.size w' w'' :=
              fun w' hb => (target2_any _ _ w' (ho10.out.ok.below hb)).mono fun e w'' h => ⟨by rw [h.1, hct.out, hT.out] <;> rfl, h.2⟩
            have mctr : ∀ w', Below w12.heap.size w12 w' → Calls Try.prog 20 #[.agg (Stt.cs ⟨flo S.floor ver, S.rev, m, true, 0, [], false, 0, 0⟩ ⟨vr10, .slice a0 m.length c0, .slice a1 0 c1⟩).toArray] w' fun e w'' => e = .returned (.bool true) ∧ Below w'.heap.size w' w'' :=
              fun w' hb => (mayb_any _ _ w' (ho10.out.ok.below hb)).mono fun e w'' h => ⟨by rw [h.1, hcm.out], h.2⟩
            have kbh := Lib.hid kb
            by_cases hv1 : S.floor < ver
            · by_cases hv2 : ver ≤ 2147483647
              · have hfl : flo S.floor ver = ver := by unfold flo; rw [if_pos hv2]; omega
                rw [hfl] at k4 tctr mctr
                replace tctr := Lib.hid tctr
                replace mctr := Lib.hid mctr
                clear hfl
                go_upto_region 24 with fail
                go_upto_region 24 with (first | (refine wpList_load_arr2 rfl _ _ rfl _ rfl (by decide +kernel) _ (by assumption) (by first | (rw [lims_len]; kernel_rfl) | (rw [el_rep]; kernel_rfl) | (rw [el_len]; kernel_rfl) | (rw [byts_len]; kernel_rfl) | (rw [us_len]; kernel_rfl) | (rw [bytn_len]; kernel_rfl) | (rw [ens_len, digs_len]; kernel_rfl) | kernel_rfl) ?_) | (refine wpList_store_arr rfl _ _ _ rfl _ _ rfl rfl _ (by first | assumption | exact Arr.new _ _ _) (by first | (rw [lims_len]; kernel_rfl) | (rw [el_rep]; kernel_rfl) | (rw [el_len]; kernel_rfl) | (rw [byts_len]; kernel_rfl) | (rw [us_len]; kernel_rfl) | (rw [bytn_len]; kernel_rfl) | (rw [ens_len, digs_len]; kernel_rfl) | kernel_rfl) (by first | (rw [lims_len, lims_len]) | (rw [el_rep, el_rep]) | (rw [el_rep, el_len]; rfl) | (rw [el_len, el_rep]; rfl) | (rw [el_len, el_len]; rfl) | (rw [byts_len, byts_len]) | (rw [lims_len]; rfl) | (rw [byts_len]; rfl) | (rw [us_len, us_len]; rfl) | (rw [bytn_len, bytn_len]) | (rw [bytn_len]; rfl) | (rw [ens_len, ens_len, digs_len, digs_len]) | rfl) (by first | exact lims_one _ _ | exact el_one _ | exact byts_one _ | exact us_one _ | exact bytn_one _ _ | exact ens_one _ | (intro v hv; simp at hv; rcases hv with rfl | rfl | rfl | rfl <;> rfl)) ?_))
                refine Tx.start (fun w' => Below (w12).heap.size (w12) w') 9999 52 rfl (by kernel_rfl) ?_
                have hS_10 : Below (w12).heap.size (w12) (World.drew w12) := (Below.refl _ _).drew
                refine Tx.seg (A := ?_) 8 30786325577727 (by kernel_rfl) (by exact hS_10) [0, 1, 2, 3, 4, 5, 6, 7, 8, 9, 10, 11, 12, 13, 14, 15, 16, 17, 18, 19, 20, 21, 22, 23, 24, 25, 26, 27, 28, 29, 30, 31, 32, 33, 34, 35, 36, 37, 38, 39, 40, 41, 43, 44] (by kernel_rfl) ?_ ?_
                rotate_left
                · intro w' hB
                  have e0 := k4.below hB
                  have xa := e0.cell (j := 8) rfl
                  have xb := e0.cell (j := 0) rfl
                  have xc := e0.cell (j := 2) rfl
                  have xd := e0.cell (j := 5) rfl
                  have s1 := str (hs1.out.below (bel hw12.out hB))
                  have s2 := str (hsm.out.below (bel kbh.out hB))
                  have iwA := iwz.out
                  iterate 44 (first | (refine rd_skip rfl rfl ?_; simp only [Act.put, List.setIfInBounds_toArray, List.set_cons_zero, List.set_cons_succ]) | (refine rd_load_arr rfl rfl _ _ rfl _ rfl (by decide +kernel) _ (by assumption) (by first | (rw [lims_len]; kernel_rfl) | (rw [el_rep]; kernel_rfl) | (rw [el_len]; kernel_rfl) | (rw [byts_len]; kernel_rfl) | (rw [us_len]; kernel_rfl) | (rw [bytn_len]; kernel_rfl) | (rw [ens_len, digs_len]; kernel_rfl) | kernel_rfl) ?_; simp only [Act.put, List.setIfInBounds_toArray, List.set_cons_zero, List.set_cons_succ]) | (refine rd_take (v := ?_) rfl rfl ?_ ?_; rotate_left; (focus (go_simp; try (with_reducible rfl))); simp only [Act.put, List.setIfInBounds_toArray, List.set_cons_zero, List.set_cons_succ]) | (refine rd_take (v := ?_) rfl rfl ?_ ?_; rotate_left; (focus (try go_simp); fail)))
                  exact rd_nil
                refine Tx.eff 42 35184372088831 rfl (by decide +kernel) (fun K hK => ?_)
                go_simp
                refine (tctr.out _ hS_10).mono ?_
                rintro e w_11 ⟨rfl, hb_11⟩
                have hS_11 := ext_trans hS_10 (Nat.le_refl _) hb_11
                refine hK (fun w' => Below (w12).heap.size (w12) w') _ _ hS_11 (fun _ h => h) ?_
                clear hK K hb_11 hS_10
                try simp only [Act.put, List.setIfInBounds_toArray, List.set_cons_zero, List.set_cons_succ]
                refine Tx.seg (A := ?_) 3 562949953421311 (by kernel_rfl) (by exact hS_11) [45, 46, 47, 48] (by kernel_rfl) ?_ ?_
                rotate_left
                · intro w' hB
                  have e0 := k4.below hB
                  have xa := e0.cell (j := 8) rfl
                  have xb := e0.cell (j := 0) rfl
                  have xc := e0.cell (j := 2) rfl
                  have xd := e0.cell (j := 5) rfl
                  have s1 := str (hs1.out.below (bel hw12.out hB))
                  have s2 := str (hsm.out.below (bel kbh.out hB))
                  have iwA := iwz.out
                  iterate 4 (first | (refine rd_skip rfl rfl ?_; simp only [Act.put, List.setIfInBounds_toArray, List.set_cons_zero, List.set_cons_succ]) | (refine rd_load_arr rfl rfl _ _ rfl _ rfl (by decide +kernel) _ (by assumption) (by first | (rw [lims_len]; kernel_rfl) | (rw [el_rep]; kernel_rfl) | (rw [el_len]; kernel_rfl) | (rw [byts_len]; kernel_rfl) | (rw [us_len]; kernel_rfl) | (rw [bytn_len]; kernel_rfl) | (rw [ens_len, digs_len]; kernel_rfl) | kernel_rfl) ?_; simp only [Act.put, List.setIfInBounds_toArray, List.set_cons_zero, List.set_cons_succ]) | (refine rd_take (v := ?_) rfl rfl ?_ ?_; rotate_left; (focus (go_simp; try (with_reducible rfl))); simp only [Act.put, List.setIfInBounds_toArray, List.set_cons_zero, List.set_cons_succ]) | (refine rd_take (v := ?_) rfl rfl ?_ ?_; rotate_left; (focus (try go_simp); fail)))
                  exact rd_nil
                refine Tx.eff 49 1125899906842623 rfl (by decide +kernel) (fun K hK => ?_)
                go_simp
                refine (mctr.out _ hS_11).mono ?_
                rintro e w_12 ⟨rfl, hb_12⟩
                have hS_12 := ext_trans hS_11 (Nat.le_refl _) hb_12
                refine hK (fun w' => Below (w12).heap.size (w12) w') _ _ hS_12 (fun _ h => h) ?_
                clear hK K hb_12 hS_11
                try simp only [Act.put, List.setIfInBounds_toArray, List.set_cons_zero, List.set_cons_succ]
                refine Tx.seg (A := ?_) 0 4503599627370495 (by kernel_rfl) (by exact hS_12) [50, 51] (by kernel_rfl) ?_ ?_
                rotate_left
                · intro w' hB
                  iterate 2 (first | (refine rd_skip rfl rfl ?_; simp only [Act.put, List.setIfInBounds_toArray, List.set_cons_zero, List.set_cons_succ]) | (refine rd_load_arr rfl rfl _ _ rfl _ rfl (by decide +kernel) _ (by assumption) (by first | (rw [lims_len]; kernel_rfl) | (rw [el_rep]; kernel_rfl) | (rw [el_len]; kernel_rfl) | (rw [byts_len]; kernel_rfl) | (rw [us_len]; kernel_rfl) | (rw [bytn_len]; kernel_rfl) | (rw [ens_len, digs_len]; kernel_rfl) | kernel_rfl) ?_; simp only [Act.put, List.setIfInBounds_toArray, List.set_cons_zero, List.set_cons_succ]) | (refine rd_take (v := ?_) rfl rfl ?_ ?_; rotate_left; (focus (go_simp; try (with_reducible rfl))); simp only [Act.put, List.setIfInBounds_toArray, List.set_cons_zero, List.set_cons_succ]) | (refine rd_take (v := ?_) rfl rfl ?_ ?_; rotate_left; (focus (try go_simp); fail)))
                  exact rd_nil
                refine Tx.done (by kernel_rfl) ?_
                have k4 := k4.below hS_12
                have kb := bel kb hS_12
                clear hS_12
                go_wp2_with fail
                go_ret
                exact ⟨rfl, kb⟩
              · have hfl : flo S.floor ver = S.floor := by unfold flo; rw [if_neg hv2]
                rw [hfl] at k4 tctr mctr
                replace tctr := Lib.hid tctr
                replace mctr := Lib.hid mctr
                clear hfl
                go_upto_region 24 with fail
                go_upto_region 24 with (first | (refine wpList_load_arr2 rfl _ _ rfl _ rfl (by decide +kernel) _ (by assumption) (by first | (rw [lims_len]; kernel_rfl) | (rw [el_rep]; kernel_rfl) | (rw [el_len]; kernel_rfl) | (rw [byts_len]; kernel_rfl) | (rw [us_len]; kernel_rfl) | (rw [bytn_len]; kernel_rfl) | (rw [ens_len, digs_len]; kernel_rfl) | kernel_rfl) ?_) | (refine wpList_store_arr rfl _ _ _ rfl _ _ rfl rfl _ (by first | assumption | exact Arr.new _ _ _) (by first | (rw [lims_len]; kernel_rfl) | (rw [el_rep]; kernel_rfl) | (rw [el_len]; kernel_rfl) | (rw [byts_len]; kernel_rfl) | (rw [us_len]; kernel_rfl) | (rw [bytn_len]; kernel_rfl) | (rw [ens_len, digs_len]; kernel_rfl) | kernel_rfl) (by first | (rw [lims_len, lims_len]) | (rw [el_rep, el_rep]) | (rw [el_rep, el_len]; rfl) | (rw [el_len, el_rep]; rfl) | (rw [el_len, el_len]; rfl) | (rw [byts_len, byts_len]) | (rw [lims_len]; rfl) | (rw [byts_len]; rfl) | (rw [us_len, us_len]; rfl) | (rw [bytn_len, bytn_len]) | (rw [bytn_len]; rfl) | (rw [ens_len, ens_len, digs_len, digs_len]) | rfl) (by first | exact lims_one _ _ | exact el_one _ | exact byts_one _ | exact us_one _ | exact bytn_one _ _ | exact ens_one _ | (intro v hv; simp at hv; rcases hv with rfl | rfl | rfl | rfl <;> rfl)) ?_))
                refine Tx.start (fun w' => Below (w12).heap.size (w12) w') 9999 52 rfl (by kernel_rfl) ?_
                have hS_13 : Below (w12).heap.size (w12) (World.drew w12) := (Below.refl _ _).drew
                refine Tx.seg (A := ?_) 8 30786325577727 (by kernel_rfl) (by exact hS_13) [0, 1, 2, 3, 4, 5, 6, 7, 8, 9, 10, 11, 12, 13, 14, 15, 16, 17, 18, 19, 20, 21, 22, 23, 24, 25, 26, 27, 28, 29, 30, 31, 32, 33, 34, 35, 36, 37, 38, 39, 40, 41, 43, 44] (by kernel_rfl) ?_ ?_
                rotate_left
                · intro w' hB
                  have e0 := k4.below hB
                  have xa := e0.cell (j := 8) rfl
                  have xb := e0.cell (j := 0) rfl
                  have xc := e0.cell (j := 2) rfl
                  have xd := e0.cell (j := 5) rfl
                  have s1 := str (hs1.out.below (bel hw12.out hB))
                  have s2 := str (hsm.out.below (bel kbh.out hB))
                  have iwA := iwz.out
                  iterate 44 (first | (refine rd_skip rfl rfl ?_; simp only [Act.put, List.setIfInBounds_toArray, List.set_cons_zero, List.set_cons_succ]) | (refine rd_load_arr rfl rfl _ _ rfl _ rfl (by decide +kernel) _ (by assumption) (by first | (rw [lims_len]; kernel_rfl) | (rw [el_rep]; kernel_rfl) | (rw [el_len]; kernel_rfl) | (rw [byts_len]; kernel_rfl) | (rw [us_len]; kernel_rfl) | (rw [bytn_len]; kernel_rfl) | (rw [ens_len, digs_len]; kernel_rfl) | kernel_rfl) ?_; simp only [Act.put, List.setIfInBounds_toArray, List.set_cons_zero, List.set_cons_succ]) | (refine rd_take (v := ?_) rfl rfl ?_ ?_; rotate_left; (focus (go_simp; try (with_reducible rfl))); simp only [Act.put, List.setIfInBounds_toArray, List.set_cons_zero, List.set_cons_succ]) | (refine rd_take (v := ?_) rfl rfl ?_ ?_; rotate_left; (focus (try go_simp); fail)))
                  exact rd_nil
                refine Tx.eff 42 35184372088831 rfl (by decide +kernel) (fun K hK => ?_)
                go_simp
                refine (tctr.out _ hS_13).mono ?_
                rintro e w_14 ⟨rfl, hb_14⟩
                have hS_14 := ext_trans hS_13 (Nat.le_refl _) hb_14
                refine hK (fun w' => Below (w12).heap.size (w12) w') _ _ hS_14 (fun _ h => h) ?_
                clear hK K hb_14 hS_13
                try simp only [Act.put, List.setIfInBounds_toArray, List.set_cons_zero, List.set_cons_succ]
                refine Tx.seg (A := ?_) 3 562949953421311 (by kernel_rfl) (by exact hS_14) [45, 46, 47, 48] (by kernel_rfl) ?_ ?_
                rotate_left
                · intro w' hB
                  have e0 := k4.below hB
                  have xa := e0.cell (j := 8) rfl
                  have xb := e0.cell (j := 0) rfl
                  have xc := e0.cell (j := 2) rfl
                  have xd := e0.cell (j := 5) rfl
                  have s1 := str (hs1.out.below (bel hw12.out hB))
                  have s2 := str (hsm.out.below (bel kbh.out hB))
                  have iwA := iwz.out
                  iterate 4 (first | (refine rd_skip rfl rfl ?_; simp only [Act.put, List.setIfInBounds_toArray, List.set_cons_zero, List.set_cons_succ]) | (refine rd_load_arr rfl rfl _ _ rfl _ rfl (by decide +kernel) _ (by assumption) (by first | (rw [lims_len]; kernel_rfl) | (rw [el_rep]; kernel_rfl) | (rw [el_len]; kernel_rfl) | (rw [byts_len]; kernel_rfl) | (rw [us_len]; kernel_rfl) | (rw [bytn_len]; kernel_rfl) | (rw [ens_len, digs_len]; kernel_rfl) | kernel_rfl) ?_; simp only [Act.put, List.setIfInBounds_toArray, List.set_cons_zero, List.set_cons_succ]) | (refine rd_take (v := ?_) rfl rfl ?_ ?_; rotate_left; (focus (go_simp; try (with_reducible rfl))); simp only [Act.put, List.setIfInBounds_toArray, List.set_cons_zero, List.set_cons_succ]) | (refine rd_take (v := ?_) rfl rfl ?_ ?_; rotate_left; (focus (try go_simp); fail)))
                  exact rd_nil
                refine Tx.eff 49 1125899906842623 rfl (by decide +kernel) (fun K hK => ?_)
                go_simp
                refine (mctr.out _ hS_14).mono ?_
                rintro e w_15 ⟨rfl, hb_15⟩
                have hS_15 := ext_trans hS_14 (Nat.le_refl _) hb_15
                refine hK (fun w' => Below (w12).heap.size (w12) w') _ _ hS_15 (fun _ h => h) ?_
                clear hK K hb_15 hS_14
                try simp only [Act.put, List.setIfInBounds_toArray, List.set_cons_zero, List.set_cons_succ]
                refine Tx.seg (A := ?_) 0 4503599627370495 (by kernel_rfl) (by exact hS_15) [50, 51] (by kernel_rfl) ?_ ?_
                rotate_left
                · intro w' hB
                  iterate 2 (first | (refine rd_skip rfl rfl ?_; simp only [Act.put, List.setIfInBounds_toArray, List.set_cons_zero, List.set_cons_succ]) | (refine rd_load_arr rfl rfl _ _ rfl _ rfl (by decide +kernel) _ (by assumption) (by first | (rw [lims_len]; kernel_rfl) | (rw [el_rep]; kernel_rfl) | (rw [el_len]; kernel_rfl) | (rw [byts_len]; kernel_rfl) | (rw [us_len]; kernel_rfl) | (rw [bytn_len]; kernel_rfl) | (rw [ens_len, digs_len]; kernel_rfl) | kernel_rfl) ?_; simp only [Act.put, List.setIfInBounds_toArray, List.set_cons_zero, List.set_cons_succ]) | (refine rd_take (v := ?_) rfl rfl ?_ ?_; rotate_left; (focus (go_simp; try (with_reducible rfl))); simp only [Act.put, List.setIfInBounds_toArray, List.set_cons_zero, List.set_cons_succ]) | (refine rd_take (v := ?_) rfl rfl ?_ ?_; rotate_left; (focus (try go_simp); fail)))
                  exact rd_nil
                refine Tx.done (by kernel_rfl) ?_
                have k4 := k4.below hS_15
                have kb := bel kb hS_15
                clear hS_15
                go_wp2_with fail
                go_ret
                exact ⟨rfl, kb⟩
            · have hfl : flo S.floor ver = S.floor := by unfold flo; split <;> omega
              rw [hfl] at k4 tctr mctr
              replace tctr := Lib.hid tctr
              replace mctr := Lib.hid mctr
              clear hfl
              go_upto_region 24 with fail
              go_upto_region 24 with (first | (refine wpList_load_arr2 rfl _ _ rfl _ rfl (by decide +kernel) _ (by assumption) (by first | (rw [lims_len]; kernel_rfl) | (rw [el_rep]; kernel_rfl) | (rw [el_len]; kernel_rfl) | (rw [byts_len]; kernel_rfl) | (rw [us_len]; kernel_rfl) | (rw [bytn_len]; kernel_rfl) | (rw [ens_len, digs_len]; kernel_rfl) | kernel_rfl) ?_) | (refine wpList_store_arr rfl _ _ _ rfl _ _ rfl rfl _ (by first | assumption | exact Arr.new _ _ _) (by first | (rw [lims_len]; kernel_rfl) | (rw [el_rep]; kernel_rfl) | (rw [el_len]; kernel_rfl) | (rw [byts_len]; kernel_rfl) | (rw [us_len]; kernel_rfl) | (rw [bytn_len]; kernel_rfl) | (rw [ens_len, digs_len]; kernel_rfl) | kernel_rfl) (by first | (rw [lims_len, lims_len]) | (rw [el_rep, el_rep]) | (rw [el_rep, el_len]; rfl) | (rw [el_len, el_rep]; rfl) | (rw [el_len, el_len]; rfl) | (rw [byts_len, byts_len]) | (rw [lims_len]; rfl) | (rw [byts_len]; rfl) | (rw [us_len, us_len]; rfl) | (rw [bytn_len, bytn_len]) | (rw [bytn_len]; rfl) | (rw [ens_len, ens_len, digs_len, digs_len]) | rfl) (by first | exact lims_one _ _ | exact el_one _ | exact byts_one _ | exact us_one _ | exact bytn_one _ _ | exact ens_one _ | (intro v hv; simp at hv; rcases hv with rfl | rfl | rfl | rfl <;> rfl)) ?_))
              refine Tx.start (fun w' => Below (w12).heap.size (w12) w') 9999 52 rfl (by kernel_rfl) ?_
              have hS_16 : Below (w12).heap.size (w12) (World.drew w12) := (Below.refl _ _).drew
              refine Tx.seg (A := ?_) 8 30786325577727 (by kernel_rfl) (by exact hS_16) [0, 1, 2, 3, 4, 5, 6, 7, 8, 9, 10, 11, 12, 13, 14, 15, 16, 17, 18, 19, 20, 21, 22, 23, 24, 25, 26, 27, 28, 29, 30, 31, 32, 33, 34, 35, 36, 37, 38, 39, 40, 41, 43, 44] (by kernel_rfl) ?_ ?_
              rotate_left
              · intro w' hB
                have e0 := k4.below hB
                have xa := e0.cell (j := 8) rfl
                have xb := e0.cell (j := 0) rfl
                have xc := e0.cell (j := 2) rfl
                have xd := e0.cell (j := 5) rfl
                have s1 := str (hs1.out.below (bel hw12.out hB))
                have s2 := str (hsm.out.below (bel kbh.out hB))
                have iwA := iwz.out
                iterate 44 (first | (refine rd_skip rfl rfl ?_; simp only [Act.put, List.setIfInBounds_toArray, List.set_cons_zero, List.set_cons_succ]) | (refine rd_load_arr rfl rfl _ _ rfl _ rfl (by decide +kernel) _ (by assumption) (by first | (rw [lims_len]; kernel_rfl) | (rw [el_rep]; kernel_rfl) | (rw [el_len]; kernel_rfl) | (rw [byts_len]; kernel_rfl) | (rw [us_len]; kernel_rfl) | (rw [bytn_len]; kernel_rfl) | (rw [ens_len, digs_len]; kernel_rfl) | kernel_rfl) ?_; simp only [Act.put, List.setIfInBounds_toArray, List.set_cons_zero, List.set_cons_succ]) | (refine rd_take (v := ?_) rfl rfl ?_ ?_; rotate_left; (focus (go_simp; try (with_reducible rfl))); simp only [Act.put, List.setIfInBounds_toArray, List.set_cons_zero, List.set_cons_succ]) | (refine rd_take (v := ?_) rfl rfl ?_ ?_; rotate_left; (focus (try go_simp); fail)))
                exact rd_nil
              refine Tx.eff 42 35184372088831 rfl (by decide +kernel) (fun K hK => ?_)
              go_simp
              refine (tctr.out _ hS_16).mono ?_
              rintro e w_17 ⟨rfl, hb_17⟩
              have hS_17 := ext_trans hS_16 (Nat.le_refl _) hb_17
              refine hK (fun w' => Below (w12).heap.size (w12) w') _ _ hS_17 (fun _ h => h) ?_
              clear hK K hb_17 hS_16
              try simp only [Act.put, List.setIfInBounds_toArray, List.set_cons_zero, List.set_cons_succ]
              refine Tx.seg (A := ?_) 3 562949953421311 (by kernel_rfl) (by exact hS_17) [45, 46, 47, 48] (by kernel_rfl) ?_ ?_
              rotate_left
              · intro w' hB
                have e0 := k4.below hB
                have xa := e0.cell (j := 8) rfl
                have xb := e0.cell (j := 0) rfl
                have xc := e0.cell (j := 2) rfl
                have xd := e0.cell (j := 5) rfl
                have s1 := str (hs1.out.below (bel hw12.out hB))
                have s2 := str (hsm.out.below (bel kbh.out hB))
                have iwA := iwz.out
                iterate 4 (first | (refine rd_skip rfl rfl ?_; simp only [Act.put, List.setIfInBounds_toArray, List.set_cons_zero, List.set_cons_succ]) | (refine rd_load_arr rfl rfl _ _ rfl _ rfl (by decide +kernel) _ (by assumption) (by first | (rw [lims_len]; kernel_rfl) | (rw [el_rep]; kernel_rfl) | (rw [el_len]; kernel_rfl) | (rw [byts_len]; kernel_rfl) | (rw [us_len]; kernel_rfl) | (rw [bytn_len]; kernel_rfl) | (rw [ens_len, digs_len]; kernel_rfl) | kernel_rfl) ?_; simp only [Act.put, List.setIfInBounds_toArray, List.set_cons_zero, List.set_cons_succ]) | (refine rd_take (v := ?_) rfl rfl ?_ ?_; rotate_left; (focus (go_simp; try (with_reducible rfl))); simp only [Act.put, List.setIfInBounds_toArray, List.set_cons_zero, List.set_cons_succ]) | (refine rd_take (v := ?_) rfl rfl ?_ ?_; rotate_left; (focus (try go_simp); fail)))
                exact rd_nil
              refine Tx.eff 49 1125899906842623 rfl (by decide +kernel) (fun K hK => ?_)
              go_simp
              refine (mctr.out _ hS_17).mono ?_
              rintro e w_18 ⟨rfl, hb_18⟩
              have hS_18 := ext_trans hS_17 (Nat.le_refl _) hb_18
              refine hK (fun w' => Below (w12).heap.size (w12) w') _ _ hS_18 (fun _ h => h) ?_
              clear hK K hb_18 hS_17
              try simp only [Act.put, List.setIfInBounds_toArray, List.set_cons_zero, List.set_cons_succ]
              refine Tx.seg (A := ?_) 0 4503599627370495 (by kernel_rfl) (by exact hS_18) [50, 51] (by kernel_rfl) ?_ ?_
              rotate_left
              · intro w' hB
                iterate 2 (first | (refine rd_skip rfl rfl ?_; simp only [Act.put, List.setIfInBounds_toArray, List.set_cons_zero, List.set_cons_succ]) | (refine rd_load_arr rfl rfl _ _ rfl _ rfl (by decide +kernel) _ (by assumption) (by first | (rw [lims_len]; kernel_rfl) | (rw [el_rep]; kernel_rfl) | (rw [el_len]; kernel_rfl) | (rw [byts_len]; kernel_rfl) | (rw [us_len]; kernel_rfl) | (rw [bytn_len]; kernel_rfl) | (rw [ens_len, digs_len]; kernel_rfl) | kernel_rfl) ?_; simp only [Act.put, List.setIfInBounds_toArray, List.set_cons_zero, List.set_cons_succ]) | (refine rd_take (v := ?_) rfl rfl ?_ ?_; rotate_left; (focus (go_simp; try (with_reducible rfl))); simp only [Act.put, List.setIfInBounds_toArray, List.set_cons_zero, List.set_cons_succ]) | (refine rd_take (v := ?_) rfl rfl ?_ ?_; rotate_left; (focus (try go_simp); fail)))
                exact rd_nil
              refine Tx.done (by kernel_rfl) ?_
              have k4 := k4.below hS_18
              have kb := bel kb hS_18
              clear hS_18
              go_wp2_with fail
              go_ret
              exact ⟨rfl, kb⟩

end Go.Proofs.Ytkipejhjpfakpaa
