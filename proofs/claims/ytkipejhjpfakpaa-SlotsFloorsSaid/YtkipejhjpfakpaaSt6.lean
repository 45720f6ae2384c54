/- slots: change, Put, Done, Try, Confirm. -/
import Derived.Test.YtkipejhjpfakpaaSt5
namespace Go.Proofs.Ytkipejhjpfakpaa
open Go.RowKit

/-- A call of a closure as 'change' makes it. -/
def Closes (fn : Value) (F : Stt → Stt) (w0 : World) : Prop := ∃ (f : FuncId) (cap : Array Value), fn = .func (.func f) #[] cap ∧ (∀ args w, (callFunc f args).run Try.prog w = .ok (.enter f args) w) ∧
  ∀ (S : Stt) (v : Sv) (g B off : Nat) (w : World), mayP S → Below w0.heap.size w0 w → w0.heap.size ≤ g → Arr w g (S.cs v) → StOwn B w S v → StOff g v → B ≤ w.heap.size → off = (if S.act = 0 then 5 else 2) →
    Calls Try.prog f (#[.pointer (some ⟨g, 0, none⟩), .pointer (some ⟨g, off, none⟩)] ++ cap) w (ClPost g B (F S) w)

theorem StOwn.grown {B g : Nat} {w w' : World} {S : Stt} {v : Sv} (h : StOwn B w S v) (hg : w.grownBy w' (some g)) (hb : g < B) : StOwn B w' S v := ⟨own_grown h.rv hg hb, own_grown h.m0 hg hb, own_grown h.m1 hg hb⟩
theorem below_new {w W : World} {o : Obj} (hg : (w.alloc o).grownBy W (some w.heap.size)) : Below w.heap.size w W := below_gr (below_alloc w o) hg (Nat.le_refl _) (by simp)

set_option maxHeartbeats 1000000 in
set_option maxRecDepth 100000 in
theorem change_any (S : Stt) (v : Sv) (fn : Value) (F : Stt → Stt) (w : World) (h : StOk w S v) (hc : Closes fn F w) : Calls Try.prog 39 #[.agg (S.cs v).toArray, fn] w (RetSt (chg F S) w) := by
  have ho := Lib.hid h
  clear h
  go_enter Try.func39, Try.ntmps39
  go_upto_region 1 with fail
  refine wp_new2 (fun W hsz k1 k2 kb => ?_)
  have k1 : Arr W w.heap.size (S.cs v) := k1
  obtain ⟨G, hG⟩ : ∃ G, w.heap.size = G := ⟨_, rfl⟩
  rw [hG] at k1 k2 hsz ⊢
  replace hG := Lib.hid hG
  go_wp2_with (first | (refine wpList_load_arr2 rfl _ _ rfl _ rfl (by decide +kernel) _ (by assumption) (by first | (rw [lims_len]; kernel_rfl) | (rw [el_rep]; kernel_rfl) | (rw [el_len]; kernel_rfl) | (rw [byts_len]; kernel_rfl) | (rw [us_len]; kernel_rfl) | (rw [bytn_len]; kernel_rfl) | (rw [ens_len, digs_len]; kernel_rfl) | kernel_rfl) ?_) | fail)
  refine (mayb_any S v _ (ho.out.below kb)).mono ?_
  rintro e w1 ⟨he, hb⟩
  have k1 := k1.below hb
  have k2 := k2.below hb
  have kb := bel kb hb
  have hs1 : G + 2 ≤ w1.heap.size := by have := hb.size; omega
  clear hb hsz
  cases hm : mayB S with
  | false =>
    rw [hm] at he
    subst he
    have hch : chg F S = newS := by unfold chg; rw [hm]; rfl
    replace hch := Lib.hid hch
    clear hm
    have hk2 := Lib.hid k2
    go_wp2_with fail
    refine (new_any _).mono ?_
    rintro e w2 ⟨v2, rfl, ho2, hb⟩
    have k2 := k2.below hb
    have kb := bel kb hb
    have hone := Lib.hid (StOk.one ho2.ok)
    clear hb hk2
    go_wp2_with (first | (refine wpList_load_arr2 rfl _ _ rfl _ rfl (by decide +kernel) _ (by assumption) (by first | (rw [lims_len]; kernel_rfl) | (rw [el_rep]; kernel_rfl) | (rw [el_len]; kernel_rfl) | (rw [byts_len]; kernel_rfl) | (rw [us_len]; kernel_rfl) | (rw [bytn_len]; kernel_rfl) | (rw [ens_len, digs_len]; kernel_rfl) | kernel_rfl) ?_) | (refine wpl_storeG rfl _ _ _ rfl _ _ rfl rfl _ k2 (by kernel_rfl) rfl hone.out (fun W k2 hg hsz => ?_)))
    have ho3 := ho2.grown hg (by omega)
    have kb3 := below_gr kb hg (by rw [hG.out]; omega) kb.size
    exact bodyPost_ret (results_arr2 Try.results39 _ _ _ rfl (by kernel_rfl) _ (by first | assumption | exact Arr.setRow (by assumption) _) (by first | (rw [lims_len]; kernel_rfl) | (rw [el_rep]; kernel_rfl) | (rw [el_len]; kernel_rfl) | (rw [byts_len]; kernel_rfl) | (rw [us_len]; kernel_rfl) | (rw [bytn_len]; kernel_rfl) | (rw [ens_len, digs_len]; kernel_rfl) | kernel_rfl)) rfl (by rw [hch.out]; exact ⟨_, rfl, (show StOwn w.heap.size W newS v2 from ho3.mono (by rw [hG.out]; omega)), kb3⟩)
  | true =>
    rw [hm] at he
    subst he
    have hmp := Lib.hid ((mayB_iff S).1 hm)
    have hch : chg F S = F S := by unfold chg; rw [hm]; rfl
    replace hch := Lib.hid hch
    clear hm
    obtain ⟨f, cap, rfl, hcf, hcl⟩ := hc
    have hk2 := Lib.hid k2
    clear k2
    go_wp2_with (first | (refine wpList_load_arr2 rfl _ _ rfl _ rfl (by decide +kernel) _ (by assumption) (by first | (rw [lims_len]; kernel_rfl) | (rw [el_rep]; kernel_rfl) | (rw [el_len]; kernel_rfl) | (rw [byts_len]; kernel_rfl) | (rw [us_len]; kernel_rfl) | (rw [bytn_len]; kernel_rfl) | (rw [ens_len, digs_len]; kernel_rfl) | kernel_rfl) ?_) | fail)
    refine (copy_any S v _ (ho.out.below kb) (mayP_fit hmp.out)).mono ?_
    rintro e w2 ⟨v2, rfl, ho2, hb⟩
    have hone := Lib.hid (StOk.one ho2.ok)
    have hb2 := hb.size
    have k2 := Lib.hid (hk2.out.below hb)
    have k1 := k1.below hb
    have kb := bel kb hb
    clear hb hk2
    have hoff := Lib.hid (ho2.off (Nat.le_refl _))
    go_upto_region 4 with (first | (refine wpl_storeG rfl _ _ _ rfl _ _ rfl rfl _ (Arr.new _ _ _) (by kernel_rfl) rfl hone.out (fun W3 k5 hg hsz => ?_)))
    have hb3 := below_new hg
    have k2 := Lib.hid (k2.out.below hb3)
    have k1 := k1.below hb3
    have kb := bel kb hb3
    have ho2 := Lib.hid (ho2.below hb3)
    have hs3 := hb3.size
    obtain ⟨g5, hg5⟩ : ∃ g, w2.heap.size = g := ⟨_, rfl⟩
    rw [hg5] at k5 hoff ⊢
    have hg6 : g5 < W3.heap.size := k5.lt
    clear hg hb3 hsz
    go_wp2_with (first | (refine wpList_load_arr2 rfl _ _ rfl _ rfl (by decide +kernel) _ (by assumption) (by first | (rw [lims_len]; kernel_rfl) | (rw [el_rep]; kernel_rfl) | (rw [el_len]; kernel_rfl) | (rw [byts_len]; kernel_rfl) | (rw [us_len]; kernel_rfl) | (rw [bytn_len]; kernel_rfl) | (rw [ens_len, digs_len]; kernel_rfl) | kernel_rfl) ?_) | fail)
    refine (target_any S v _).mono ?_
    rintro e w4 ⟨he, hb⟩
    have k2 := Lib.hid (k2.out.below hb)
    have k5 := k5.below hb
    have kb := bel kb hb
    have ho2 := Lib.hid (ho2.out.below hb)
    have hs4 := hb.size
    clear hb k1
    replace kb := Lib.hid kb
    have hcall := hcl S v2 g5 w1.heap.size (if S.act = 0 then 5 else 2) w4 hmp.out kb.out (by rw [hG.out]; omega) k5 ho2.out hoff.out (by omega) rfl
    replace hcall := Lib.hid hcall
    clear hcl
    by_cases ha : S.act = 0
    · rw [show tgt S.act = 1 from if_pos ha] at he
      rw [if_pos ha] at hcall
      subst he
      clear ha
      go_wp2_with fail
      refine hcall.out.mono ?_
      rintro e w5 ⟨rfl, v5, k5, ho5, hg⟩
      have k2 := k2.out.kept hg (by omega)
      have kb := Lib.hid (below_gr kb.out hg (by rw [hG.out]; omega) kb.out.size)
      have hone := Lib.hid (StOk.one ho5.ok)
      have ho5 := Lib.hid ho5
      clear hg hcall
      go_wp2_with (first | (refine wpList_load_arr2 rfl _ _ rfl _ rfl (by decide +kernel) _ (by assumption) (by first | (rw [lims_len]; kernel_rfl) | (rw [el_rep]; kernel_rfl) | (rw [el_len]; kernel_rfl) | (rw [byts_len]; kernel_rfl) | (rw [us_len]; kernel_rfl) | (rw [bytn_len]; kernel_rfl) | (rw [ens_len, digs_len]; kernel_rfl) | kernel_rfl) ?_) | (refine wpl_storeG rfl _ _ _ rfl _ _ rfl rfl _ k2 (by kernel_rfl) rfl hone.out (fun W6 k2 hg hsz => ?_)))
      have ho6 := ho5.out.grown hg (by omega)
      have kb6 := below_gr kb.out hg (by rw [hG.out]; omega) kb.out.size
      exact bodyPost_ret (results_arr2 Try.results39 _ _ _ rfl (by kernel_rfl) _ (by first | assumption | exact Arr.setRow (by assumption) _) (by first | (rw [lims_len]; kernel_rfl) | (rw [el_rep]; kernel_rfl) | (rw [el_len]; kernel_rfl) | (rw [byts_len]; kernel_rfl) | (rw [us_len]; kernel_rfl) | (rw [bytn_len]; kernel_rfl) | (rw [ens_len, digs_len]; kernel_rfl) | kernel_rfl)) rfl (by rw [hch.out]; exact ⟨_, rfl, (show StOwn w.heap.size W6 (F S) v5 from ho6.mono (by rw [hG.out]; omega)), kb6⟩)
    · rw [show tgt S.act = 0 from if_neg ha] at he
      rw [if_neg ha] at hcall
      subst he
      clear ha
      go_wp2_with fail
      refine hcall.out.mono ?_
      rintro e w5 ⟨rfl, v5, k5, ho5, hg⟩
      have k2 := k2.out.kept hg (by omega)
      have kb := Lib.hid (below_gr kb.out hg (by rw [hG.out]; omega) kb.out.size)
      have hone := Lib.hid (StOk.one ho5.ok)
      have ho5 := Lib.hid ho5
      clear hg hcall
      go_wp2_with (first | (refine wpList_load_arr2 rfl _ _ rfl _ rfl (by decide +kernel) _ (by assumption) (by first | (rw [lims_len]; kernel_rfl) | (rw [el_rep]; kernel_rfl) | (rw [el_len]; kernel_rfl) | (rw [byts_len]; kernel_rfl) | (rw [us_len]; kernel_rfl) | (rw [bytn_len]; kernel_rfl) | (rw [ens_len, digs_len]; kernel_rfl) | kernel_rfl) ?_) | (refine wpl_storeG rfl _ _ _ rfl _ _ rfl rfl _ k2 (by kernel_rfl) rfl hone.out (fun W6 k2 hg hsz => ?_)))
      have ho6 := ho5.out.grown hg (by omega)
      have kb6 := below_gr kb.out hg (by rw [hG.out]; omega) kb.out.size
      exact bodyPost_ret (results_arr2 Try.results39 _ _ _ rfl (by kernel_rfl) _ (by first | assumption | exact Arr.setRow (by assumption) _) (by first | (rw [lims_len]; kernel_rfl) | (rw [el_rep]; kernel_rfl) | (rw [el_len]; kernel_rfl) | (rw [byts_len]; kernel_rfl) | (rw [us_len]; kernel_rfl) | (rw [bytn_len]; kernel_rfl) | (rw [ens_len, digs_len]; kernel_rfl) | kernel_rfl)) rfl (by rw [hch.out]; exact ⟨_, rfl, (show StOwn w.heap.size W6 (F S) v5 from ho6.mono (by rw [hG.out]; omega)), kb6⟩)


theorem mayP_try {S : Stt} (h : mayP S) : (0 ≤ S.t0 ∧ S.t0 ≤ 3) ∧ (0 ≤ S.t1 ∧ S.t1 ≤ 3) := by
  have h0 := h.s0
  have h1 := h.s1
  unfold slotB at h0 h1
  constructor
  · split at h0 <;> simp at h0 <;> omega
  · split at h1 <;> simp at h1 <;> omega

theorem closes_done (w : World) : Closes (.func (.func 42) #[] #[]) doneC w :=
  ⟨_, _, rfl, fun _ _ => by kernel_rfl, fun S v g B off w _ _ _ k1 ho hoff _ hof => done1_any S v g B off w k1 (Lib.hid ho) (Lib.hid hoff) hof⟩
theorem closes_try (w : World) : Closes (.func (.func 43) #[] #[]) tryC w :=
  ⟨_, _, rfl, fun _ _ => by kernel_rfl, fun S v g B off w hm _ _ k1 ho hoff _ hof => try1_any S v g B off w k1 (Lib.hid ho) (Lib.hid hoff) hof (mayP_try hm).1 (mayP_try hm).2⟩
theorem closes_put {w : World} {gc : Nat} {vm : Value} {m : List UInt8} (kc : Arr w gc [vm]) (hm : Sl w vm (u8s m)) (hl : m.length ≤ 140737488355328) : Closes (.func (.func 40) #[] #[.pointer (some ⟨gc, 0, none⟩)]) (fun S => putC S m) w :=
  ⟨_, _, rfl, fun _ _ => by kernel_rfl, fun S v g B off w _ hb hg k1 ho hoff hB hof => put1_any S v g gc B off m vm w k1 (kc.below hb) (Lib.hid ho) (Lib.hid hoff) (hm.below hb) hl hB k1.lt hof⟩
theorem closes_confirm {w : World} {gc : Nat} {ver : Int} (kc : Arr w gc [.int .i64 ver]) : Closes (.func (.func 44) #[] #[.pointer (some ⟨gc, 0, none⟩)]) (fun S => confirmC S ver) w :=
  ⟨_, _, rfl, fun _ _ => by kernel_rfl, fun S v g B off w _ hb hg k1 ho hoff hB hof => confirm1_any S v g gc B off ver w k1 (kc.below hb) (Lib.hid ho) (Lib.hid hoff) hof (by have := kc.lt; omega)⟩

set_option maxRecDepth 100000 in
theorem done_any (S : Stt) (v : Sv) (w : World) (h : StOk w S v) : Calls Try.prog 16 #[.agg (S.cs v).toArray] w (RetSt (doneS S) w) := by
  have ho := Lib.hid h
  clear h
  go_enter Try.func16, Try.ntmps16
  go_upto_region 1 with fail
  refine wp_new2 (fun W hsz k1 k2 kb => ?_)
  have k1 : Arr W w.heap.size (S.cs v) := k1
  obtain ⟨G, hG⟩ : ∃ G, w.heap.size = G := ⟨_, rfl⟩
  rw [hG] at k1 k2 hsz ⊢
  replace hG := Lib.hid hG
  go_wp2_with (first | (refine wpList_load_arr2 rfl _ _ rfl _ rfl (by decide +kernel) _ (by assumption) (by first | (rw [lims_len]; kernel_rfl) | (rw [el_rep]; kernel_rfl) | (rw [el_len]; kernel_rfl) | (rw [byts_len]; kernel_rfl) | (rw [us_len]; kernel_rfl) | (rw [bytn_len]; kernel_rfl) | (rw [ens_len, digs_len]; kernel_rfl) | kernel_rfl) ?_) | fail)
  refine (change_any S v _ doneC _ (ho.out.below kb) (closes_done _)).mono ?_
  rintro e w1 ⟨v1, rfl, ho1, hb⟩
  have k2 := k2.below hb
  have kb := bel kb hb
  have hs1 : G + 2 ≤ W.heap.size := by omega
  have hone := Lib.hid (StOk.one ho1.ok)
  clear hb k1 hsz
  have ho1 := Lib.hid ho1
  go_wp2_with (first | (refine wpList_load_arr2 rfl _ _ rfl _ rfl (by decide +kernel) _ (by assumption) (by first | (rw [lims_len]; kernel_rfl) | (rw [el_rep]; kernel_rfl) | (rw [el_len]; kernel_rfl) | (rw [byts_len]; kernel_rfl) | (rw [us_len]; kernel_rfl) | (rw [bytn_len]; kernel_rfl) | (rw [ens_len, digs_len]; kernel_rfl) | kernel_rfl) ?_) | (refine wpl_storeG rfl _ _ _ rfl _ _ rfl rfl _ k2 (by kernel_rfl) rfl hone.out (fun W3 k2 hg hsz => ?_)))
  have ho6 := ho1.out.grown hg (by omega)
  have kb6 := below_gr kb hg (by rw [hG.out]; omega) kb.size
  exact bodyPost_ret (results_arr2 Try.results16 _ _ _ rfl (by kernel_rfl) _ (by first | assumption | exact Arr.setRow (by assumption) _) (by first | (rw [lims_len]; kernel_rfl) | (rw [el_rep]; kernel_rfl) | (rw [el_len]; kernel_rfl) | (rw [byts_len]; kernel_rfl) | (rw [us_len]; kernel_rfl) | (rw [bytn_len]; kernel_rfl) | (rw [ens_len, digs_len]; kernel_rfl) | kernel_rfl)) rfl ⟨_, rfl, (show StOwn w.heap.size W3 (doneS S) v1 from ho6.mono (by rw [hG.out]; omega)), kb6⟩

set_option maxRecDepth 100000 in
theorem try_any (S : Stt) (v : Sv) (w : World) (h : StOk w S v) : Calls Try.prog 18 #[.agg (S.cs v).toArray] w (RetSt (tryS S) w) := by
  have ho := Lib.hid h
  clear h
  go_enter Try.func18, Try.ntmps18
  go_upto_region 1 with fail
  refine wp_new2 (fun W hsz k1 k2 kb => ?_)
  have k1 : Arr W w.heap.size (S.cs v) := k1
  obtain ⟨G, hG⟩ : ∃ G, w.heap.size = G := ⟨_, rfl⟩
  rw [hG] at k1 k2 hsz ⊢
  replace hG := Lib.hid hG
  go_wp2_with (first | (refine wpList_load_arr2 rfl _ _ rfl _ rfl (by decide +kernel) _ (by assumption) (by first | (rw [lims_len]; kernel_rfl) | (rw [el_rep]; kernel_rfl) | (rw [el_len]; kernel_rfl) | (rw [byts_len]; kernel_rfl) | (rw [us_len]; kernel_rfl) | (rw [bytn_len]; kernel_rfl) | (rw [ens_len, digs_len]; kernel_rfl) | kernel_rfl) ?_) | fail)
  refine (change_any S v _ tryC _ (ho.out.below kb) (closes_try _)).mono ?_
  rintro e w1 ⟨v1, rfl, ho1, hb⟩
  have k2 := k2.below hb
  have kb := bel kb hb
  have hs1 : G + 2 ≤ W.heap.size := by omega
  have hone := Lib.hid (StOk.one ho1.ok)
  clear hb k1 hsz
  have ho1 := Lib.hid ho1
  go_wp2_with (first | (refine wpList_load_arr2 rfl _ _ rfl _ rfl (by decide +kernel) _ (by assumption) (by first | (rw [lims_len]; kernel_rfl) | (rw [el_rep]; kernel_rfl) | (rw [el_len]; kernel_rfl) | (rw [byts_len]; kernel_rfl) | (rw [us_len]; kernel_rfl) | (rw [bytn_len]; kernel_rfl) | (rw [ens_len, digs_len]; kernel_rfl) | kernel_rfl) ?_) | (refine wpl_storeG rfl _ _ _ rfl _ _ rfl rfl _ k2 (by kernel_rfl) rfl hone.out (fun W3 k2 hg hsz => ?_)))
  have ho6 := ho1.out.grown hg (by omega)
  have kb6 := below_gr kb hg (by rw [hG.out]; omega) kb.size
  exact bodyPost_ret (results_arr2 Try.results18 _ _ _ rfl (by kernel_rfl) _ (by first | assumption | exact Arr.setRow (by assumption) _) (by first | (rw [lims_len]; kernel_rfl) | (rw [el_rep]; kernel_rfl) | (rw [el_len]; kernel_rfl) | (rw [byts_len]; kernel_rfl) | (rw [us_len]; kernel_rfl) | (rw [bytn_len]; kernel_rfl) | (rw [ens_len, digs_len]; kernel_rfl) | kernel_rfl)) rfl ⟨_, rfl, (show StOwn w.heap.size W3 (tryS S) v1 from ho6.mono (by rw [hG.out]; omega)), kb6⟩

set_option maxRecDepth 100000 in
theorem put_any (S : Stt) (v : Sv) (vm : Value) (m : List UInt8) (w : World) (h : StOk w S v) (hm : Sl w vm (u8s m)) (hl : m.length ≤ 140737488355328) : Calls Try.prog 15 #[.agg (S.cs v).toArray, vm] w (RetSt (putS S m) w) := by
  have ho := Lib.hid h
  clear h
  obtain ⟨am, cm, rfl, hc1, hc2⟩ := slice_of hm
  rw [u8s_len] at hm hc1
  simp only [u8s_len]
  have hm := Lib.hid hm
  go_enter Try.func15, Try.ntmps15
  go_upto_region 1 with fail
  refine wp_new3 (fun W hsz k1 kc k2 kb => ?_)
  have k1 : Arr W w.heap.size (S.cs v) := k1
  have kc : Arr W (w.heap.size + 1) [.slice am m.length cm] := kc
  obtain ⟨G, hG⟩ : ∃ G, w.heap.size = G := ⟨_, rfl⟩
  rw [hG] at k1 k2 kc hsz ⊢
  replace hG := Lib.hid hG
  have c0 := kc.cell (j := 0) rfl
  by_cases h3 : m.length = 300
  · have iw : (m.length : Int) = 300 := by omega
    have hps : putS S m = chg (fun S => putC S m) S := if_pos h3
    replace hps := Lib.hid hps
    have h3' := Lib.hid h3
    clear h3
    go_upto_region 3 with fail
    clear iw
    go_wp2_with (first | (refine wpList_load_arr2 rfl _ _ rfl _ rfl (by decide +kernel) _ (by assumption) (by first | (rw [lims_len]; kernel_rfl) | (rw [el_rep]; kernel_rfl) | (rw [el_len]; kernel_rfl) | (rw [byts_len]; kernel_rfl) | (rw [us_len]; kernel_rfl) | (rw [bytn_len]; kernel_rfl) | (rw [ens_len, digs_len]; kernel_rfl) | kernel_rfl) ?_) | fail)
    refine (change_any S v _ _ _ (ho.out.below kb) (closes_put kc (hm.out.below kb) hl)).mono ?_
    rintro e w1 ⟨v1, rfl, ho1, hb⟩
    have k2 := k2.below hb
    have kb := bel kb hb
    have hs1 : G + 3 ≤ W.heap.size := by omega
    have hone := Lib.hid (StOk.one ho1.ok)
    clear hb k1 hsz c0 kc
    have ho1 := Lib.hid ho1
    go_wp2_with (first | (refine wpList_load_arr2 rfl _ _ rfl _ rfl (by decide +kernel) _ (by assumption) (by first | (rw [lims_len]; kernel_rfl) | (rw [el_rep]; kernel_rfl) | (rw [el_len]; kernel_rfl) | (rw [byts_len]; kernel_rfl) | (rw [us_len]; kernel_rfl) | (rw [bytn_len]; kernel_rfl) | (rw [ens_len, digs_len]; kernel_rfl) | kernel_rfl) ?_) | (refine wpl_storeG rfl _ _ _ rfl _ _ rfl rfl _ k2 (by kernel_rfl) rfl hone.out (fun W3 k2 hg hsz => ?_)))
    have ho6 := ho1.out.grown hg (by omega)
    have kb6 := below_gr kb hg (by rw [hG.out]; omega) kb.size
    exact bodyPost_ret (results_arr2 Try.results15 _ _ _ rfl (by kernel_rfl) _ (by first | assumption | exact Arr.setRow (by assumption) _) (by first | (rw [lims_len]; kernel_rfl) | (rw [el_rep]; kernel_rfl) | (rw [el_len]; kernel_rfl) | (rw [byts_len]; kernel_rfl) | (rw [us_len]; kernel_rfl) | (rw [bytn_len]; kernel_rfl) | (rw [ens_len, digs_len]; kernel_rfl) | kernel_rfl)) rfl (by rw [hps.out]; exact ⟨_, rfl, ho6.mono (show w.heap.size ≤ W.heap.size by rw [hG.out]; omega), kb6⟩)
  · have iw : ¬ (m.length : Int) = 300 := by omega
    have hps : putS S m = newS := if_neg h3
    replace hps := Lib.hid hps
    clear h3
    go_wp2_with fail
    refine (new_any _).mono ?_
    rintro e w1 ⟨v1, rfl, ho1, hb⟩
    have k2 := k2.below hb
    have kb := bel kb hb
    have hs1 : G + 3 ≤ W.heap.size := by omega
    have hone := Lib.hid (StOk.one ho1.ok)
    clear hb k1 hsz c0 kc
    have ho1 := Lib.hid ho1
    go_wp2_with (first | (refine wpList_load_arr2 rfl _ _ rfl _ rfl (by decide +kernel) _ (by assumption) (by first | (rw [lims_len]; kernel_rfl) | (rw [el_rep]; kernel_rfl) | (rw [el_len]; kernel_rfl) | (rw [byts_len]; kernel_rfl) | (rw [us_len]; kernel_rfl) | (rw [bytn_len]; kernel_rfl) | (rw [ens_len, digs_len]; kernel_rfl) | kernel_rfl) ?_) | (refine wpl_storeG rfl _ _ _ rfl _ _ rfl rfl _ k2 (by kernel_rfl) rfl hone.out (fun W3 k2 hg hsz => ?_)))
    have ho6 := ho1.out.grown hg (by omega)
    have kb6 := below_gr kb hg (by rw [hG.out]; omega) kb.size
    exact bodyPost_ret (results_arr2 Try.results15 _ _ _ rfl (by kernel_rfl) _ (by first | assumption | exact Arr.setRow (by assumption) _) (by first | (rw [lims_len]; kernel_rfl) | (rw [el_rep]; kernel_rfl) | (rw [el_len]; kernel_rfl) | (rw [byts_len]; kernel_rfl) | (rw [us_len]; kernel_rfl) | (rw [bytn_len]; kernel_rfl) | (rw [ens_len, digs_len]; kernel_rfl) | kernel_rfl)) rfl (by rw [hps.out]; exact ⟨_, rfl, ho6.mono (show w.heap.size ≤ W.heap.size by rw [hG.out]; omega), kb6⟩)

set_option maxRecDepth 100000 in
theorem confirm_any (S : Stt) (v : Sv) (ver : Int) (w : World) (h : StOk w S v) : Calls Try.prog 19 #[.agg (S.cs v).toArray, .int .i64 ver] w (RetSt (confirmS S ver) w) := by
  have ho := Lib.hid h
  clear h
  go_enter Try.func19, Try.ntmps19
  go_upto_region 1 with fail
  refine wp_new3 (fun W hsz k1 kc k2 kb => ?_)
  have k1 : Arr W w.heap.size (S.cs v) := k1
  have kc : Arr W (w.heap.size + 1) [.int .i64 ver] := kc
  obtain ⟨G, hG⟩ : ∃ G, w.heap.size = G := ⟨_, rfl⟩
  rw [hG] at k1 k2 kc hsz ⊢
  replace hG := Lib.hid hG
  go_wp2_with (first | (refine wpList_load_arr2 rfl _ _ rfl _ rfl (by decide +kernel) _ (by assumption) (by first | (rw [lims_len]; kernel_rfl) | (rw [el_rep]; kernel_rfl) | (rw [el_len]; kernel_rfl) | (rw [byts_len]; kernel_rfl) | (rw [us_len]; kernel_rfl) | (rw [bytn_len]; kernel_rfl) | (rw [ens_len, digs_len]; kernel_rfl) | kernel_rfl) ?_) | fail)
  refine (change_any S v _ _ _ (ho.out.below kb) (closes_confirm kc)).mono ?_
  rintro e w1 ⟨v1, rfl, ho1, hb⟩
  have k2 := k2.below hb
  have kb := bel kb hb
  have hs1 : G + 3 ≤ W.heap.size := by omega
  have hone := Lib.hid (StOk.one ho1.ok)
  clear hb k1 hsz kc
  have ho1 := Lib.hid ho1
  go_wp2_with (first | (refine wpList_load_arr2 rfl _ _ rfl _ rfl (by decide +kernel) _ (by assumption) (by first | (rw [lims_len]; kernel_rfl) | (rw [el_rep]; kernel_rfl) | (rw [el_len]; kernel_rfl) | (rw [byts_len]; kernel_rfl) | (rw [us_len]; kernel_rfl) | (rw [bytn_len]; kernel_rfl) | (rw [ens_len, digs_len]; kernel_rfl) | kernel_rfl) ?_) | (refine wpl_storeG rfl _ _ _ rfl _ _ rfl rfl _ k2 (by kernel_rfl) rfl hone.out (fun W3 k2 hg hsz => ?_)))
  have ho6 := ho1.out.grown hg (by omega)
  have kb6 := below_gr kb hg (by rw [hG.out]; omega) kb.size
  exact bodyPost_ret (results_arr2 Try.results19 _ _ _ rfl (by kernel_rfl) _ (by first | assumption | exact Arr.setRow (by assumption) _) (by first | (rw [lims_len]; kernel_rfl) | (rw [el_rep]; kernel_rfl) | (rw [el_len]; kernel_rfl) | (rw [byts_len]; kernel_rfl) | (rw [us_len]; kernel_rfl) | (rw [bytn_len]; kernel_rfl) | (rw [ens_len, digs_len]; kernel_rfl) | kernel_rfl)) rfl ⟨_, rfl, ho6.mono (show w.heap.size ≤ W.heap.size by rw [hG.out]; omega), kb6⟩

end Go.Proofs.Ytkipejhjpfakpaa
