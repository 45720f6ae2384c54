/- slots: the law SlotsFloors, walked. -/
import Derived.Test.YtkipejhjpfakpaaSt25
import Derived.Test.YtkipejhjpfakpaaInS
namespace Go.Proofs.Ytkipejhjpfakpaa
open Go.RowKit



set_option maxHeartbeats 4000000 in
set_option maxRecDepth 100000 in
theorem slotsFloors_walk (S : Stt) (v : Sv) (am : Option Addr) (cm : Nat) (m : List UInt8) (ver id : Int) (w : World) (h : StOk w S v) (_ : StWf S) (hm : Sl w (.slice am m.length cm) (u8s m)) (_ : (Lit.int .i64 ver).wf = true) (_ : (Lit.int .i64 id).wf = true) :
    Calls Try.prog 8 #[.agg (S.cs v).toArray, .slice am m.length cm, .int .i64 ver, .int .i64 id] w fun e w' => e = .returned (.bool true) ∧ Below w.heap.size w w' := by
  have ho0 := Lib.hid h
  have ho := Lib.hid h
  have hsm := Lib.hid hm
  clear h hm
  go_enter Try.func8, Try.ntmps8
  go_upto_region 1 with fail
  refine wp_new1 (fun W hsz k4 kb => ?_)
  have k4 : Arr W w.heap.size (S.cs v) := k4
  have ho := Lib.hid (ho.out.below kb)
  have hsm := Lib.hid (hsm.out.below kb)
  obtain ⟨g4, hg4⟩ : ∃ G, w.heap.size = G := ⟨_, rfl⟩
  rw [hg4] at k4 hsz ⊢
  replace hg4 := Lib.hid hg4
  clear hsz
  go_wp2_with fail
  refine (alive_any _).mono ?_
  rintro e w1 ⟨rfl, hb⟩
  have k4 := k4.below hb
  have ho := Lib.hid (ho.out.below hb)
  have hsm := Lib.hid (hsm.out.below hb)
  have kb := bel kb hb
  clear hb
  go_wp2_with (first | (refine wpList_load_arr2 rfl _ _ rfl _ rfl (by decide +kernel) _ (by assumption) (by first | (rw [lims_len]; kernel_rfl) | (rw [el_rep]; kernel_rfl) | (rw [el_len]; kernel_rfl) | (rw [byts_len]; kernel_rfl) | (rw [us_len]; kernel_rfl) | (rw [bytn_len]; kernel_rfl) | (rw [ens_len, digs_len]; kernel_rfl) | kernel_rfl) ?_) | fail)
  refine (big_any S v _ ho.out).mono ?_
  rintro e w2 ⟨he, hb⟩
  have k4 := k4.below hb
  have ho := Lib.hid (ho.out.below hb)
  have hsm := Lib.hid (hsm.out.below hb)
  have kb := bel kb hb
  clear hb
  cases hbg : bigB S with
  | true =>
    rw [hbg] at he
    subst he
    clear hbg
    go_wp2_with fail
    go_ret
    exact ⟨rfl, kb⟩
  | false =>
  rw [hbg] at he
  subst he
  have hfit := big_fit hbg
  clear hbg hfit
  by_cases hl : m.length = 300
  rotate_left
  · have dl : ((m.length : Int) == 300) = false := by simp; omega
    go_wp2_with fail
    go_ret
    exact ⟨rfl, kb⟩
  have dl : ((m.length : Int) == 300) = true := by simp; omega
  have hl := Lib.hid hl
  go_wp2_with (first | (refine wpList_load_arr2 rfl _ _ rfl _ rfl (by decide +kernel) _ (by assumption) (by first | (rw [lims_len]; kernel_rfl) | (rw [el_rep]; kernel_rfl) | (rw [el_len]; kernel_rfl) | (rw [byts_len]; kernel_rfl) | (rw [us_len]; kernel_rfl) | (rw [bytn_len]; kernel_rfl) | (rw [ens_len, digs_len]; kernel_rfl) | kernel_rfl) ?_) | fail)
  refine (mayStateb_any S v _ ho.out).mono ?_
  rintro e w3 ⟨he, hb⟩
  have k4 := k4.below hb
  have ho := Lib.hid (ho.out.below hb)
  have hsm := Lib.hid (hsm.out.below hb)
  have kb := bel kb hb
  clear hb
  cases hmy : mayB S with
  | false =>
    rw [hmy] at he
    subst he
    clear hmy
    go_wp2_with fail
    go_ret
    exact ⟨rfl, kb⟩
  | true =>
  rw [hmy] at he
  subst he
  have hmy := Lib.hid ((mayB_iff S).1 hmy)
  have hlm : Hid (m.length ≤ 140737488355328) := Lib.hid (by rw [hl.out]; decide)
  go_upto_region 5 with fail
  have hsm := Lib.hid (show Sl w3 (.slice am 300 cm) (u8s m) by have q := hsm.out; rw [hl.out] at q; exact q)
  obtain ⟨w4, rfl⟩ : ∃ w4 : World, w4 = w3 := ⟨_, rfl⟩
  have hlt4 := k4.lt
  refine Tx.start (fun w' => Below (w4).heap.size (w4) w') 9999 12 rfl (by kernel_rfl) ?_
  have hS_1 : Below (w4).heap.size (w4) (World.drew w4) := (Below.refl _ _).drew
  refine Tx.seg (A := ?_) 6 427 (by kernel_rfl) (by exact hS_1) [0, 1, 3, 5, 7, 8] (by kernel_rfl) ?_ ?_
  rotate_left
  · intro w' hB
    have y4 : Arr w' g4 (S.cs v) := k4.below hB
    iterate 6 (first | (refine rd_skip rfl rfl ?_; simp only [Act.put, List.setIfInBounds_toArray, List.set_cons_zero, List.set_cons_succ]) | (refine rd_load_arr rfl rfl _ _ rfl _ rfl (by decide +kernel) _ (by assumption) (by first | (rw [lims_len]; kernel_rfl) | (rw [el_rep]; kernel_rfl) | (rw [el_len]; kernel_rfl) | (rw [byts_len]; kernel_rfl) | (rw [us_len]; kernel_rfl) | (rw [bytn_len]; kernel_rfl) | (rw [ens_len, digs_len]; kernel_rfl) | kernel_rfl) ?_; simp only [Act.put, List.setIfInBounds_toArray, List.set_cons_zero, List.set_cons_succ]) | (refine rd_take (v := ?_) rfl rfl ?_ ?_; rotate_left; (focus (go_simp; try (with_reducible rfl))); simp only [Act.put, List.setIfInBounds_toArray, List.set_cons_zero, List.set_cons_succ]) | (refine rd_take (v := ?_) rfl rfl ?_ ?_; rotate_left; (focus (try go_simp); fail)))
    exact rd_nil
  refine Tx.eff 2 431 rfl (by decide +kernel) (fun K hK => ?_)
  go_simp
  refine (put_any S v _ m _ (ho.out.below hS_1) (hsm.out.below hS_1) hlm.out).mono ?_
  rintro e w_2 ⟨v38, rfl, o38, hb_2⟩
  have hS_2 := ext_trans hS_1 (Nat.le_refl _) hb_2
  refine hK (fun w' => Below (w4).heap.size (w4) w') _ _ hS_2 (fun _ h => h) ?_
  clear hK K hS_1
  try simp only [Act.put, List.setIfInBounds_toArray, List.set_cons_zero, List.set_cons_succ]
  have o38 := Lib.hid o38.ok
  refine Tx.eff 4 447 rfl (by decide +kernel) (fun K hK => ?_)
  go_simp
  refine (done_any S v _ (ho.out.below hS_2)).mono ?_
  rintro e w_3 ⟨v40, rfl, o40, hb_3⟩
  have hS_3 := ext_trans hS_2 (Nat.le_refl _) hb_3
  refine hK (fun w' => Below (w4).heap.size (w4) w') _ _ hS_3 (fun _ h => h) ?_
  clear hK K hS_2
  try simp only [Act.put, List.setIfInBounds_toArray, List.set_cons_zero, List.set_cons_succ]
  have o38 := Lib.hid (o38.out.below hb_3)
  have o40 := Lib.hid o40.ok
  refine Tx.eff 6 511 rfl (by decide +kernel) (fun K hK => ?_)
  go_simp
  refine (try_any S v _ (ho.out.below hS_3)).mono ?_
  rintro e w_4 ⟨v42, rfl, o42, hb_4⟩
  have hS_4 := ext_trans hS_3 (Nat.le_refl _) hb_4
  refine hK (fun w' => Below (w4).heap.size (w4) w') _ _ hS_4 (fun _ h => h) ?_
  clear hK K hS_3
  try simp only [Act.put, List.setIfInBounds_toArray, List.set_cons_zero, List.set_cons_succ]
  have o38 := Lib.hid (o38.out.below hb_4)
  have o40 := Lib.hid (o40.out.below hb_4)
  have o42 := Lib.hid o42.ok
  refine Tx.eff 9 1023 rfl (by decide +kernel) (fun K hK => ?_)
  go_simp
  refine (confirm_any S v ver _ (ho.out.below hS_4)).mono ?_
  rintro e w_5 ⟨v45, rfl, o45, hb_5⟩
  have hS_5 := ext_trans hS_4 (Nat.le_refl _) hb_5
  refine hK (fun w' => Below (w4).heap.size (w4) w') _ _ hS_5 (fun _ h => h) ?_
  clear hK K hS_4
  try simp only [Act.put, List.setIfInBounds_toArray, List.set_cons_zero, List.set_cons_succ]
  have o38 := Lib.hid (o38.out.below hb_5)
  have o40 := Lib.hid (o40.out.below hb_5)
  have o42 := Lib.hid (o42.out.below hb_5)
  have o45 := Lib.hid o45.ok
  obtain ⟨T, hT⟩ : ∃ T, T = [(putS S m, v38), (doneS S, v40), (tryS S, v42), (confirmS S ver, v45)] := ⟨_, rfl⟩
  refine Tx.eff 10 2047 rfl (by decide +kernel) (fun K hK => ?_)
  rw [if_pos (by kernel_rfl)]
  refine wp_buildT _ 4 _ rfl T (by rw [hT]; rfl) (by rw [hT]; simp) (by rw [hT]; simp) Try.underlying55 (by rw [hT]; simp only [List.map_toArray, List.map_cons, List.map_nil, List.zipIdx_cons, List.zipIdx_nil]; rfl) ?_
  refine hK (fun w' => Below w4.heap.size w4 w') _ _ (ext_trans hS_5 (Nat.le_refl _) (below_alloc _ _)) (fun _ h => h) ?_
  clear hK K
  try simp only [Act.put, List.setIfInBounds_toArray, List.set_cons_zero, List.set_cons_succ]
  refine Tx.newF (F := fun w' => Lst w' (w_5).heap.size (.slice (some ⟨(w_5).heap.size, 0, none⟩) 4 4) T) (w0 := w_5) (Lst.new rfl (by rw [hT]; rfl) (by decide)) (fun w1 h => h.below (Below.refl _ _).drew) (by first | exact .inl rfl | exact .inr rfl) (fun w10 hl4 hb10 => ?_)
  have hS_n : Below w4.heap.size w4 w10 := by first | exact hb10 | exact ext_trans hS_5 (Nat.le_refl _) hb10
  have hsz9 : w4.heap.size ≤ (w_5).heap.size := (hS_5).size
  obtain ⟨W9, hW9⟩ : ∃ w, w_5 = w := ⟨_, rfl⟩
  obtain ⟨g9, hg9⟩ : ∃ g, (w_5).heap.size = g := ⟨_, rfl⟩
  have hb9 := Lib.hid hb10
  have hTf9 : Hid (StOk W9 (putS S m) v38 ∧ StOk W9 (doneS S) v40 ∧ StOk W9 (tryS S) v42 ∧ StOk W9 (confirmS S ver) v45) := Lib.hid (by rw [← hW9]; exact ⟨o38.out, o40.out, o42.out, o45.out⟩)
  rw [hW9] at hb9
  rw [hg9] at hl4 hsz9 ⊢
  rw [hW9] at hg9
  replace hg9 := Lib.hid hg9
  clear hb10 hW9
  refine Tx.seg (A := ?_) 0 4095 (by kernel_rfl) (by exact hS_n) [11] (by kernel_rfl) ?_ ?_
  rotate_left
  · intro w' hB
    iterate 1 (first | (refine rd_skip rfl rfl ?_; simp only [Act.put, List.setIfInBounds_toArray, List.set_cons_zero, List.set_cons_succ]) | (refine rd_load_arr rfl rfl _ _ rfl _ rfl (by decide +kernel) _ (by assumption) (by first | (rw [lims_len]; kernel_rfl) | (rw [el_rep]; kernel_rfl) | (rw [el_len]; kernel_rfl) | (rw [byts_len]; kernel_rfl) | (rw [us_len]; kernel_rfl) | (rw [bytn_len]; kernel_rfl) | (rw [ens_len, digs_len]; kernel_rfl) | kernel_rfl) ?_; simp only [Act.put, List.setIfInBounds_toArray, List.set_cons_zero, List.set_cons_succ]) | (refine rd_take (v := ?_) rfl rfl ?_ ?_; rotate_left; (focus (go_simp; try (with_reducible rfl))); simp only [Act.put, List.setIfInBounds_toArray, List.set_cons_zero, List.set_cons_succ]) | (refine rd_take (v := ?_) rfl rfl ?_ ?_; rotate_left; (focus (try go_simp); fail)))
    exact rd_nil
  refine Tx.done (by kernel_rfl) ?_
  have hTf : Hid (∀ p ∈ T, Fls S p.1 ∧ StOk W9 p.1 p.2) := Lib.hid (by
    rw [hT]
    intro p hp
    simp only [List.mem_cons, List.not_mem_nil, or_false] at hp
    rcases hp with rfl | rfl | rfl | rfl
    · exact ⟨fls_put hmy.out hl.out, hTf9.out.1⟩
    · exact ⟨fls_done hmy.out, hTf9.out.2.1⟩
    · exact ⟨fls_try hmy.out, hTf9.out.2.2.1⟩
    · exact ⟨fls_confirm hmy.out, hTf9.out.2.2.2⟩)
  have hTn : T.length = 4 := by rw [hT]; rfl
  clear hT o38 o40 o42 o45 hTf9
  have k4 := k4.below hS_n
  have ho := Lib.hid (ho.out.below hS_n)
  have hw9 : w.heap.size ≤ g9 := Nat.le_trans kb.size hsz9
  have kb := bel kb hS_n
  replace hl4 := Lib.hid (show Lst w10 w.heap.size (.slice (some ⟨g9, 0, none⟩) 4 4) T from own_mono hl4 hw9)
  have h49 : g4 < g9 := Nat.lt_of_lt_of_le hlt4 hsz9
  have h9w : g9 < w10.heap.size := (hl4.out.at (by omega)).2.elim (fun g h => by have h1 := h.1; have h2 := h.2.2; injection h1 with h1; injection h1 with h1; omega)
  clear hsm hlm hsz9 hS_n
  obtain ⟨⟨R, er⟩, hR⟩ : ∃ p, revokeS S id = p := ⟨_, rfl⟩
  have hR := Lib.hid hR
  go_wp2_with (first | (refine wpList_load_arr2 rfl _ _ rfl _ rfl (by decide +kernel) _ (by assumption) (by first | (rw [lims_len]; kernel_rfl) | (rw [el_rep]; kernel_rfl) | (rw [el_len]; kernel_rfl) | (rw [byts_len]; kernel_rfl) | (rw [us_len]; kernel_rfl) | (rw [bytn_len]; kernel_rfl) | (rw [ens_len, digs_len]; kernel_rfl) | kernel_rfl) ?_) | fail)
  refine (revoke_any S v id _ ho.out).mono ?_
  rw [hR.out]
  rintro e w11 ⟨vR, rfl, oR, hb⟩
  have oR := Lib.hid oR
  have hl4 := Lib.hid (hl4.out.below hb)
  have hb9 := Lib.hid (bel hb9.out hb)
  have k4 := k4.below hb
  have ho := Lib.hid (ho.out.below hb)
  have kb := bel kb hb
  clear hb
  simp only at oR ⊢
  go_upto_region 7 with (first | (refine wpl_storeG rfl _ _ _ rfl _ _ rfl rfl _ (Arr.new _ _ _) (by kernel_rfl) rfl oR.out.ok.one (fun W8 k12 hg hsz => ?_)))
  have hb := below_new hg
  have oR := Lib.hid (oR.out.below hb)
  have hl4 := Lib.hid (hl4.out.below hb)
  have hb9 := Lib.hid (bel hb9.out hb)
  have k4 := k4.below hb
  have ho := Lib.hid (ho.out.below hb)
  have kb := bel kb hb
  obtain ⟨g12, hg12⟩ : ∃ g, w11.heap.size = g := ⟨_, rfl⟩
  rw [hg12] at k12 ⊢
  clear hg hsz hb hg12
  go_wp2_with fail
  refine (num_any _ _).mono ?_
  rintro e w12 ⟨rfl, hw⟩
  rw [hw]
  clear hw w12
  by_cases he : er = 0
  · subst he
    have hfR := Lib.hid (fls_revoke hmy.out hR.out)
    go_wp2_with (first | (refine wpList_load_arr2 rfl _ _ rfl _ rfl (by decide +kernel) _ (by assumption) (by first | (rw [lims_len]; kernel_rfl) | (rw [el_rep]; kernel_rfl) | (rw [el_len]; kernel_rfl) | (rw [byts_len]; kernel_rfl) | (rw [us_len]; kernel_rfl) | (rw [bytn_len]; kernel_rfl) | (rw [ens_len, digs_len]; kernel_rfl) | kernel_rfl) ?_) | (refine wpList_buildT rfl _ 1 _ rfl [(R, vR)] rfl (by simp) (by simp) Try.underlying55 (by simp only [List.map_toArray, List.map_cons, List.map_nil, List.zipIdx_cons, List.zipIdx_nil]; rfl) ?_) | (at_builtin; refine wpList_appendT rfl _ _ _ rfl w.heap.size Try.underlying55 _ T rfl (hl4.out.below (below_alloc _ _)) _ W8.heap.size (R, vR) rfl (Lst.new rfl rfl (by decide)) oR.out.ok.one (by omega) (Nat.le_trans kb.size (below_alloc _ _).size) ?_))
    intro v5 wL hl5 hg
    replace hg : (W8.alloc _).grownBy wL (some g9) := hg
    have hgg : W8.grownBy wL (some g9) := (World.grownBy_alloc W8 _ _).trans hg
    have kb := below_gr kb hgg hw9 kb.size
    have hb9 := Lib.hid (below_gr hb9.out hgg (by rw [hg9.out]; exact Nat.le_refl _) hb9.out.size)
    have ho := Lib.hid (ho0.out.below kb)
    have k4 := k4.kept hgg (by omega)
    have oR := Lib.hid (oR.out.grown hgg h9w).ok
    obtain ⟨T, hT⟩ : ∃ T2, T ++ [(R, vR)] = T2 := ⟨_, rfl⟩
    have hTf2 : Hid (∀ p ∈ T, Fls S p.1 ∧ StOk wL p.1 p.2) := Lib.hid (by
      rw [← hT]
      intro p hp
      rcases List.mem_append.1 hp with hp | hp
      · exact ⟨(hTf.out p hp).1, (hTf.out p hp).2.below hb9.out⟩
      · rw [List.mem_singleton] at hp
        subst hp
        exact ⟨hfR.out, oR.out⟩)
    have hTn : T.length = 5 := by rw [← hT, List.length_append, hTn]; rfl
    rw [hT] at hl5
    have hT5 := Lib.hid hT
    clear hT
    have hl := Lib.hid hl5
    obtain ⟨a5, n5, c5, rfl⟩ : ∃ a n c, v5 = .slice a n c := by
      rcases hl.out.2 with ⟨h, -⟩ | ⟨g, c, cur, h, -⟩ <;> exact ⟨_, _, _, h⟩
    obtain ⟨hn5, gq, rfl, hgq, -⟩ := hl.out.at (by omega)
    obtain rfl : n5 = 5 := by omega
    have hTf := hTf2
    clear hn5 hTf2 hg hgg hb9 oR k12 hfR hl4 hl5 ho
    go_wp2_with fail
    go_loopw [14] (fun iv wr => ∃ i : Nat, i ≤ 5 ∧ iv = .int .i64 i ∧ Below wL.heap.size wL wr) (fun iv _ => 5 - (intOf iv).toNat)
    case atStart => exact ⟨0, by omega, rfl, Below.refl _ _⟩
    case round =>
      obtain ⟨i, hi, rfl, hbr⟩ := hrel
      by_cases hin : i < 5
      rotate_left
      · have dj : decide ((i : Int) < 5) = false := decide_eq_false (by omega)
        go_wp2_with fail
        go_ret
        exact ⟨rfl, bel kb hbr⟩
      have hi0 : (0 : Int) ≤ (i : Int) := by omega
      have hi1 : (i : Int) < 5 := by omega
      have hiT : i < T.length := by omega
      obtain ⟨⟨D, u⟩, hD⟩ : ∃ p, T[i] = p := ⟨_, rfl⟩
      obtain ⟨hfD, hoD⟩ := hTf.out T[i] (List.getElem_mem hiT)
      rw [hD] at hfD hoD
      replace hfD : Fls S D := hfD
      replace hoD : StOk wL D u := hoD
      obtain ⟨ur, um0, um1⟩ := u
      obtain ⟨ar, cr, hu, hcr⟩ := sl_shape hoD.rv
      simp only at hu
      subst hu
      have hfD := Lib.hid hfD
      have hoD := Lib.hid hoD
      have hD := Lib.hid hD
      have hiT := Lib.hid hiT
      have dfl : decide (D.floor < S.floor) = false := decide_eq_false (by have := hfD.out.flo; omega)
      go_upto_region 12 with fail
      obtain ⟨wq, rfl⟩ : ∃ wq : World, wq = wr := ⟨_, rfl⟩
      refine Tx.start (fun w' => Below (wq).heap.size (wq) w') 9999 16 rfl (by kernel_rfl) ?_
      have hS_6 : Below (wq).heap.size (wq) (World.drew wq) := (Below.refl _ _).drew
      refine Tx.seg (A := ?_) 3 8191 (by kernel_rfl) (by exact hS_6) [0, 1, 2, 3, 4, 5, 6, 7, 8, 9, 10, 11, 12] (by kernel_rfl) ?_ ?_
      rotate_left
      · intro w' hB
        have yl := hl.out.below (bel hbr hB)
        have yr := yl.range hiT.out
        rw [hD.out] at yr
        replace yr : w'.rangeAt gq (i * 9) (D.cs ⟨.slice ar D.rev.length cr, um0, um1⟩) := yr
        have y0 : w'.cell? ⟨gq, i * 9, none⟩ = some (.int .i64 D.floor) := yl.cell (i := i) (j := 0) hiT.out (by rw [hD.out]; rfl)
        have y1 : w'.cell? ⟨g4, 0, none⟩ = some (.int .i64 S.floor) := (k4.below (bel hbr hB)).cell (j := 0) rfl
        replace yl := Lib.hid yl
        iterate 13 (first | (refine rd_skip rfl rfl ?_; simp only [Act.put, List.setIfInBounds_toArray, List.set_cons_zero, List.set_cons_succ]) | (refine rd_load_arr rfl rfl _ _ rfl _ rfl (by decide +kernel) _ (by assumption) (by first | (rw [lims_len]; kernel_rfl) | (rw [el_rep]; kernel_rfl) | (rw [el_len]; kernel_rfl) | (rw [byts_len]; kernel_rfl) | (rw [us_len]; kernel_rfl) | (rw [bytn_len]; kernel_rfl) | (rw [ens_len, digs_len]; kernel_rfl) | kernel_rfl) ?_; simp only [Act.put, List.setIfInBounds_toArray, List.set_cons_zero, List.set_cons_succ]) | (refine rd_load_mid rfl rfl _ _ rfl _ _ rfl (by decide +kernel) _ yr (by first | (rw [lims_len]; kernel_rfl) | (rw [el_rep]; kernel_rfl) | (rw [el_len]; kernel_rfl) | (rw [byts_len]; kernel_rfl) | (rw [us_len]; kernel_rfl) | (rw [bytn_len]; kernel_rfl) | (rw [ens_len, digs_len]; kernel_rfl) | kernel_rfl) ?_; simp only [Act.put, List.setIfInBounds_toArray, List.set_cons_zero, List.set_cons_succ]) | (refine rd_take (v := ?_) rfl rfl ?_ ?_; rotate_left; (focus (go_simp; try (with_reducible rfl))); simp only [Act.put, List.setIfInBounds_toArray, List.set_cons_zero, List.set_cons_succ]) | (refine rd_take (v := ?_) rfl rfl ?_ ?_; rotate_left; (focus (try go_simp); fail)))
        exact rd_nil
      refine Tx.eff 13 16383 rfl (by decide +kernel) (fun K hK => ?_)
      go_simp
      refine (mayb_any D _ _ (hoD.out.below (bel hbr hS_6))).mono ?_
      rintro e w_7 ⟨rfl, hb_7⟩
      have hS_7 := ext_trans hS_6 (Nat.le_refl _) hb_7
      refine hK (fun w' => Below (wq).heap.size (wq) w') _ _ hS_7 (fun _ h => h) ?_
      clear hK K hb_7 hS_6
      try simp only [Act.put, List.setIfInBounds_toArray, List.set_cons_zero, List.set_cons_succ]
      rw [mayB_of hfD.out.may]
      refine Tx.seg (A := ?_) 0 65535 (by kernel_rfl) (by exact hS_7) [14, 15] (by kernel_rfl) ?_ ?_
      rotate_left
      · intro w' hB
        iterate 2 (first | (refine rd_skip rfl rfl ?_; simp only [Act.put, List.setIfInBounds_toArray, List.set_cons_zero, List.set_cons_succ]) | (refine rd_load_arr rfl rfl _ _ rfl _ rfl (by decide +kernel) _ (by assumption) (by first | (rw [lims_len]; kernel_rfl) | (rw [el_rep]; kernel_rfl) | (rw [el_len]; kernel_rfl) | (rw [byts_len]; kernel_rfl) | (rw [us_len]; kernel_rfl) | (rw [bytn_len]; kernel_rfl) | (rw [ens_len, digs_len]; kernel_rfl) | kernel_rfl) ?_; simp only [Act.put, List.setIfInBounds_toArray, List.set_cons_zero, List.set_cons_succ]) | (refine rd_load_mid rfl rfl _ _ rfl _ _ rfl (by decide +kernel) _ yr (by first | (rw [lims_len]; kernel_rfl) | (rw [el_rep]; kernel_rfl) | (rw [el_len]; kernel_rfl) | (rw [byts_len]; kernel_rfl) | (rw [us_len]; kernel_rfl) | (rw [bytn_len]; kernel_rfl) | (rw [ens_len, digs_len]; kernel_rfl) | kernel_rfl) ?_; simp only [Act.put, List.setIfInBounds_toArray, List.set_cons_zero, List.set_cons_succ]) | (refine rd_take (v := ?_) rfl rfl ?_ ?_; rotate_left; (focus (go_simp; try (with_reducible rfl))); simp only [Act.put, List.setIfInBounds_toArray, List.set_cons_zero, List.set_cons_succ]) | (refine rd_take (v := ?_) rfl rfl ?_ ?_; rotate_left; (focus (try go_simp); fail)))
        exact rd_nil
      refine Tx.done (by kernel_rfl) ?_
      have hbr := bel hbr hS_7
      obtain ⟨wM, hwM⟩ : ∃ w', w_7 = w' := ⟨_, rfl⟩
      rw [hwM] at hbr ⊢
      have hbr := Lib.hid hbr
      clear hwM dfl
      obtain ⟨p, hG⟩ := hfD.out.sub
      have hG := Lib.hid hG
      obtain ⟨aS, cS, hvs, hcS⟩ := sl_shape ho0.out.rv
      have hvs := Lib.hid hvs
      go_wp2_with fail
      go_loopw [16, 15] (fun jv kv wr => ∃ j : Nat, j ≤ D.rev.length ∧ jv = .int .i64 j ∧ kv = .int .i64 (kk p j : Nat) ∧ Below wL.heap.size wL wr) (fun jv _ _ => D.rev.length - (intOf jv).toNat)
      case atStart => exact ⟨0, Nat.zero_le _, rfl, by rw [kk_zero]; rfl, hbr.out⟩
      case round =>
        clear hbr
        obtain ⟨j, hj, rfl, rfl, hbr⟩ := hrel
        have y102 : wr.cell? ⟨gq, i * 9 + 1, none⟩ = some (.slice ar D.rev.length cr) := (hl.out.below hbr).cell (i := i) (j := 1) hiT.out (by rw [hD.out]; rfl)
        have y94 : wr.cell? ⟨g4, 1, none⟩ = some (.slice aS S.rev.length cS) := by rw [← hvs.out]; exact (k4.below hbr).cell (j := 1) rfl
        have hbr := Lib.hid hbr
        obtain ⟨k, hk⟩ : ∃ k, kk p j = k := ⟨_, rfl⟩
        rw [hk]
        have hk := Lib.hid hk
        have hj0 : (0 : Int) ≤ (j : Int) := by omega
        have hk0 : (0 : Int) ≤ (k : Int) := by omega
        have hlD : D.rev.length ≤ 32 := hfD.out.may.len
        have hlS : S.rev.length ≤ 32 := hmy.out.len
        by_cases hjn : j < D.rev.length
        · have hj1 : (j : Int) < (D.rev.length : Int) := by omega
          obtain ⟨b1, o1, rfl, z1⟩ := sl_cell (hoD.out.below hbr.out).rv hjn
          obtain ⟨y, hy⟩ : ∃ y, D.rev[j] = y := ⟨_, rfl⟩
          rw [hy] at z1
          have hy := Lib.hid hy
          by_cases hjp : j = p
          · have hkj : Hid (kk p (j + 1) = k) := Lib.hid (by rw [← hk.out, hjp]; exact kk_at p)
            have hkp : Hid (k = p) := Lib.hid (by rw [← hk.out, hjp]; exact kk_self p)
            by_cases hkn : k < S.rev.length
            · have hk1 : (k : Int) < (S.rev.length : Int) := by omega
              obtain ⟨b2, o2, rfl, z2⟩ : ∃ b o, aS = some ⟨b, o, none⟩ ∧ wr.cell? ⟨b, o + k, none⟩ = some (.int .i64 S.rev[k]) := sl_cell (by rw [← hvs.out]; exact (ho0.out.below (bel kb hbr.out)).rv) hkn
              obtain ⟨z, hz⟩ : ∃ z, S.rev[k] = z := ⟨_, rfl⟩
              rw [hz] at z2
              have hz := Lib.hid hz
              have hne : (y == z) = false := by
                have h1 := hG.out.no (by omega)
                simp only [beq_eq_false_iff_ne]
                intro e
                refine h1 ?_
                have h2 := hkp.out
                subst h2
                rw [List.getElem?_eq_getElem hkn, hz.out, ← e, ← hy.out]
                simp only [hjp]
              clear hjp
              go_upto_region 18 with fail
              obtain ⟨wq, rfl⟩ : ∃ wq : World, wq = wr := ⟨_, rfl⟩
              refine Tx.start (fun w' => Below (wq).heap.size (wq) w') 9999 21 rfl (by kernel_rfl) ?_
              have hS_8 : Below (wq).heap.size (wq) (World.drew wq) := (Below.refl _ _).drew
              refine Tx.seg (A := ?_) 0 2097151 (by kernel_rfl) (by exact hS_8) [0, 1, 2, 3, 4, 5, 6, 7, 8, 9, 10, 11, 12, 13, 14, 15, 16, 17, 18, 19, 20] (by kernel_rfl) ?_ ?_
              rotate_left
              · intro w' hB
                have x1 : w'.cell? ⟨g4, 1, none⟩ = some (.slice (some ⟨b2, o2, none⟩) S.rev.length cS) := by rw [hB.cell (p := ⟨g4, 1, none⟩) (World.block_lt_of_cell? _ _ y94)]; exact y94
                have x2 : w'.cell? ⟨gq, i * 9 + 1, none⟩ = some (.slice (some ⟨b1, o1, none⟩) D.rev.length cr) := by rw [hB.cell (p := ⟨gq, i * 9 + 1, none⟩) (World.block_lt_of_cell? _ _ y102)]; exact y102
                have x3 : w'.cell? ⟨b1, o1 + j, none⟩ = some (.int .i64 y) := by rw [hB.cell (p := ⟨b1, o1 + j, none⟩) (World.block_lt_of_cell? _ _ z1)]; exact z1
                have x4 : w'.cell? ⟨b2, o2 + k, none⟩ = some (.int .i64 z) := by rw [hB.cell (p := ⟨b2, o2 + k, none⟩) (World.block_lt_of_cell? _ _ z2)]; exact z2
                iterate 21 (first | (refine rd_skip rfl rfl ?_; simp only [Act.put, List.setIfInBounds_toArray, List.set_cons_zero, List.set_cons_succ]) | (refine rd_load_arr rfl rfl _ _ rfl _ rfl (by decide +kernel) _ (by assumption) (by first | (rw [lims_len]; kernel_rfl) | (rw [el_rep]; kernel_rfl) | (rw [el_len]; kernel_rfl) | (rw [byts_len]; kernel_rfl) | (rw [us_len]; kernel_rfl) | (rw [bytn_len]; kernel_rfl) | (rw [ens_len, digs_len]; kernel_rfl) | kernel_rfl) ?_; simp only [Act.put, List.setIfInBounds_toArray, List.set_cons_zero, List.set_cons_succ]) | (refine rd_load_mid rfl rfl _ _ rfl _ _ rfl (by decide +kernel) _ yr (by first | (rw [lims_len]; kernel_rfl) | (rw [el_rep]; kernel_rfl) | (rw [el_len]; kernel_rfl) | (rw [byts_len]; kernel_rfl) | (rw [us_len]; kernel_rfl) | (rw [bytn_len]; kernel_rfl) | (rw [ens_len, digs_len]; kernel_rfl) | kernel_rfl) ?_; simp only [Act.put, List.setIfInBounds_toArray, List.set_cons_zero, List.set_cons_succ]) | (refine rd_take (v := ?_) rfl rfl ?_ ?_; rotate_left; (focus (go_simp; try (with_reducible rfl))); simp only [Act.put, List.setIfInBounds_toArray, List.set_cons_zero, List.set_cons_succ]) | (refine rd_take (v := ?_) rfl rfl ?_ ?_; rotate_left; (focus (try go_simp); fail)))
                exact rd_nil
              refine Tx.done (by kernel_rfl) ?_
              go_wp2_with fail
              exact ⟨⟨j + 1, by omega, by go_num, by rw [hkj.out], bel hbr.out hS_8⟩, by simp [intOf]; omega⟩
            · have hk1 : decide ((k : Int) < (S.rev.length : Int)) = false := decide_eq_false (by omega)
              clear hjp
              go_upto_region 18 with fail
              obtain ⟨wq, rfl⟩ : ∃ wq : World, wq = wr := ⟨_, rfl⟩
              refine Tx.start (fun w' => Below (wq).heap.size (wq) w') 9999 21 rfl (by kernel_rfl) ?_
              have hS_9 : Below (wq).heap.size (wq) (World.drew wq) := (Below.refl _ _).drew
              refine Tx.seg (A := ?_) 0 2097151 (by kernel_rfl) (by exact hS_9) [0, 1, 2, 3, 4, 5, 6, 7, 8, 9, 10, 11, 12, 13, 14, 15, 16, 17, 18, 19, 20] (by kernel_rfl) ?_ ?_
              rotate_left
              · intro w' hB
                have x1 : w'.cell? ⟨g4, 1, none⟩ = some (.slice aS S.rev.length cS) := by rw [hB.cell (p := ⟨g4, 1, none⟩) (World.block_lt_of_cell? _ _ y94)]; exact y94
                iterate 21 (first | (refine rd_skip rfl rfl ?_; simp only [Act.put, List.setIfInBounds_toArray, List.set_cons_zero, List.set_cons_succ]) | (refine rd_load_arr rfl rfl _ _ rfl _ rfl (by decide +kernel) _ (by assumption) (by first | (rw [lims_len]; kernel_rfl) | (rw [el_rep]; kernel_rfl) | (rw [el_len]; kernel_rfl) | (rw [byts_len]; kernel_rfl) | (rw [us_len]; kernel_rfl) | (rw [bytn_len]; kernel_rfl) | (rw [ens_len, digs_len]; kernel_rfl) | kernel_rfl) ?_; simp only [Act.put, List.setIfInBounds_toArray, List.set_cons_zero, List.set_cons_succ]) | (refine rd_load_mid rfl rfl _ _ rfl _ _ rfl (by decide +kernel) _ yr (by first | (rw [lims_len]; kernel_rfl) | (rw [el_rep]; kernel_rfl) | (rw [el_len]; kernel_rfl) | (rw [byts_len]; kernel_rfl) | (rw [us_len]; kernel_rfl) | (rw [bytn_len]; kernel_rfl) | (rw [ens_len, digs_len]; kernel_rfl) | kernel_rfl) ?_; simp only [Act.put, List.setIfInBounds_toArray, List.set_cons_zero, List.set_cons_succ]) | (refine rd_take (v := ?_) rfl rfl ?_ ?_; rotate_left; (focus (go_simp; try (with_reducible rfl))); simp only [Act.put, List.setIfInBounds_toArray, List.set_cons_zero, List.set_cons_succ]) | (refine rd_take (v := ?_) rfl rfl ?_ ?_; rotate_left; (focus (try go_simp); fail)))
                exact rd_nil
              refine Tx.done (by kernel_rfl) ?_
              go_wp2_with fail
              exact ⟨⟨j + 1, by omega, by go_num, by rw [hkj.out], bel hbr.out hS_9⟩, by simp [intOf]; omega⟩
          · have hkj : Hid (kk p (j + 1) = k + 1) := Lib.hid (by rw [← hk.out]; exact kk_on hjp)
            have h1 := hG.out.hit j hjn hjp
            rw [hk.out, hy.out] at h1
            have hkn : k < S.rev.length := (List.getElem?_eq_some_iff.1 h1).1
            have hk1 : (k : Int) < (S.rev.length : Int) := by omega
            obtain ⟨b2, o2, rfl, z2⟩ : ∃ b o, aS = some ⟨b, o, none⟩ ∧ wr.cell? ⟨b, o + k, none⟩ = some (.int .i64 S.rev[k]) := sl_cell (by rw [← hvs.out]; exact (ho0.out.below (bel kb hbr.out)).rv) hkn
            have h2 : S.rev[k] = y := (List.getElem?_eq_some_iff.1 h1).2
            rw [h2] at z2
            clear h1 h2 hjp
            go_upto_region 18 with fail
            obtain ⟨wq, rfl⟩ : ∃ wq : World, wq = wr := ⟨_, rfl⟩
            refine Tx.start (fun w' => Below (wq).heap.size (wq) w') 9999 21 rfl (by kernel_rfl) ?_
            have hS_10 : Below (wq).heap.size (wq) (World.drew wq) := (Below.refl _ _).drew
            refine Tx.seg (A := ?_) 0 2097151 (by kernel_rfl) (by exact hS_10) [0, 1, 2, 3, 4, 5, 6, 7, 8, 9, 10, 11, 12, 13, 14, 15, 16, 17, 18, 19, 20] (by kernel_rfl) ?_ ?_
            rotate_left
            · intro w' hB
              have x1 : w'.cell? ⟨g4, 1, none⟩ = some (.slice (some ⟨b2, o2, none⟩) S.rev.length cS) := by rw [hB.cell (p := ⟨g4, 1, none⟩) (World.block_lt_of_cell? _ _ y94)]; exact y94
              have x2 : w'.cell? ⟨gq, i * 9 + 1, none⟩ = some (.slice (some ⟨b1, o1, none⟩) D.rev.length cr) := by rw [hB.cell (p := ⟨gq, i * 9 + 1, none⟩) (World.block_lt_of_cell? _ _ y102)]; exact y102
              have x3 : w'.cell? ⟨b1, o1 + j, none⟩ = some (.int .i64 y) := by rw [hB.cell (p := ⟨b1, o1 + j, none⟩) (World.block_lt_of_cell? _ _ z1)]; exact z1
              have x4 : w'.cell? ⟨b2, o2 + k, none⟩ = some (.int .i64 y) := by rw [hB.cell (p := ⟨b2, o2 + k, none⟩) (World.block_lt_of_cell? _ _ z2)]; exact z2
              iterate 21 (first | (refine rd_skip rfl rfl ?_; simp only [Act.put, List.setIfInBounds_toArray, List.set_cons_zero, List.set_cons_succ]) | (refine rd_load_arr rfl rfl _ _ rfl _ rfl (by decide +kernel) _ (by assumption) (by first | (rw [lims_len]; kernel_rfl) | (rw [el_rep]; kernel_rfl) | (rw [el_len]; kernel_rfl) | (rw [byts_len]; kernel_rfl) | (rw [us_len]; kernel_rfl) | (rw [bytn_len]; kernel_rfl) | (rw [ens_len, digs_len]; kernel_rfl) | kernel_rfl) ?_; simp only [Act.put, List.setIfInBounds_toArray, List.set_cons_zero, List.set_cons_succ]) | (refine rd_load_mid rfl rfl _ _ rfl _ _ rfl (by decide +kernel) _ yr (by first | (rw [lims_len]; kernel_rfl) | (rw [el_rep]; kernel_rfl) | (rw [el_len]; kernel_rfl) | (rw [byts_len]; kernel_rfl) | (rw [us_len]; kernel_rfl) | (rw [bytn_len]; kernel_rfl) | (rw [ens_len, digs_len]; kernel_rfl) | kernel_rfl) ?_; simp only [Act.put, List.setIfInBounds_toArray, List.set_cons_zero, List.set_cons_succ]) | (refine rd_take (v := ?_) rfl rfl ?_ ?_; rotate_left; (focus (go_simp; try (with_reducible rfl))); simp only [Act.put, List.setIfInBounds_toArray, List.set_cons_zero, List.set_cons_succ]) | (refine rd_take (v := ?_) rfl rfl ?_ ?_; rotate_left; (focus (try go_simp); fail)))
              exact rd_nil
            refine Tx.done (by kernel_rfl) ?_
            go_wp2_with fail
            exact ⟨⟨j + 1, by omega, by go_num, by rw [hkj.out]; go_num, bel hbr.out hS_10⟩, by simp [intOf]; omega⟩
        · have dj : decide ((j : Int) < (D.rev.length : Int)) = false := decide_eq_false (by omega)
          have hke : k = S.rev.length := by
            have h1 := hG.out.len
            rw [show D.rev.length = j by omega, hk.out] at h1
            exact h1
          subst hke
          go_wp2_with fail
          exact ⟨⟨i + 1, by omega, by go_num, hbr.out⟩, by simp [intOf]; omega⟩
  · have de : (er == 0) = false := by simpa using he
    have hTf := Lib.hid (fun p hp => (⟨(hTf.out p hp).1, (hTf.out p hp).2.below hb9.out⟩ : Fls S p.1 ∧ StOk W8 p.1 p.2))
    have hl := hl4
    obtain ⟨gq, hgq⟩ : ∃ g, g9 = g := ⟨_, rfl⟩
    rw [hgq] at hl ⊢
    obtain ⟨c5, hc5⟩ : ∃ c : Nat, c = 4 := ⟨_, rfl⟩
    obtain ⟨wL, hwL⟩ : ∃ w, W8 = w := ⟨_, rfl⟩
    rw [hwL] at hl hTf k4 kb ⊢
    clear oR k12 hl4 ho hb9 hwL
    go_wp2_with fail
    go_loopw [14] (fun iv wr => ∃ i : Nat, i ≤ 4 ∧ iv = .int .i64 i ∧ Below wL.heap.size wL wr) (fun iv _ => 4 - (intOf iv).toNat)
    case atStart => exact ⟨0, by omega, rfl, Below.refl _ _⟩
    case round =>
      obtain ⟨i, hi, rfl, hbr⟩ := hrel
      by_cases hin : i < 4
      rotate_left
      · have dj : decide ((i : Int) < 4) = false := decide_eq_false (by omega)
        go_wp2_with fail
        go_ret
        exact ⟨rfl, bel kb hbr⟩
      have hi0 : (0 : Int) ≤ (i : Int) := by omega
      have hi1 : (i : Int) < 4 := by omega
      have hiT : i < T.length := by omega
      obtain ⟨⟨D, u⟩, hD⟩ : ∃ p, T[i] = p := ⟨_, rfl⟩
      obtain ⟨hfD, hoD⟩ := hTf.out T[i] (List.getElem_mem hiT)
      rw [hD] at hfD hoD
      replace hfD : Fls S D := hfD
      replace hoD : StOk wL D u := hoD
      obtain ⟨ur, um0, um1⟩ := u
      obtain ⟨ar, cr, hu, hcr⟩ := sl_shape hoD.rv
      simp only at hu
      subst hu
      have hfD := Lib.hid hfD
      have hoD := Lib.hid hoD
      have hD := Lib.hid hD
      have hiT := Lib.hid hiT
      have dfl : decide (D.floor < S.floor) = false := decide_eq_false (by have := hfD.out.flo; omega)
      go_upto_region 12 with fail
      obtain ⟨wq, rfl⟩ : ∃ wq : World, wq = wr := ⟨_, rfl⟩
      refine Tx.start (fun w' => Below (wq).heap.size (wq) w') 9999 16 rfl (by kernel_rfl) ?_
      have hS_11 : Below (wq).heap.size (wq) (World.drew wq) := (Below.refl _ _).drew
      refine Tx.seg (A := ?_) 3 8191 (by kernel_rfl) (by exact hS_11) [0, 1, 2, 3, 4, 5, 6, 7, 8, 9, 10, 11, 12] (by kernel_rfl) ?_ ?_
      rotate_left
      · intro w' hB
        have yl := hl.out.below (bel hbr hB)
        have yr := yl.range hiT.out
        rw [hD.out] at yr
        replace yr : w'.rangeAt gq (i * 9) (D.cs ⟨.slice ar D.rev.length cr, um0, um1⟩) := yr
        have y0 : w'.cell? ⟨gq, i * 9, none⟩ = some (.int .i64 D.floor) := yl.cell (i := i) (j := 0) hiT.out (by rw [hD.out]; rfl)
        have y1 : w'.cell? ⟨g4, 0, none⟩ = some (.int .i64 S.floor) := (k4.below (bel hbr hB)).cell (j := 0) rfl
        replace yl := Lib.hid yl
        iterate 13 (first | (refine rd_skip rfl rfl ?_; simp only [Act.put, List.setIfInBounds_toArray, List.set_cons_zero, List.set_cons_succ]) | (refine rd_load_arr rfl rfl _ _ rfl _ rfl (by decide +kernel) _ (by assumption) (by first | (rw [lims_len]; kernel_rfl) | (rw [el_rep]; kernel_rfl) | (rw [el_len]; kernel_rfl) | (rw [byts_len]; kernel_rfl) | (rw [us_len]; kernel_rfl) | (rw [bytn_len]; kernel_rfl) | (rw [ens_len, digs_len]; kernel_rfl) | kernel_rfl) ?_; simp only [Act.put, List.setIfInBounds_toArray, List.set_cons_zero, List.set_cons_succ]) | (refine rd_load_mid rfl rfl _ _ rfl _ _ rfl (by decide +kernel) _ yr (by first | (rw [lims_len]; kernel_rfl) | (rw [el_rep]; kernel_rfl) | (rw [el_len]; kernel_rfl) | (rw [byts_len]; kernel_rfl) | (rw [us_len]; kernel_rfl) | (rw [bytn_len]; kernel_rfl) | (rw [ens_len, digs_len]; kernel_rfl) | kernel_rfl) ?_; simp only [Act.put, List.setIfInBounds_toArray, List.set_cons_zero, List.set_cons_succ]) | (refine rd_take (v := ?_) rfl rfl ?_ ?_; rotate_left; (focus (go_simp; try (with_reducible rfl))); simp only [Act.put, List.setIfInBounds_toArray, List.set_cons_zero, List.set_cons_succ]) | (refine rd_take (v := ?_) rfl rfl ?_ ?_; rotate_left; (focus (try go_simp); fail)))
        exact rd_nil
      refine Tx.eff 13 16383 rfl (by decide +kernel) (fun K hK => ?_)
      go_simp
      refine (mayb_any D _ _ (hoD.out.below (bel hbr hS_11))).mono ?_
      rintro e w_12 ⟨rfl, hb_12⟩
      have hS_12 := ext_trans hS_11 (Nat.le_refl _) hb_12
      refine hK (fun w' => Below (wq).heap.size (wq) w') _ _ hS_12 (fun _ h => h) ?_
      clear hK K hb_12 hS_11
      try simp only [Act.put, List.setIfInBounds_toArray, List.set_cons_zero, List.set_cons_succ]
      rw [mayB_of hfD.out.may]
      refine Tx.seg (A := ?_) 0 65535 (by kernel_rfl) (by exact hS_12) [14, 15] (by kernel_rfl) ?_ ?_
      rotate_left
      · intro w' hB
        iterate 2 (first | (refine rd_skip rfl rfl ?_; simp only [Act.put, List.setIfInBounds_toArray, List.set_cons_zero, List.set_cons_succ]) | (refine rd_load_arr rfl rfl _ _ rfl _ rfl (by decide +kernel) _ (by assumption) (by first | (rw [lims_len]; kernel_rfl) | (rw [el_rep]; kernel_rfl) | (rw [el_len]; kernel_rfl) | (rw [byts_len]; kernel_rfl) | (rw [us_len]; kernel_rfl) | (rw [bytn_len]; kernel_rfl) | (rw [ens_len, digs_len]; kernel_rfl) | kernel_rfl) ?_; simp only [Act.put, List.setIfInBounds_toArray, List.set_cons_zero, List.set_cons_succ]) | (refine rd_load_mid rfl rfl _ _ rfl _ _ rfl (by decide +kernel) _ yr (by first | (rw [lims_len]; kernel_rfl) | (rw [el_rep]; kernel_rfl) | (rw [el_len]; kernel_rfl) | (rw [byts_len]; kernel_rfl) | (rw [us_len]; kernel_rfl) | (rw [bytn_len]; kernel_rfl) | (rw [ens_len, digs_len]; kernel_rfl) | kernel_rfl) ?_; simp only [Act.put, List.setIfInBounds_toArray, List.set_cons_zero, List.set_cons_succ]) | (refine rd_take (v := ?_) rfl rfl ?_ ?_; rotate_left; (focus (go_simp; try (with_reducible rfl))); simp only [Act.put, List.setIfInBounds_toArray, List.set_cons_zero, List.set_cons_succ]) | (refine rd_take (v := ?_) rfl rfl ?_ ?_; rotate_left; (focus (try go_simp); fail)))
        exact rd_nil
      refine Tx.done (by kernel_rfl) ?_
      have hbr := bel hbr hS_12
      obtain ⟨wM, hwM⟩ : ∃ w', w_12 = w' := ⟨_, rfl⟩
      rw [hwM] at hbr ⊢
      have hbr := Lib.hid hbr
      clear hwM dfl
      obtain ⟨p, hG⟩ := hfD.out.sub
      have hG := Lib.hid hG
      obtain ⟨aS, cS, hvs, hcS⟩ := sl_shape ho0.out.rv
      have hvs := Lib.hid hvs
      go_wp2_with fail
      go_loopw [16, 15] (fun jv kv wr => ∃ j : Nat, j ≤ D.rev.length ∧ jv = .int .i64 j ∧ kv = .int .i64 (kk p j : Nat) ∧ Below wL.heap.size wL wr) (fun jv _ _ => D.rev.length - (intOf jv).toNat)
      case atStart => exact ⟨0, Nat.zero_le _, rfl, by rw [kk_zero]; rfl, hbr.out⟩
      case round =>
        clear hbr
        obtain ⟨j, hj, rfl, rfl, hbr⟩ := hrel
        have y102 : wr.cell? ⟨gq, i * 9 + 1, none⟩ = some (.slice ar D.rev.length cr) := (hl.out.below hbr).cell (i := i) (j := 1) hiT.out (by rw [hD.out]; rfl)
        have y94 : wr.cell? ⟨g4, 1, none⟩ = some (.slice aS S.rev.length cS) := by rw [← hvs.out]; exact (k4.below hbr).cell (j := 1) rfl
        have hbr := Lib.hid hbr
        obtain ⟨k, hk⟩ : ∃ k, kk p j = k := ⟨_, rfl⟩
        rw [hk]
        have hk := Lib.hid hk
        have hj0 : (0 : Int) ≤ (j : Int) := by omega
        have hk0 : (0 : Int) ≤ (k : Int) := by omega
        have hlD : D.rev.length ≤ 32 := hfD.out.may.len
        have hlS : S.rev.length ≤ 32 := hmy.out.len
        by_cases hjn : j < D.rev.length
        · have hj1 : (j : Int) < (D.rev.length : Int) := by omega
          obtain ⟨b1, o1, rfl, z1⟩ := sl_cell (hoD.out.below hbr.out).rv hjn
          obtain ⟨y, hy⟩ : ∃ y, D.rev[j] = y := ⟨_, rfl⟩
          rw [hy] at z1
          have hy := Lib.hid hy
          by_cases hjp : j = p
          · have hkj : Hid (kk p (j + 1) = k) := Lib.hid (by rw [← hk.out, hjp]; exact kk_at p)
            have hkp : Hid (k = p) := Lib.hid (by rw [← hk.out, hjp]; exact kk_self p)
            by_cases hkn : k < S.rev.length
            · have hk1 : (k : Int) < (S.rev.length : Int) := by omega
              obtain ⟨b2, o2, rfl, z2⟩ : ∃ b o, aS = some ⟨b, o, none⟩ ∧ wr.cell? ⟨b, o + k, none⟩ = some (.int .i64 S.rev[k]) := sl_cell (by rw [← hvs.out]; exact (ho0.out.below (bel kb hbr.out)).rv) hkn
              obtain ⟨z, hz⟩ : ∃ z, S.rev[k] = z := ⟨_, rfl⟩
              rw [hz] at z2
              have hz := Lib.hid hz
              have hne : (y == z) = false := by
                have h1 := hG.out.no (by omega)
                simp only [beq_eq_false_iff_ne]
                intro e
                refine h1 ?_
                have h2 := hkp.out
                subst h2
                rw [List.getElem?_eq_getElem hkn, hz.out, ← e, ← hy.out]
                simp only [hjp]
              clear hjp
              go_upto_region 18 with fail
              obtain ⟨wq, rfl⟩ : ∃ wq : World, wq = wr := ⟨_, rfl⟩
              refine Tx.start (fun w' => Below (wq).heap.size (wq) w') 9999 21 rfl (by kernel_rfl) ?_
              have hS_13 : Below (wq).heap.size (wq) (World.drew wq) := (Below.refl _ _).drew
              refine Tx.seg (A := ?_) 0 2097151 (by kernel_rfl) (by exact hS_13) [0, 1, 2, 3, 4, 5, 6, 7, 8, 9, 10, 11, 12, 13, 14, 15, 16, 17, 18, 19, 20] (by kernel_rfl) ?_ ?_
              rotate_left
              · intro w' hB
                have x1 : w'.cell? ⟨g4, 1, none⟩ = some (.slice (some ⟨b2, o2, none⟩) S.rev.length cS) := by rw [hB.cell (p := ⟨g4, 1, none⟩) (World.block_lt_of_cell? _ _ y94)]; exact y94
                have x2 : w'.cell? ⟨gq, i * 9 + 1, none⟩ = some (.slice (some ⟨b1, o1, none⟩) D.rev.length cr) := by rw [hB.cell (p := ⟨gq, i * 9 + 1, none⟩) (World.block_lt_of_cell? _ _ y102)]; exact y102
                have x3 : w'.cell? ⟨b1, o1 + j, none⟩ = some (.int .i64 y) := by rw [hB.cell (p := ⟨b1, o1 + j, none⟩) (World.block_lt_of_cell? _ _ z1)]; exact z1
                have x4 : w'.cell? ⟨b2, o2 + k, none⟩ = some (.int .i64 z) := by rw [hB.cell (p := ⟨b2, o2 + k, none⟩) (World.block_lt_of_cell? _ _ z2)]; exact z2
                iterate 21 (first | (refine rd_skip rfl rfl ?_; simp only [Act.put, List.setIfInBounds_toArray, List.set_cons_zero, List.set_cons_succ]) | (refine rd_load_arr rfl rfl _ _ rfl _ rfl (by decide +kernel) _ (by assumption) (by first | (rw [lims_len]; kernel_rfl) | (rw [el_rep]; kernel_rfl) | (rw [el_len]; kernel_rfl) | (rw [byts_len]; kernel_rfl) | (rw [us_len]; kernel_rfl) | (rw [bytn_len]; kernel_rfl) | (rw [ens_len, digs_len]; kernel_rfl) | kernel_rfl) ?_; simp only [Act.put, List.setIfInBounds_toArray, List.set_cons_zero, List.set_cons_succ]) | (refine rd_load_mid rfl rfl _ _ rfl _ _ rfl (by decide +kernel) _ yr (by first | (rw [lims_len]; kernel_rfl) | (rw [el_rep]; kernel_rfl) | (rw [el_len]; kernel_rfl) | (rw [byts_len]; kernel_rfl) | (rw [us_len]; kernel_rfl) | (rw [bytn_len]; kernel_rfl) | (rw [ens_len, digs_len]; kernel_rfl) | kernel_rfl) ?_; simp only [Act.put, List.setIfInBounds_toArray, List.set_cons_zero, List.set_cons_succ]) | (refine rd_take (v := ?_) rfl rfl ?_ ?_; rotate_left; (focus (go_simp; try (with_reducible rfl))); simp only [Act.put, List.setIfInBounds_toArray, List.set_cons_zero, List.set_cons_succ]) | (refine rd_take (v := ?_) rfl rfl ?_ ?_; rotate_left; (focus (try go_simp); fail)))
                exact rd_nil
              refine Tx.done (by kernel_rfl) ?_
              go_wp2_with fail
              exact ⟨⟨j + 1, by omega, by go_num, by rw [hkj.out], bel hbr.out hS_13⟩, by simp [intOf]; omega⟩
            · have hk1 : decide ((k : Int) < (S.rev.length : Int)) = false := decide_eq_false (by omega)
              clear hjp
              go_upto_region 18 with fail
              obtain ⟨wq, rfl⟩ : ∃ wq : World, wq = wr := ⟨_, rfl⟩
              refine Tx.start (fun w' => Below (wq).heap.size (wq) w') 9999 21 rfl (by kernel_rfl) ?_
              have hS_14 : Below (wq).heap.size (wq) (World.drew wq) := (Below.refl _ _).drew
              refine Tx.seg (A := ?_) 0 2097151 (by kernel_rfl) (by exact hS_14) [0, 1, 2, 3, 4, 5, 6, 7, 8, 9, 10, 11, 12, 13, 14, 15, 16, 17, 18, 19, 20] (by kernel_rfl) ?_ ?_
              rotate_left
              · intro w' hB
                have x1 : w'.cell? ⟨g4, 1, none⟩ = some (.slice aS S.rev.length cS) := by rw [hB.cell (p := ⟨g4, 1, none⟩) (World.block_lt_of_cell? _ _ y94)]; exact y94
                iterate 21 (first | (refine rd_skip rfl rfl ?_; simp only [Act.put, List.setIfInBounds_toArray, List.set_cons_zero, List.set_cons_succ]) | (refine rd_load_arr rfl rfl _ _ rfl _ rfl (by decide +kernel) _ (by assumption) (by first | (rw [lims_len]; kernel_rfl) | (rw [el_rep]; kernel_rfl) | (rw [el_len]; kernel_rfl) | (rw [byts_len]; kernel_rfl) | (rw [us_len]; kernel_rfl) | (rw [bytn_len]; kernel_rfl) | (rw [ens_len, digs_len]; kernel_rfl) | kernel_rfl) ?_; simp only [Act.put, List.setIfInBounds_toArray, List.set_cons_zero, List.set_cons_succ]) | (refine rd_load_mid rfl rfl _ _ rfl _ _ rfl (by decide +kernel) _ yr (by first | (rw [lims_len]; kernel_rfl) | (rw [el_rep]; kernel_rfl) | (rw [el_len]; kernel_rfl) | (rw [byts_len]; kernel_rfl) | (rw [us_len]; kernel_rfl) | (rw [bytn_len]; kernel_rfl) | (rw [ens_len, digs_len]; kernel_rfl) | kernel_rfl) ?_; simp only [Act.put, List.setIfInBounds_toArray, List.set_cons_zero, List.set_cons_succ]) | (refine rd_take (v := ?_) rfl rfl ?_ ?_; rotate_left; (focus (go_simp; try (with_reducible rfl))); simp only [Act.put, List.setIfInBounds_toArray, List.set_cons_zero, List.set_cons_succ]) | (refine rd_take (v := ?_) rfl rfl ?_ ?_; rotate_left; (focus (try go_simp); fail)))
                exact rd_nil
              refine Tx.done (by kernel_rfl) ?_
              go_wp2_with fail
              exact ⟨⟨j + 1, by omega, by go_num, by rw [hkj.out], bel hbr.out hS_14⟩, by simp [intOf]; omega⟩
          · have hkj : Hid (kk p (j + 1) = k + 1) := Lib.hid (by rw [← hk.out]; exact kk_on hjp)
            have h1 := hG.out.hit j hjn hjp
            rw [hk.out, hy.out] at h1
            have hkn : k < S.rev.length := (List.getElem?_eq_some_iff.1 h1).1
            have hk1 : (k : Int) < (S.rev.length : Int) := by omega
            obtain ⟨b2, o2, rfl, z2⟩ : ∃ b o, aS = some ⟨b, o, none⟩ ∧ wr.cell? ⟨b, o + k, none⟩ = some (.int .i64 S.rev[k]) := sl_cell (by rw [← hvs.out]; exact (ho0.out.below (bel kb hbr.out)).rv) hkn
            have h2 : S.rev[k] = y := (List.getElem?_eq_some_iff.1 h1).2
            rw [h2] at z2
            clear h1 h2 hjp
            go_upto_region 18 with fail
            obtain ⟨wq, rfl⟩ : ∃ wq : World, wq = wr := ⟨_, rfl⟩
            refine Tx.start (fun w' => Below (wq).heap.size (wq) w') 9999 21 rfl (by kernel_rfl) ?_
            have hS_15 : Below (wq).heap.size (wq) (World.drew wq) := (Below.refl _ _).drew
            refine Tx.seg (A := ?_) 0 2097151 (by kernel_rfl) (by exact hS_15) [0, 1, 2, 3, 4, 5, 6, 7, 8, 9, 10, 11, 12, 13, 14, 15, 16, 17, 18, 19, 20] (by kernel_rfl) ?_ ?_
            rotate_left
            · intro w' hB
              have x1 : w'.cell? ⟨g4, 1, none⟩ = some (.slice (some ⟨b2, o2, none⟩) S.rev.length cS) := by rw [hB.cell (p := ⟨g4, 1, none⟩) (World.block_lt_of_cell? _ _ y94)]; exact y94
              have x2 : w'.cell? ⟨gq, i * 9 + 1, none⟩ = some (.slice (some ⟨b1, o1, none⟩) D.rev.length cr) := by rw [hB.cell (p := ⟨gq, i * 9 + 1, none⟩) (World.block_lt_of_cell? _ _ y102)]; exact y102
              have x3 : w'.cell? ⟨b1, o1 + j, none⟩ = some (.int .i64 y) := by rw [hB.cell (p := ⟨b1, o1 + j, none⟩) (World.block_lt_of_cell? _ _ z1)]; exact z1
              have x4 : w'.cell? ⟨b2, o2 + k, none⟩ = some (.int .i64 y) := by rw [hB.cell (p := ⟨b2, o2 + k, none⟩) (World.block_lt_of_cell? _ _ z2)]; exact z2
              iterate 21 (first | (refine rd_skip rfl rfl ?_; simp only [Act.put, List.setIfInBounds_toArray, List.set_cons_zero, List.set_cons_succ]) | (refine rd_load_arr rfl rfl _ _ rfl _ rfl (by decide +kernel) _ (by assumption) (by first | (rw [lims_len]; kernel_rfl) | (rw [el_rep]; kernel_rfl) | (rw [el_len]; kernel_rfl) | (rw [byts_len]; kernel_rfl) | (rw [us_len]; kernel_rfl) | (rw [bytn_len]; kernel_rfl) | (rw [ens_len, digs_len]; kernel_rfl) | kernel_rfl) ?_; simp only [Act.put, List.setIfInBounds_toArray, List.set_cons_zero, List.set_cons_succ]) | (refine rd_load_mid rfl rfl _ _ rfl _ _ rfl (by decide +kernel) _ yr (by first | (rw [lims_len]; kernel_rfl) | (rw [el_rep]; kernel_rfl) | (rw [el_len]; kernel_rfl) | (rw [byts_len]; kernel_rfl) | (rw [us_len]; kernel_rfl) | (rw [bytn_len]; kernel_rfl) | (rw [ens_len, digs_len]; kernel_rfl) | kernel_rfl) ?_; simp only [Act.put, List.setIfInBounds_toArray, List.set_cons_zero, List.set_cons_succ]) | (refine rd_take (v := ?_) rfl rfl ?_ ?_; rotate_left; (focus (go_simp; try (with_reducible rfl))); simp only [Act.put, List.setIfInBounds_toArray, List.set_cons_zero, List.set_cons_succ]) | (refine rd_take (v := ?_) rfl rfl ?_ ?_; rotate_left; (focus (try go_simp); fail)))
              exact rd_nil
            refine Tx.done (by kernel_rfl) ?_
            go_wp2_with fail
            exact ⟨⟨j + 1, by omega, by go_num, by rw [hkj.out]; go_num, bel hbr.out hS_15⟩, by simp [intOf]; omega⟩
        · have dj : decide ((j : Int) < (D.rev.length : Int)) = false := decide_eq_false (by omega)
          have hke : k = S.rev.length := by
            have h1 := hG.out.len
            rw [show D.rev.length = j by omega, hk.out] at h1
            exact h1
          subst hke
          go_wp2_with fail
          exact ⟨⟨i + 1, by omega, by go_num, hbr.out⟩, by simp [intOf]; omega⟩

end Go.Proofs.Ytkipejhjpfakpaa
