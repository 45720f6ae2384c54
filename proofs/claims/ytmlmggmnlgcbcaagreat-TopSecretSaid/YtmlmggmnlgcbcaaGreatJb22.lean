import Derived.Test.YtmlmggmnlgcbcaaGreatJb14
import Derived.Test.YtmlmggmnlgcbcaaGreatJb21
import Derived.Test.YtmlmggmnlgcbcaaGreatJb16
import Derived.Test.YtmlmggmnlgcbcaaGreatJb08
import Derived.Test.YtmlmggmnlgcbcaaGreatJb03
import Derived.Test.YtmlmggmnlgcbcaaGreatJb11

namespace Go.Proofs.YtmlmggmnlgcbcaaGreat
open Go.RowKit
/-- A list's beginning, its rest. -/
theorem Sl.head {w : World} {b o c m : Nat} {bs : List UInt8} (h : Sl w (.slice (some ⟨b, o, none⟩) bs.length c) (u8s bs)) (hm : m ≤ bs.length) : Sl w (.slice (some ⟨b, o, none⟩) m c) (u8s (bs.take m)) := by
  obtain ⟨a', c', h1, h2, h3, h4, h5⟩ := h
  simp only [Value.slice.injEq] at h1
  obtain ⟨rfl, -, rfl⟩ := h1
  rw [u8s_len] at h2
  have hl : (bs.take m).length = m := by rw [List.length_take]; omega
  refine ⟨_, c, by rw [u8s_len, hl], by rw [u8s_len, hl]; omega, h3, h4, fun x hx j u hu => h5 x hx j u ?_⟩
  have hj : j < m := by
    have := (List.getElem?_eq_some_iff.1 hu).1
    rwa [u8s_len, hl] at this
  rw [← hu]
  simp [u8s, hj]
theorem Sl.tail {w : World} {b o c m : Nat} {bs : List UInt8} (h : Sl w (.slice (some ⟨b, o, none⟩) bs.length c) (u8s bs)) (hm : m ≤ bs.length) : Sl w (.slice (some ⟨b, o + m, none⟩) (bs.length - m) (c - m)) (u8s (bs.drop m)) := by
  obtain ⟨a', c', h1, h2, h3, h4, h5⟩ := h
  simp only [Value.slice.injEq] at h1
  obtain ⟨rfl, -, rfl⟩ := h1
  rw [u8s_len] at h2
  have hl : (bs.drop m).length = bs.length - m := List.length_drop
  refine ⟨_, c - m, by rw [u8s_len, hl], by rw [u8s_len, hl]; omega, by omega, fun h => (by cases h), fun x hx j u hu => ?_⟩
  cases hx
  have hj : j < bs.length - m := by
    have := (List.getElem?_eq_some_iff.1 hu).1
    rwa [u8s_len, hl] at this
  have := h5 _ rfl (m + j) u (by rw [← hu]; simp [u8s])
  rw [Addr.add_lit] at this ⊢
  rw [Nat.add_assoc]
  exact this
/-- A tag's bytes as a list. -/
def tagB (k n : Nat) (bs side : List UInt8) : List UInt8 := (digs 256 16 (tagN k n bs side)).map UInt8.ofNat
/-- What Open hands back: the bytes p turned, if the tag is t; else nothing and an error. -/
def ORet (k n m : Nat) (p t side : List UInt8) (w : World) (e : Ending) (w' : World) : Prop :=
  if tagB k n p side = t then ∃ g, e = .returned (.tuple #[.slice (some ⟨g, 0, none⟩) m m, .int .i64 0]) ∧ w.heap.size ≤ g ∧ Arr w' g (u8s (trB k 1 n p)) else e = .returned (.tuple #[.slice none 0 0, .int .i64 10])
set_option maxHeartbeats 4000000 in
set_option maxRecDepth 100000 in
theorem aopen_any (k n : Nat) (a1 a2 : Option Addr) (c1 c2 : Nat) (bs side : List UInt8) (l1 : bs.length ≤ 100000) (l2 : side.length ≤ 100000) (hb16 : 16 ≤ bs.length) (w : World) (h1 : Sl w (.slice a1 bs.length c1) (u8s bs)) (h2 : Sl w (.slice a2 side.length c2) (u8s side)) :
    Calls Tryz.prog 10 #[.agg (bytn 32 k).toArray, .agg (bytn 12 n).toArray, .slice a1 bs.length c1, .slice a2 side.length c2] w fun e w' =>
      ORet k n (bs.length - 16) (bs.take (bs.length - 16)) (bs.drop (bs.length - 16)) side w e w' ∧ Below w.heap.size w w' := by
  have hlen := h1.len
  rw [u8s_len] at hlen
  obtain ⟨b, o, rfl, -, -, -, -⟩ := h1.at (by rw [u8s_len]; omega)
  obtain ⟨m, hm⟩ : ∃ m, bs.length - 16 = m := ⟨_, rfl⟩
  have hd := Lib.hid (h1.head (m := m) (by omega))
  have tl := Lib.hid (h1.tail (m := m) (by omega))
  have hml : Hid ((bs.take m).length = m) := Lib.hid (by rw [List.length_take]; omega)
  have htl : Hid ((bs.drop m).length = 16) := Lib.hid (by rw [List.length_drop]; omega)
  obtain ⟨p, hp⟩ : ∃ p, bs.take m = p := ⟨_, rfl⟩
  obtain ⟨t, ht⟩ : ∃ t, bs.drop m = t := ⟨_, rfl⟩
  rw [show bs.length - m = 16 by omega] at tl
  rw [hm]
  rw [hp] at hd hml ⊢
  rw [ht] at tl htl ⊢
  obtain ⟨L, hL⟩ : ∃ L, bs.length = L := ⟨_, rfl⟩
  rw [hL] at hlen l1 hb16 hm ⊢
  have hLm : (L : Int) - 16 = (m : Int) := by omega
  have m0 : (0 : Int) ≤ (m : Int) := by omega
  have m1 : ¬ (m : Int) < 0 := by omega
  have m2 : (m : Int) ≤ (c1 : Int) := by omega
  have m3 : (m : Int) ≤ (L : Int) := by omega
  have m4 : ¬ c1 = m := by omega
  have m5 : L - m = 16 := by omega
  have s2 := Lib.hid h2
  clear h1 h2 hp ht hL
  go_enter Tryz.func10, Tryz.ntmps10
  go_upto_region 1 with fail
  refine wp_new2 (fun W hsz k4 k5 kb => ?_)
  have k4 : Arr W w.heap.size (bytn 32 k) := k4
  have k5 : Arr W (w.heap.size + 1) (bytn 12 n) := k5
  clear hsz
  replace hd := Lib.hid (hd.out.below kb)
  replace tl := Lib.hid (tl.out.below kb)
  replace s2 := Lib.hid (s2.out.below kb)
  go_upto_region 4 with fail
  obtain ⟨T, hT⟩ : ∃ T, tagN k n p side = T := ⟨_, rfl⟩
  have cT := Lib.hid (show ∀ w', Below W.heap.size W w' → Calls Tryz.prog 23 #[.agg (bytn 32 k).toArray, .agg (bytn 12 n).toArray, .slice (some ⟨b, o, none⟩) m c1, .slice a2 side.length c2] w' fun e w2 => e = .returned (.agg (bytn 16 T).toArray) ∧ Below w'.heap.size w' w2 from fun w' hb => by
    have q := atag_any k n (some ⟨b, o, none⟩) a2 c1 c2 p side (by rw [hml.out]; omega) l2 w' (by rw [hml.out]; exact hd.out.below hb) (s2.out.below hb)
    rw [hml.out, hT] at q
    exact q)
  have hTt : Hid (tagB k n p side = (digs 256 16 T).map UInt8.ofNat) := Lib.hid (by rw [tagB, hT])
  clear hT
  refine Tx.start (fun w' => Below (W).heap.size (W) w') 8 9 rfl (by kernel_rfl) ?_
  have hS_1 : Below (W).heap.size (W) (World.drew W) := (Below.refl _ _).drew
  refine Tx.seg2 (A := ?_) 3 63 (by kernel_rfl) (by exact hS_1) [0, 1, 2, 3, 4, 5] (by kernel_rfl) ?_ ?_
  rotate_left
  · intro w' hB
    have y4 : Arr w' w.heap.size (bytn 32 k) := k4.below hB
    have y5 : Arr w' (w.heap.size + 1) (bytn 12 n) := k5.below hB
    iterate 6 (first | (refine rd_skip rfl rfl ?_; simp only [Act.put, List.setIfInBounds_toArray, List.set_cons_zero, List.set_cons_succ]) | (refine rd_load_arr rfl rfl _ _ rfl _ rfl (by decide +kernel) _ (by assumption) (by first | (rw [lims_len]; kernel_rfl) | (rw [el_rep]; kernel_rfl) | (rw [el_len]; kernel_rfl) | (rw [byts_len]; kernel_rfl) | (rw [us_len]; kernel_rfl) | (rw [bytn_len]; kernel_rfl) | (rw [ens_len, digs_len]; kernel_rfl) | kernel_rfl) ?_; simp only [Act.put, List.setIfInBounds_toArray, List.set_cons_zero, List.set_cons_succ]) | (refine rd_take (v := ?_) rfl rfl ?_ ?_; rotate_left; (focus (go_simp; try (with_reducible rfl))); simp only [Act.put, List.setIfInBounds_toArray, List.set_cons_zero, List.set_cons_succ]) | (refine rd_take (v := ?_) rfl rfl ?_ ?_; rotate_left; (focus (try go_simp); fail)))
    exact rd_nil
  refine Tx.poolB 1 255 [(6, 23), (7, 11)] [(false, []), (false, [])] [(6, Ph.is (.agg (bytn 16 T).toArray)), (7, Ph.arr W.heap.size (bytn 16 0))] (by kernel_rfl) (by kernel_rfl) (by first | assumption | exact (Below.refl _ _).drew) ?_ ?_
  · refine ⟨⟨_, rfl, ?_⟩, ⟨_, rfl, ?_⟩, trivial⟩
    · intro vs w1 hS hE hD K hK
      clear hD
      simp only [fillL, Act.put, List.setIfInBounds_toArray, List.set_cons_zero, List.set_cons_succ] at hK ⊢
      go_simp
      refine (cT.out _ hS).mono ?_
      rintro e w2 ⟨rfl, hb2⟩
      exact hK _ _ rfl hb2 nofun
    · intro vs w1 hS hE hD K hK
      clear hD
      simp only [fillL, Act.put, List.setIfInBounds_toArray, List.set_cons_zero, List.set_cons_succ] at hK ⊢
      go_simp
      exact hK _ _ ⟨_, rfl, Nat.le_trans (by first | exact Nat.le_refl _ | omega | (simp; omega)) hE.size, Arr.new _ _ _⟩ (below_alloc _ _) (fun _ => ⟨_, rfl, Nat.le_refl _⟩)
  intro vs w_p4 hS_p4 hE_p4 hP hD
  obtain ⟨q6, q7, -⟩ := hP
  simp only [fillL, Act.put, List.setIfInBounds_toArray, List.set_cons_zero, List.set_cons_succ]
  rw [show vs 6 = _ from q6]
  clear q6
  obtain ⟨g7, e7, hg7, ha7⟩ := q7
  rw [e7]
  clear e7 hD vs
  refine Tx.bar 511 rfl (by decide +kernel) (fun K hK => ?_)
  have kb9 := hS_p4
  clear hS_p4 cT hE_p4
  refine step_storeG rfl _ _ _ rfl g7 (bytn 16 T) rfl rfl _ ha7 (by rw [bytn_len]; kernel_rfl) (by rw [bytn_len, bytn_len]) (bytn_one _ _) (fun w9 k11 hg hsz => ?_)
  have hb9 := below_gr kb9 hg hg7 kb9.size
  refine hK (fun _ => True) 9999 _ _ ?_
  clear hK K
  try simp only [Act.put]
  try simp only [List.setIfInBounds_toArray, List.set_cons_zero, List.set_cons_succ]
  refine Tx.done (by kernel_rfl) ?_
  have hWs := kb.size
  replace k4 := k4.below hb9
  replace k5 := k5.below hb9
  replace hd := Lib.hid (hd.out.below hb9)
  replace tl := Lib.hid (tl.out.below hb9)
  replace kb := bel kb hb9
  clear hg hsz hb9 kb9 ha7
  obtain ⟨tB, htB⟩ : ∃ tB, (digs 256 16 T).map UInt8.ofNat = tB := ⟨_, rfl⟩
  have htl2 : Hid (tB.length = 16) := Lib.hid (by rw [← htB]; simp [digs_len])
  have kt := Lib.hid (Sl.ofArrN (m := 16) (l := tB) (by rw [← htB, ← bytn_u8s]; exact k11) htl2.out (by decide))
  rw [htB] at hTt
  clear htB k11
  have cS := Lib.hid (show ∀ w', Below w9.heap.size w9 w' → Calls Tryz.prog 24 #[.slice (some ⟨g7, 0, none⟩) 16 16, .slice (some ⟨b, o + m, none⟩) 16 (c1 - m)] w' fun e w2 => e = .returned (.bool (decide (tB = t))) ∧ Below w'.heap.size w' w2 from fun w' hb => by
    have q := msame_any (some ⟨g7, 0, none⟩) (some ⟨b, o + m, none⟩) 16 (c1 - m) tB t w' (by rw [htl2.out]; exact kt.out.below hb) (by rw [htl.out]; exact tl.out.below hb)
    rw [htl2.out, htl.out] at q
    exact q)
  go_upto_region 5 with fail
  refine Tx.start (fun w' => Below (w9).heap.size (w9) w') 9999 6 rfl (by kernel_rfl) ?_
  have hS_2 : Below (w9).heap.size (w9) (World.drew w9) := (Below.refl _ _).drew
  refine Tx.seg (A := ?_) 2 15 (by kernel_rfl) (by exact hS_2) [0, 1, 2, 3] (by kernel_rfl) ?_ ?_
  rotate_left
  · intro w' hB
    iterate 4 (first | (refine rd_skip rfl rfl ?_; simp only [Act.put, List.setIfInBounds_toArray, List.set_cons_zero, List.set_cons_succ]) | (refine rd_load_arr rfl rfl _ _ rfl _ rfl (by decide +kernel) _ (by assumption) (by first | (rw [lims_len]; kernel_rfl) | (rw [el_rep]; kernel_rfl) | (rw [el_len]; kernel_rfl) | (rw [byts_len]; kernel_rfl) | (rw [us_len]; kernel_rfl) | (rw [bytn_len]; kernel_rfl) | (rw [ens_len, digs_len]; kernel_rfl) | kernel_rfl) ?_; simp only [Act.put, List.setIfInBounds_toArray, List.set_cons_zero, List.set_cons_succ]) | (refine rd_take (v := ?_) rfl rfl ?_ ?_; rotate_left; (focus (go_simp; try (with_reducible rfl))); simp only [Act.put, List.setIfInBounds_toArray, List.set_cons_zero, List.set_cons_succ]) | (refine rd_take (v := ?_) rfl rfl ?_ ?_; rotate_left; (focus (try go_simp); fail)))
    exact rd_nil
  refine Tx.eff 4 31 rfl (by decide +kernel) (fun K hK => ?_)
  go_simp
  refine (cS.out _ hS_2).mono ?_
  rintro e w_3 ⟨rfl, hb_3⟩
  have hS_3 := ext_trans hS_2 (Nat.le_refl _) hb_3
  refine hK (fun w' => Below (w9).heap.size (w9) w') _ _ hS_3 (fun _ h => h) ?_
  clear hK K hb_3 hS_2
  try simp only [Act.put, List.setIfInBounds_toArray, List.set_cons_zero, List.set_cons_succ]
  by_cases heq : tB = t
  rotate_left
  · rw [decide_eq_false heq]
    refine Tx.seg (A := ?_) 0 63 (by kernel_rfl) (by exact hS_3) [5] (by kernel_rfl) ?_ ?_
    rotate_left
    · intro w' hB
      iterate 1 (first | (refine rd_skip rfl rfl ?_; simp only [Act.put, List.setIfInBounds_toArray, List.set_cons_zero, List.set_cons_succ]) | (refine rd_load_arr rfl rfl _ _ rfl _ rfl (by decide +kernel) _ (by assumption) (by first | (rw [lims_len]; kernel_rfl) | (rw [el_rep]; kernel_rfl) | (rw [el_len]; kernel_rfl) | (rw [byts_len]; kernel_rfl) | (rw [us_len]; kernel_rfl) | (rw [bytn_len]; kernel_rfl) | (rw [ens_len, digs_len]; kernel_rfl) | kernel_rfl) ?_; simp only [Act.put, List.setIfInBounds_toArray, List.set_cons_zero, List.set_cons_succ]) | (refine rd_take (v := ?_) rfl rfl ?_ ?_; rotate_left; (focus (go_simp; try (with_reducible rfl))); simp only [Act.put, List.setIfInBounds_toArray, List.set_cons_zero, List.set_cons_succ]) | (refine rd_take (v := ?_) rfl rfl ?_ ?_; rotate_left; (focus (try go_simp); fail)))
      exact rd_nil
    refine Tx.done (by kernel_rfl) ?_
    have kb := bel kb hS_3
    go_wp2_with fail
    go_ret2
    exact ⟨by unfold ORet; rw [if_neg (by rw [hTt.out]; exact heq)]; rfl, kb⟩
  rw [decide_eq_true heq]
  refine Tx.seg (A := ?_) 0 63 (by kernel_rfl) (by exact hS_3) [5] (by kernel_rfl) ?_ ?_
  rotate_left
  · intro w' hB
    iterate 1 (first | (refine rd_skip rfl rfl ?_; simp only [Act.put, List.setIfInBounds_toArray, List.set_cons_zero, List.set_cons_succ]) | (refine rd_load_arr rfl rfl _ _ rfl _ rfl (by decide +kernel) _ (by assumption) (by first | (rw [lims_len]; kernel_rfl) | (rw [el_rep]; kernel_rfl) | (rw [el_len]; kernel_rfl) | (rw [byts_len]; kernel_rfl) | (rw [us_len]; kernel_rfl) | (rw [bytn_len]; kernel_rfl) | (rw [ens_len, digs_len]; kernel_rfl) | kernel_rfl) ?_; simp only [Act.put, List.setIfInBounds_toArray, List.set_cons_zero, List.set_cons_succ]) | (refine rd_take (v := ?_) rfl rfl ?_ ?_; rotate_left; (focus (go_simp; try (with_reducible rfl))); simp only [Act.put, List.setIfInBounds_toArray, List.set_cons_zero, List.set_cons_succ]) | (refine rd_take (v := ?_) rfl rfl ?_ ?_; rotate_left; (focus (try go_simp); fail)))
    exact rd_nil
  refine Tx.done (by kernel_rfl) ?_
  replace k4 := k4.below hS_3
  replace k5 := k5.below hS_3
  replace hd := Lib.hid (hd.out.below hS_3)
  replace kb := bel kb hS_3
  have hsz9 := kb.size
  clear hS_3 cS kt tl
  obtain ⟨wA, hwA⟩ : ∃ wA, w_3 = wA := ⟨_, rfl⟩
  rw [hwA] at k4 k5 hd kb hsz9 ⊢
  clear hwA
  have cU := Lib.hid (show ∀ w', Below wA.heap.size wA w' → Calls Tryz.prog 22 #[.agg (bytn 32 k).toArray, .int .i64 1, .agg (bytn 12 n).toArray, .slice (some ⟨b, o, none⟩) m c1] w' fun e w2 => ∃ g, e = .returned (.slice (some ⟨g, 0, none⟩) m m) ∧ w'.heap.size ≤ g ∧ Arr w2 g (u8s (trB k 1 n p)) ∧ Below w'.heap.size w' w2 from fun w' hb => by
    have q := cturn_any k n 1 (some ⟨b, o, none⟩) c1 p (by decide) (by rw [hml.out]; omega) w' (by rw [hml.out]; exact hd.out.below hb)
    rw [hml.out] at q
    exact q)
  go_upto_region 7 with fail
  refine Tx.start (fun w' => Below (wA).heap.size (wA) w') 9999 8 rfl (by kernel_rfl) ?_
  have hS_4 : Below (wA).heap.size (wA) (World.drew wA) := (Below.refl _ _).drew
  refine Tx.seg (A := ?_) 3 31 (by kernel_rfl) (by exact hS_4) [0, 1, 2, 3, 4] (by kernel_rfl) ?_ ?_
  rotate_left
  · intro w' hB
    have y4 := k4.below hB
    have y5 := k5.below hB
    iterate 5 (first | (refine rd_skip rfl rfl ?_; simp only [Act.put, List.setIfInBounds_toArray, List.set_cons_zero, List.set_cons_succ]) | (refine rd_load_arr rfl rfl _ _ rfl _ rfl (by decide +kernel) _ (by assumption) (by first | (rw [lims_len]; kernel_rfl) | (rw [el_rep]; kernel_rfl) | (rw [el_len]; kernel_rfl) | (rw [byts_len]; kernel_rfl) | (rw [us_len]; kernel_rfl) | (rw [bytn_len]; kernel_rfl) | (rw [ens_len, digs_len]; kernel_rfl) | kernel_rfl) ?_; simp only [Act.put, List.setIfInBounds_toArray, List.set_cons_zero, List.set_cons_succ]) | (refine rd_take (v := ?_) rfl rfl ?_ ?_; rotate_left; (focus (go_simp; try (with_reducible rfl))); simp only [Act.put, List.setIfInBounds_toArray, List.set_cons_zero, List.set_cons_succ]) | (refine rd_take (v := ?_) rfl rfl ?_ ?_; rotate_left; (focus (try go_simp); fail)))
    exact rd_nil
  refine Tx.eff 5 63 rfl (by decide +kernel) (fun K hK => ?_)
  go_simp
  refine (cU.out _ hS_4).mono ?_
  rintro e w_5 ⟨gU, rfl, hgU, kU, hb_5⟩
  have hS_5 := ext_trans hS_4 (Nat.le_refl _) hb_5
  refine hK (fun w' => Below (wA).heap.size (wA) w') _ _ hS_5 (fun _ h => h) ?_
  clear hK K hS_4
  try simp only [Act.put, List.setIfInBounds_toArray, List.set_cons_zero, List.set_cons_succ]
  refine Tx.seg (A := ?_) 0 255 (by kernel_rfl) (by exact hS_5) [6, 7] (by kernel_rfl) ?_ ?_
  rotate_left
  · intro w' hB
    iterate 2 (first | (refine rd_skip rfl rfl ?_; simp only [Act.put, List.setIfInBounds_toArray, List.set_cons_zero, List.set_cons_succ]) | (refine rd_load_arr rfl rfl _ _ rfl _ rfl (by decide +kernel) _ (by assumption) (by first | (rw [lims_len]; kernel_rfl) | (rw [el_rep]; kernel_rfl) | (rw [el_len]; kernel_rfl) | (rw [byts_len]; kernel_rfl) | (rw [us_len]; kernel_rfl) | (rw [bytn_len]; kernel_rfl) | (rw [ens_len, digs_len]; kernel_rfl) | kernel_rfl) ?_; simp only [Act.put, List.setIfInBounds_toArray, List.set_cons_zero, List.set_cons_succ]) | (refine rd_take (v := ?_) rfl rfl ?_ ?_; rotate_left; (focus (go_simp; try (with_reducible rfl))); simp only [Act.put, List.setIfInBounds_toArray, List.set_cons_zero, List.set_cons_succ]) | (refine rd_take (v := ?_) rfl rfl ?_ ?_; rotate_left; (focus (try go_simp); fail)))
    exact rd_nil
  refine Tx.done (by kernel_rfl) ?_
  have kb := bel kb hS_5
  go_wp2_with fail
  go_ret2
  exact ⟨by unfold ORet; rw [if_pos (by rw [hTt.out]; exact heq)]; exact ⟨gU, rfl, Nat.le_trans hsz9 hgU, kU⟩, kb⟩
end Go.Proofs.YtmlmggmnlgcbcaaGreat


namespace Go.Proofs.YtmlmggmnlgcbcaaGreat
open Go.RowKit
theorem tagB_u8s (k n : Nat) (bs side : List UInt8) : bytn 16 (tagN k n bs side) = u8s (tagB k n bs side) := bytn_u8s _ _
theorem tagB_len (k n : Nat) (bs side : List UInt8) : (tagB k n bs side).length = 16 := by simp [tagB, digs_len]
/-- What Seal hands back: bytes of its own. -/
def SRet (S : List UInt8) (w : World) (e : Ending) (w' : World) : Prop := ∃ g c, e = .returned (.slice (some ⟨g, 0, none⟩) S.length c) ∧ Sl w' (.slice (some ⟨g, 0, none⟩) S.length c) (u8s S) ∧ Below w.heap.size w w'
def sealB (k n : Nat) (bs : List UInt8) : List UInt8 := trB k 1 n bs ++ tagB k n (trB k 1 n bs) []
theorem sealB_len (k n : Nat) (bs : List UInt8) : (sealB k n bs).length = bs.length + 16 := by rw [sealB, List.length_append, trB_len, tagB_len]
theorem sealB_take (k n : Nat) (bs : List UInt8) : (sealB k n bs).take ((sealB k n bs).length - 16) = trB k 1 n bs := by
  rw [sealB_len, show bs.length + 16 - 16 = (trB k 1 n bs).length by rw [trB_len]; omega, sealB, List.take_left]
theorem sealB_drop (k n : Nat) (bs : List UInt8) : (sealB k n bs).drop ((sealB k n bs).length - 16) = tagB k n (trB k 1 n bs) [] := by
  rw [sealB_len, show bs.length + 16 - 16 = (trB k 1 n bs).length by rw [trB_len]; omega, sealB, List.drop_left]
set_option maxHeartbeats 2000000 in
set_option maxRecDepth 100000 in
theorem aseal_any (k n : Nat) (a : Option Addr) (c : Nat) (bs : List UInt8) (l1 : bs.length ≤ 50000) (w : World) (h1 : Sl w (.slice a bs.length c) (u8s bs)) :
    Calls Tryz.prog 9 #[.agg (bytn 32 k).toArray, .agg (bytn 12 n).toArray, .slice a bs.length c, .slice none 0 0] w (SRet (sealB k n bs) w) := by
  have cU := Lib.hid (fun w' (hb : Below w.heap.size w w') => cturn_any k n 1 a c bs (by decide) (by omega) w' (h1.below hb))
  obtain ⟨z, hz⟩ : ∃ z, trB k 1 n bs = z := ⟨_, rfl⟩
  have hzl : z.length = bs.length := by rw [← hz, trB_len]
  have hS : Hid (sealB k n bs = z ++ tagB k n z []) := Lib.hid (by rw [sealB, hz])
  rw [hz] at cU
  obtain ⟨m, hm⟩ : ∃ m, bs.length = m := ⟨_, rfl⟩
  rw [hm] at cU hzl l1 ⊢
  obtain ⟨G, hG⟩ : ∃ G, sealB k n bs = G := ⟨_, rfl⟩
  rw [hG] at hS ⊢
  clear h1 hz hm hG
  go_enter Tryz.func9, Tryz.ntmps9
  go_upto_region 1 with fail
  refine wp_new2 (fun W hsz k4 k5 kb => ?_)
  have k4 : Arr W w.heap.size (bytn 32 k) := k4
  have k5 : Arr W (w.heap.size + 1) (bytn 12 n) := k5
  clear hsz
  replace cU := Lib.hid (cU.out W kb)
  go_wp2_with (refine wpList_load_arr2 rfl _ _ rfl _ rfl (by decide +kernel) _ (by assumption) (by first | (rw [lims_len]; kernel_rfl) | (rw [el_rep]; kernel_rfl) | (rw [el_len]; kernel_rfl) | (rw [byts_len]; kernel_rfl) | (rw [us_len]; kernel_rfl) | (rw [bytn_len]; kernel_rfl) | (rw [ens_len, digs_len]; kernel_rfl) | kernel_rfl) ?_)
  refine cU.out.mono ?_
  rintro e w1 ⟨g, rfl, hg, kz, hb⟩
  replace k4 := k4.below hb
  replace k5 := k5.below hb
  replace kb := bel kb hb
  clear hb cU
  have hsz := Lib.hid (show Sl w1 (.slice (some ⟨g, 0, none⟩) m m) (u8s z) from Sl.ofArrN kz hzl (by omega))
  have cT := Lib.hid (by
    have q := atag_any k n (some ⟨g, 0, none⟩) none m 0 z [] (by omega) (by decide) w1 (by rw [hzl]; exact hsz.out) (Sl.nil _)
    rw [hzl] at q
    exact q)
  have hT : Hid (bytn 16 (tagN k n z []) = u8s (tagB k n z [])) := Lib.hid (tagB_u8s _ _ _ _)
  have htl : Hid ((tagB k n z []).length = 16) := Lib.hid (tagB_len _ _ _ _)
  obtain ⟨T, hTe⟩ : ∃ T, tagN k n z [] = T := ⟨_, rfl⟩
  obtain ⟨t, hte⟩ : ∃ t, tagB k n z [] = t := ⟨_, rfl⟩
  rw [hTe] at cT hT
  rw [hte] at hS hT htl
  clear hTe hte kz
  go_wp2_with (refine wpList_load_arr2 rfl _ _ rfl _ rfl (by decide +kernel) _ (by assumption) (by first | (rw [lims_len]; kernel_rfl) | (rw [el_rep]; kernel_rfl) | (rw [el_len]; kernel_rfl) | (rw [byts_len]; kernel_rfl) | (rw [us_len]; kernel_rfl) | (rw [bytn_len]; kernel_rfl) | (rw [ens_len, digs_len]; kernel_rfl) | kernel_rfl) ?_)
  refine cT.out.mono ?_
  rintro e w2 ⟨rfl, hb⟩
  replace kb := bel kb hb
  replace hsz := Lib.hid (hsz.out.below hb)
  clear hb cT k4 k5
  go_upto_region 3 with (refine wpl_storeG rfl _ _ _ rfl _ (bytn 16 T) rfl rfl _ (Arr.new _ _ _) (by rw [bytn_len]; kernel_rfl) (by rw [bytn_len]; rfl) (bytn_one _ _) (fun w4 k6 hg hsz4 => ?_))
  have hb := below_fresh hg
  replace hsz := Lib.hid (hsz.out.below hb)
  replace kb := bel kb hb
  obtain ⟨g6, hg6⟩ : ∃ g, w2.heap.size = g := ⟨_, rfl⟩
  rw [hg6] at k6 ⊢
  clear hg6 hb hg hsz4
  rw [hT.out] at k6
  obtain ⟨i, hi, hz0, hz1, hz2⟩ := info_parts info_u8
  have hst := Sl.ofArrN k6 htl.out (by decide)
  clear k6
  go_wp2_with (at_builtin; refine wpList_append_new rfl _ _ 26 rfl 5 Tryz.underlying26 hi hz0 hz1 hz2 rfl rfl hsz.out rfl hst ?c1 (u8s_one _) ?c3 ?c4 ?_)
  case c1 => rw [u8s_len, u8s_len, htl.out, hzl]; omega
  case c3 => rw [u8s_len, htl.out]; unfold maxLen; omega
  case c4 => rw [u8s_len, htl.out]; omega
  intro v w5 hown hb5
  rw [u8s_len, htl.out, ← u8s_append, ← hS.out] at hown
  have hGl : G.length = m + 16 := by rw [hS.out, List.length_append, htl.out, hzl]
  obtain ⟨g7, c7, rfl, -, -, -, -⟩ := own_range hown (by omega)
  have hsl := Sl.of_own hown
  rw [← hGl] at hsl ⊢
  replace kb := bel kb hb5
  clear hown hb5 hst hsz hzl
  go_wp2_with fail
  go_ret
  exact ⟨g7, c7, rfl, hsl, kb⟩
end Go.Proofs.YtmlmggmnlgcbcaaGreat


namespace Go.Proofs.YtmlmggmnlgcbcaaGreat
open Go.RowKit
/-- 2^255 - 19. -/
def pN : Nat := 57896044618658097711785492504343953926634992332820282019728792003956564819949
theorem pN_pos : 0 < pN := by decide
theorem two256_p : 18446744073709551616 ^ 4 = 2 * pN + 38 := by decide
theorem lims_p : (lims 4 pN).toArray = #[.int .u64 18446744073709551597, .int .u64 18446744073709551615, .int .u64 18446744073709551615, .int .u64 9223372036854775807] := by kernel_rfl
theorem prime_any (w : World) : Calls Tryz.prog 70 #[] w fun e w' => e = .returned (.agg (lims 4 pN).toArray) ∧ Below w.heap.size w w' := by
  go_enter Tryz.func70, Tryz.ntmps70
  go_wp2_with fail
  refine bodyPost_ret (v := .agg (lims 4 pN).toArray) (by rw [lims_p]; simp [results, Tryz.results70, go_sem]) rfl ⟨rfl, ?_⟩
  exact ((below_alloc _ _))
theorem lims_small (x : Nat) (hx : x < 18446744073709551616) : (lims 4 x).toArray = #[.int .u64 (x : Int), .int .u64 0, .int .u64 0, .int .u64 0] := by
  have e : ∀ i, 0 < i → x / 18446744073709551616 ^ i % 18446744073709551616 = 0 := by
    intro i hi
    obtain ⟨j, rfl⟩ : ∃ j, i = j + 1 := ⟨i - 1, by omega⟩
    rw [Nat.pow_succ, Nat.mul_comm, ← Nat.div_div_eq_div_mul, Nat.div_eq_of_lt hx, Nat.zero_div]
  simp only [lims, digs, show List.range 4 = [0, 1, 2, 3] from by decide, List.map_cons, List.map_nil, Nat.pow_zero, Nat.div_one, Nat.mod_eq_of_lt hx]
  simp only [e 1 (by decide), e 2 (by decide), e 3 (by decide)]
  rfl
set_option maxHeartbeats 1000000 in
set_option maxRecDepth 100000 in
theorem lessen_any (n : Nat) (hn : n < 18446744073709551616 ^ 4) (w : World) :
    Calls Tryz.prog 42 #[.agg (lims 4 n).toArray] w fun e w' => e = .returned (.agg (lims 4 (n % pN)).toArray) ∧ Below w.heap.size w w' := by
  go_enter Tryz.func42, Tryz.ntmps42
  go_upto_region 1 with fail
  refine wp_new2 (fun W hsz h1 h2 hb0 => ?_)
  go_wp2_with fail
  go_loopw [5] (fun kv wr => ∃ (k m : Nat), k ≤ 2 ∧ kv = .int .i64 k ∧ m % pN = n % pN ∧ m < pN * (3 - k) ∧ m ≤ n ∧ Arr wr w.heap.size (lims 4 m) ∧ Arr wr (w.heap.size + 1) (lims 4 0) ∧ Below w.heap.size w wr) (fun kv _ => 2 - (intOf kv).toNat)
  case atStart => exact ⟨0, n, by omega, rfl, rfl, by have := two256_p; have : 38 < pN := by decide
                                                      omega, Nat.le_refl _, h1, h2, hb0⟩
  case round =>
    obtain ⟨k, m, hk, rfl, hm, hlt, hmn, k1, k2, kb⟩ := hrel
    have hm' := Lib.hid hm
    clear h1 h2 hb0 hsz hm
    by_cases hk2 : k < 2
    · have hpl : pN < 18446744073709551616 ^ 4 := by decide
      have hlt' := Lib.hid hlt
      clear hlt
      have hdk : decide ((k : Int) < 2) = true := by simp; omega
      go_upto_region 3 with fail
      refine Tx.start (fun w' => Below (wr).heap.size (wr) w') 7 9 rfl (by kernel_rfl) ?_
      have hS_1 : Below (wr).heap.size (wr) (World.drew wr) := (Below.refl _ _).drew
      refine Tx.seg (A := ?_) 8 1 (by kernel_rfl) (by exact hS_1) [0] (by kernel_rfl) ?_ ?_
      rotate_left
      · intro w' hB
        have e1 := k1.below hB
        iterate 1 (first | (refine rd_skip rfl rfl ?_; simp only [Act.put, List.setIfInBounds_toArray, List.set_cons_zero, List.set_cons_succ]) | (refine rd_load_arr rfl rfl _ _ rfl _ rfl (by decide +kernel) _ (by assumption) (by first | (rw [lims_len]; kernel_rfl) | (rw [el_rep]; kernel_rfl) | (rw [el_len]; kernel_rfl) | (rw [byts_len]; kernel_rfl) | (rw [us_len]; kernel_rfl) | (rw [bytn_len]; kernel_rfl) | (rw [ens_len, digs_len]; kernel_rfl) | kernel_rfl) ?_; simp only [Act.put, List.setIfInBounds_toArray, List.set_cons_zero, List.set_cons_succ]) | (refine rd_take (v := ?_) rfl rfl ?_ ?_; rotate_left; (focus (go_simp; try (with_reducible rfl))); simp only [Act.put, List.setIfInBounds_toArray, List.set_cons_zero, List.set_cons_succ]) | (refine rd_take (v := ?_) rfl rfl ?_ ?_; rotate_left; (focus (try go_simp); fail)))
        exact rd_nil
      refine Tx.poolB 2 127 [(1, 9), (2, 10), (3, 7), (4, 11), (5, 12), (6, 3)] [(false, []), (false, [(1, 9)]), (true, [(2, 10)]), (true, [(3, 7)]), (true, [(3, 7)]), (false, [])] [(1, Ph.is (.agg (lims 4 pN).toArray)), (2, Ph.is (.tuple #[.agg (lims 4 (m + 18446744073709551616 ^ 4 - pN)).toArray, .int .u64 (borrow 18446744073709551616 4 m pN : Nat)])), (3, Ph.is (.tuple #[.agg (lims 4 (m + 18446744073709551616 ^ 4 - pN)).toArray, .int .u64 (borrow 18446744073709551616 4 m pN : Nat)])), (4, Ph.is (.agg (lims 4 (m + 18446744073709551616 ^ 4 - pN)).toArray)), (5, Ph.is (.int .u64 (borrow 18446744073709551616 4 m pN : Nat))), (6, Ph.arr wr.heap.size (lims 4 0))] (by kernel_rfl) (by kernel_rfl) (by first | assumption | exact (Below.refl _ _).drew) ?_ ?_
      · refine ⟨⟨_, rfl, ?_⟩, ⟨_, rfl, ?_⟩, ⟨_, rfl, ?_⟩, ⟨_, rfl, ?_⟩, ⟨_, rfl, ?_⟩, ⟨_, rfl, ?_⟩, trivial⟩
        · intro vs w1 hS hE hD K hK
          clear hD
          simp only [fillL, Act.put, List.setIfInBounds_toArray, List.set_cons_zero, List.set_cons_succ] at hK ⊢
          go_simp
          refine (prime_any _).mono ?_
          rintro e w2 ⟨rfl, hb2⟩
          exact hK _ _ rfl hb2 nofun
        · intro vs w1 hS hE hD K hK
          obtain ⟨q1, -⟩ := hD
          simp only [fillL, Act.put, List.setIfInBounds_toArray, List.set_cons_zero, List.set_cons_succ] at hK ⊢
          rw [show vs 1 = _ from q1] at hK ⊢
          clear q1
          go_simp
          refine (limSub_any m pN (by omega) _).mono ?_
          rintro e w2 ⟨rfl, hb2⟩
          exact hK _ _ rfl hb2 nofun
        · intro vs w1 hS hE hD
          obtain ⟨q2, -⟩ := hD
          simp only [fillL, Act.put, List.setIfInBounds_toArray, List.set_cons_zero, List.set_cons_succ] at ⊢
          rw [show vs 2 = _ from q2] at ⊢
          clear q2
          refine ⟨_, rfl, fun w' => (by first | (go_simp; done) | (go_simp; rfl)), rfl, nofun⟩
        · intro vs w1 hS hE hD
          obtain ⟨q3, -⟩ := hD
          simp only [fillL, Act.put, List.setIfInBounds_toArray, List.set_cons_zero, List.set_cons_succ] at ⊢
          rw [show vs 3 = _ from q3] at ⊢
          clear q3
          refine ⟨_, rfl, fun w' => (by first | (go_simp; done) | (go_simp; rfl)), rfl, nofun⟩
        · intro vs w1 hS hE hD
          obtain ⟨q3, -⟩ := hD
          simp only [fillL, Act.put, List.setIfInBounds_toArray, List.set_cons_zero, List.set_cons_succ] at ⊢
          rw [show vs 3 = _ from q3] at ⊢
          clear q3
          refine ⟨_, rfl, fun w' => (by first | (go_simp; done) | (go_simp; rfl)), rfl, nofun⟩
        · intro vs w1 hS hE hD K hK
          clear hD
          simp only [fillL, Act.put, List.setIfInBounds_toArray, List.set_cons_zero, List.set_cons_succ] at hK ⊢
          go_simp
          exact hK _ _ ⟨_, rfl, Nat.le_trans (by first | exact Nat.le_refl _ | omega | (simp; omega)) hE.size, Arr.new _ _ _⟩ (below_alloc _ _) (fun _ => ⟨_, rfl, Nat.le_refl _⟩)
      intro vs w_p hS_p hE_p hP hD
      obtain ⟨q1, q2, q3, q4, q5, q6, -⟩ := hP
      simp only [fillL, Act.put, List.setIfInBounds_toArray, List.set_cons_zero, List.set_cons_succ]
      rw [show vs 1 = _ from q1]
      clear q1
      rw [show vs 2 = _ from q2]
      clear q2
      rw [show vs 3 = _ from q3]
      clear q3
      rw [show vs 4 = _ from q4]
      clear q4
      rw [show vs 5 = _ from q5]
      clear q5
      obtain ⟨g6, e6, hg6, ha6⟩ := q6
      rw [e6]
      clear e6 hD vs
      refine Tx.bar 255 rfl (by decide +kernel) (fun K hK => ?_)
      refine step_store_arr rfl _ _ _ rfl _ _ rfl rfl _ (by assumption) (by first | (rw [lims_len]; kernel_rfl) | (rw [el_rep]; kernel_rfl) | (rw [el_len]; kernel_rfl) | (rw [byts_len]; kernel_rfl) | (rw [us_len]; kernel_rfl) | (rw [bytn_len]; kernel_rfl) | (rw [ens_len, digs_len]; kernel_rfl) | kernel_rfl) (by first | (rw [lims_len, lims_len]) | (rw [el_rep, el_rep]) | (rw [el_rep, el_len]; rfl) | (rw [el_len, el_rep]; rfl) | (rw [el_len, el_len]; rfl) | (rw [byts_len, byts_len]) | (rw [lims_len]; rfl) | (rw [byts_len]; rfl) | (rw [us_len, us_len]; rfl) | (rw [bytn_len, bytn_len]) | (rw [bytn_len]; rfl) | (rw [ens_len, ens_len, digs_len, digs_len]) | rfl) (by first | exact lims_one _ _ | exact el_one _ | exact byts_one _ | exact us_one _ | exact bytn_one _ _ | exact ens_one _ | (intro v hv; simp at hv; rcases hv with rfl | rfl | rfl | rfl <;> rfl)) ?_
      refine hK (fun _ => True) 9999 _ _ ?_
      clear hK K
      try simp only [Act.put]
      try simp only [List.setIfInBounds_toArray, List.set_cons_zero, List.set_cons_succ]
      refine Tx.seg (A := ?_) 0 511 (by kernel_rfl) (by exact trivial) [8] (by kernel_rfl) ?_ ?_
      rotate_left
      · intro w' hB
        iterate 1 (first | (refine rd_skip rfl rfl ?_; simp only [Act.put, List.setIfInBounds_toArray, List.set_cons_zero, List.set_cons_succ]) | (refine rd_load_arr rfl rfl _ _ rfl _ rfl (by decide +kernel) _ (by assumption) (by first | (rw [lims_len]; kernel_rfl) | (rw [el_rep]; kernel_rfl) | (rw [el_len]; kernel_rfl) | (rw [byts_len]; kernel_rfl) | (rw [us_len]; kernel_rfl) | (rw [bytn_len]; kernel_rfl) | (rw [ens_len, digs_len]; kernel_rfl) | kernel_rfl) ?_; simp only [Act.put, List.setIfInBounds_toArray, List.set_cons_zero, List.set_cons_succ]) | (refine rd_take (v := ?_) rfl rfl ?_ ?_; rotate_left; (focus (go_simp; try (with_reducible rfl))); simp only [Act.put, List.setIfInBounds_toArray, List.set_cons_zero, List.set_cons_succ]) | (refine rd_take (v := ?_) rfl rfl ?_ ?_; rotate_left; (focus (try go_simp); fail)))
        exact rd_nil
      refine Tx.done (by kernel_rfl) ?_
      have hn5 : w.heap.size + 1 < g6 := Nat.lt_of_lt_of_le k2.lt hg6
      refine then_row ha6 (fun w5 k6 hoth hbel => ?_)
      have k1 := hoth _ _ (by omega) (k1.below hS_p)
      have k2 := hoth _ _ (by omega) (k2.below hS_p)
      have kb := hbel _ _ (by omega) (bel kb hS_p)
      clear hoth hbel ha6 hg6 hE_p hS_p
      rw [borrow_all (a := m) (b := pN) (by omega) hpl]
      have hpp := pN_pos
      by_cases hlq : m < pN
      · rw [if_pos hlq]
        go_wp2_with fail
        refine ⟨⟨k + 1, m, by omega, by go_num, hm'.out, ?_, hmn, k1, k2, kb⟩, by simp [intOf]; omega⟩
        exact Nat.lt_of_lt_of_le hlq (Nat.le_mul_of_pos_right _ (by omega))
      · rw [if_neg hlq]
        go_wp2_with (first | (refine wpList_load_arr2 rfl _ _ rfl _ rfl (by decide +kernel) _ (by assumption) (by first | (rw [lims_len]; kernel_rfl) | (rw [el_rep]; kernel_rfl) | (rw [el_len]; kernel_rfl) | (rw [byts_len]; kernel_rfl) | (rw [us_len]; kernel_rfl) | (rw [bytn_len]; kernel_rfl) | (rw [ens_len, digs_len]; kernel_rfl) | kernel_rfl) ?_) | (refine wpList_store_arr rfl _ _ _ rfl _ _ rfl rfl _ (by first | assumption | exact Arr.new _ _ _) (by first | (rw [lims_len]; kernel_rfl) | (rw [el_rep]; kernel_rfl) | (rw [el_len]; kernel_rfl) | (rw [byts_len]; kernel_rfl) | (rw [us_len]; kernel_rfl) | (rw [bytn_len]; kernel_rfl) | (rw [ens_len, digs_len]; kernel_rfl) | kernel_rfl) (by first | (rw [lims_len, lims_len]) | (rw [el_rep, el_rep]) | (rw [el_rep, el_len]; rfl) | (rw [el_len, el_rep]; rfl) | (rw [el_len, el_len]; rfl) | (rw [byts_len, byts_len]) | (rw [lims_len]; rfl) | (rw [byts_len]; rfl) | (rw [us_len, us_len]; rfl) | (rw [bytn_len, bytn_len]) | (rw [bytn_len]; rfl) | (rw [ens_len, ens_len, digs_len, digs_len]) | rfl) (by first | exact lims_one _ _ | exact el_one _ | exact byts_one _ | exact us_one _ | exact bytn_one _ _ | exact ens_one _ | (intro v hv; simp at hv; rcases hv with rfl | rfl | rfl | rfl <;> rfl)) ?_))
        have e : lims 4 (m + 18446744073709551616 ^ 4 - pN) = lims 4 (m - pN) := lims_mod _ _ ⟨1, by omega⟩
        refine ⟨⟨k + 1, m - pN, by omega, by go_num, ?_, ?_, by omega, ?_, k2.row_other (by omega) _, below_setRow kb (by omega) _⟩, by simp [intOf]; omega⟩
        · rw [← hm'.out]; exact (Nat.mod_eq_sub_mod (by omega)).symm
        · have h7 := hlt'.out
          have e2 : pN * (3 - k) = pN * (3 - (k + 1)) + pN := by rw [show 3 - k = (3 - (k + 1)) + 1 by omega, Nat.mul_add, Nat.mul_one]
          omega
        · rw [← e]
          exact k1.setRow _
    · obtain rfl : k = 2 := by omega
      have e : m = n % pN := by rw [← hm'.out, Nat.mod_eq_of_lt (by omega)]
      clear hlt
      subst e
      go_wp2_with (first | (refine wpList_load_arr2 rfl _ _ rfl _ rfl (by decide +kernel) _ (by assumption) (by first | (rw [lims_len]; kernel_rfl) | (rw [el_rep]; kernel_rfl) | (rw [el_len]; kernel_rfl) | (rw [byts_len]; kernel_rfl) | (rw [us_len]; kernel_rfl) | (rw [bytn_len]; kernel_rfl) | (rw [ens_len, digs_len]; kernel_rfl) | kernel_rfl) ?_) | (refine wpList_store_arr rfl _ _ _ rfl _ _ rfl rfl _ (by first | assumption | exact Arr.new _ _ _) (by first | (rw [lims_len]; kernel_rfl) | (rw [el_rep]; kernel_rfl) | (rw [el_len]; kernel_rfl) | (rw [byts_len]; kernel_rfl) | (rw [us_len]; kernel_rfl) | (rw [bytn_len]; kernel_rfl) | (rw [ens_len, digs_len]; kernel_rfl) | kernel_rfl) (by first | (rw [lims_len, lims_len]) | (rw [el_rep, el_rep]) | (rw [el_rep, el_len]; rfl) | (rw [el_len, el_rep]; rfl) | (rw [el_len, el_len]; rfl) | (rw [byts_len, byts_len]) | (rw [lims_len]; rfl) | (rw [byts_len]; rfl) | (rw [us_len, us_len]; rfl) | (rw [bytn_len, bytn_len]) | (rw [bytn_len]; rfl) | (rw [ens_len, ens_len, digs_len, digs_len]) | rfl) (by first | exact lims_one _ _ | exact el_one _ | exact byts_one _ | exact us_one _ | exact bytn_one _ _ | exact ens_one _ | (intro v hv; simp at hv; rcases hv with rfl | rfl | rfl | rfl <;> rfl)) ?_))
      exact bodyPost_ret (results_arr2 Tryz.results42 _ _ _ rfl (by kernel_rfl) _ (by first | assumption | exact Arr.setRow (by assumption) _) (by first | (rw [lims_len]; kernel_rfl) | (rw [el_rep]; kernel_rfl) | (rw [el_len]; kernel_rfl) | (rw [byts_len]; kernel_rfl) | (rw [us_len]; kernel_rfl) | (rw [bytn_len]; kernel_rfl) | (rw [ens_len, digs_len]; kernel_rfl) | kernel_rfl)) rfl ⟨rfl, below_setRow kb (by omega) _⟩
end Go.Proofs.YtmlmggmnlgcbcaaGreat

