import Derived.Test.YtibdgkhkhmdihaaGreatDoorJa24

namespace Go.Proofs.YtibdgkhkhmdihaaGreatDoor
open Go.RowKit
set_option maxHeartbeats 1000000 in
set_option maxRecDepth 100000 in
theorem mnum_bad (g : Nat) (w : World) (hc : Cur w g [] true) :
    Calls Tryz.prog 292 #[.pointer (some ⟨g, 0, none⟩)] w fun e w' => e = .returned (.agg (bytn 32 0).toArray) ∧ Below w.heap.size w w' := by
  have hsz1 : Hid ((Tryz.prog.info? 5).map (·.size) = some 1) := Lib.hid (by kernel_rfl)
  have cR := Lib.hid (fun w' (hb : Below w.heap.size w w') => same_below (raw_bad g [] 32 w' (hc.below hb)))
  clear hc
  go_enter Tryz.func292, Tryz.ntmps292
  go_upto_region 2 with fail
  refine wp_new2 (fun W hsz k2 k3 kb => ?_)
  replace k2 : Arr W w.heap.size (bytn 32 0) := k2
  replace k3 : Arr W (w.heap.size + 1) (bytn 32 0) := k3
  obtain ⟨g2, hg2⟩ : ∃ g, w.heap.size = g := ⟨_, rfl⟩
  rw [hg2] at k2 k3 ⊢
  have hw2 : w.heap.size ≤ g2 := by omega
  clear hsz hg2
  refine Tx.start (fun w' => Below (W).heap.size (W) w') 3 4 rfl (by kernel_rfl) ?_
  have hS_1 : Below (W).heap.size (W) (World.drew W) := (Below.refl _ _).drew
  refine Tx.seg2 (A := ?_) 2 3 (by kernel_rfl) (by exact hS_1) [0, 1] (by kernel_rfl) ?_ ?_
  rotate_left
  · intro w' hB
    iterate 2 (first | (refine rd_skip rfl rfl ?_; simp only [Act.put, List.setIfInBounds_toArray, List.set_cons_zero, List.set_cons_succ]) | (refine rd_load_arr rfl rfl _ _ rfl _ rfl (by decide +kernel) _ (by assumption) (by first | (rw [lims_len]; kernel_rfl) | (rw [el_rep]; kernel_rfl) | (rw [el_len]; kernel_rfl) | (rw [byts_len]; kernel_rfl) | (rw [us_len]; kernel_rfl) | (rw [bytn_len]; kernel_rfl) | (rw [ens_len, digs_len]; kernel_rfl) | (rw [ptL_len]; kernel_rfl) | (rw [pcs_len]; kernel_rfl) | kernel_rfl) ?_; simp only [Act.put, List.setIfInBounds_toArray, List.set_cons_zero, List.set_cons_succ]) | (refine rd_take (v := ?_) rfl rfl ?_ ?_; rotate_left; (focus (go_simp; try (with_reducible rfl))); simp only [Act.put, List.setIfInBounds_toArray, List.set_cons_zero, List.set_cons_succ]))
    exact rd_nil
  refine Tx.eff 2 7 rfl (by decide +kernel) (fun K hK => ?_)
  go_simp
  refine (cR.out _ (bel kb hS_1)).mono ?_
  rintro e w_2 ⟨rfl, hb_2⟩
  have hS_2 := ext_trans hS_1 (Nat.le_refl _) hb_2
  refine hK (fun w' => Below (W).heap.size (W) w') _ _ hS_2 (fun _ h => h) ?_
  clear hK K hb_2 hS_1
  try simp only [Act.put, List.setIfInBounds_toArray, List.set_cons_zero, List.set_cons_succ]
  refine Tx.bar 15 rfl (by decide +kernel) (fun K hK => ?_)
  replace k2 := k2.below hS_2
  replace k3 := k3.below hS_2
  replace kb := bel kb hS_2
  clear hS_2
  refine step_copyN rfl _ _ 26 26 rfl 5 Tryz.underlying26 hsz1.out (g2 + 1) 0 32 32 rfl _ k3 (by rw [bytn_len]; decide) _ rfl [] (Sl.nil _) (fun u hu => by cases hu) 0 rfl (bytn 32 0) (by simp) (fun W3 k3 hg hsz => ?_)
  replace k2 := k2.kept hg (by omega)
  replace kb := below_gr kb hg (by omega) kb.size
  refine hK (fun _ => True) 9999 _ _ ?_
  clear hK K
  try simp only [Act.put]
  try simp only [List.setIfInBounds_toArray, List.set_cons_zero, List.set_cons_succ]
  refine Tx.done (by kernel_rfl) ?_
  go_wp2_with (first | (refine wpList_load_arr2 rfl _ _ rfl _ rfl (by decide +kernel) _ k3 (by rw [bytn_len]; kernel_rfl) ?_) | (refine wpl_storeG rfl _ _ _ rfl _ (bytn 32 0) rfl rfl _ k2 (by rw [bytn_len]; kernel_rfl) (by rw [bytn_len]) (bytn_one _ _) (fun w9 k2 hg hsz => ?_)))
  have qb := below_gr kb hg hw2 kb.size
  exact bodyPost_ret (results_arr2 Tryz.results292 _ _ _ rfl (by kernel_rfl) _ k2 (by rw [bytn_len]; kernel_rfl)) rfl ⟨rfl, qb⟩
set_option maxHeartbeats 1000000 in
set_option maxRecDepth 100000 in
theorem msig_bad (g : Nat) (w : World) (hc : Cur w g [] true) :
    Calls Tryz.prog 293 #[.pointer (some ⟨g, 0, none⟩)] w fun e w' => e = .returned (.agg (bytn 64 0).toArray) ∧ Below w.heap.size w w' := by
  have hsz1 : Hid ((Tryz.prog.info? 5).map (·.size) = some 1) := Lib.hid (by kernel_rfl)
  have cR := Lib.hid (fun w' (hb : Below w.heap.size w w') => same_below (raw_bad g [] 64 w' (hc.below hb)))
  clear hc
  go_enter Tryz.func293, Tryz.ntmps293
  go_upto_region 2 with fail
  refine wp_new2 (fun W hsz k2 k3 kb => ?_)
  replace k2 : Arr W w.heap.size (bytn 64 0) := k2
  replace k3 : Arr W (w.heap.size + 1) (bytn 64 0) := k3
  obtain ⟨g2, hg2⟩ : ∃ g, w.heap.size = g := ⟨_, rfl⟩
  rw [hg2] at k2 k3 ⊢
  have hw2 : w.heap.size ≤ g2 := by omega
  clear hsz hg2
  refine Tx.start (fun w' => Below (W).heap.size (W) w') 3 4 rfl (by kernel_rfl) ?_
  have hS_3 : Below (W).heap.size (W) (World.drew W) := (Below.refl _ _).drew
  refine Tx.seg2 (A := ?_) 2 3 (by kernel_rfl) (by exact hS_3) [0, 1] (by kernel_rfl) ?_ ?_
  rotate_left
  · intro w' hB
    iterate 2 (first | (refine rd_skip rfl rfl ?_; simp only [Act.put, List.setIfInBounds_toArray, List.set_cons_zero, List.set_cons_succ]) | (refine rd_load_arr rfl rfl _ _ rfl _ rfl (by decide +kernel) _ (by assumption) (by first | (rw [lims_len]; kernel_rfl) | (rw [el_rep]; kernel_rfl) | (rw [el_len]; kernel_rfl) | (rw [byts_len]; kernel_rfl) | (rw [us_len]; kernel_rfl) | (rw [bytn_len]; kernel_rfl) | (rw [ens_len, digs_len]; kernel_rfl) | (rw [ptL_len]; kernel_rfl) | (rw [pcs_len]; kernel_rfl) | kernel_rfl) ?_; simp only [Act.put, List.setIfInBounds_toArray, List.set_cons_zero, List.set_cons_succ]) | (refine rd_take (v := ?_) rfl rfl ?_ ?_; rotate_left; (focus (go_simp; try (with_reducible rfl))); simp only [Act.put, List.setIfInBounds_toArray, List.set_cons_zero, List.set_cons_succ]))
    exact rd_nil
  refine Tx.eff 2 7 rfl (by decide +kernel) (fun K hK => ?_)
  go_simp
  refine (cR.out _ (bel kb hS_3)).mono ?_
  rintro e w_4 ⟨rfl, hb_4⟩
  have hS_4 := ext_trans hS_3 (Nat.le_refl _) hb_4
  refine hK (fun w' => Below (W).heap.size (W) w') _ _ hS_4 (fun _ h => h) ?_
  clear hK K hb_4 hS_3
  try simp only [Act.put, List.setIfInBounds_toArray, List.set_cons_zero, List.set_cons_succ]
  refine Tx.bar 15 rfl (by decide +kernel) (fun K hK => ?_)
  replace k2 := k2.below hS_4
  replace k3 := k3.below hS_4
  replace kb := bel kb hS_4
  clear hS_4
  refine step_copyN rfl _ _ 26 26 rfl 5 Tryz.underlying26 hsz1.out (g2 + 1) 0 64 64 rfl _ k3 (by rw [bytn_len]; decide) _ rfl [] (Sl.nil _) (fun u hu => by cases hu) 0 rfl (bytn 64 0) (by simp) (fun W3 k3 hg hsz => ?_)
  replace k2 := k2.kept hg (by omega)
  replace kb := below_gr kb hg (by omega) kb.size
  refine hK (fun _ => True) 9999 _ _ ?_
  clear hK K
  try simp only [Act.put]
  try simp only [List.setIfInBounds_toArray, List.set_cons_zero, List.set_cons_succ]
  refine Tx.done (by kernel_rfl) ?_
  go_wp2_with (first | (refine wpList_load_arr2 rfl _ _ rfl _ rfl (by decide +kernel) _ k3 (by rw [bytn_len]; kernel_rfl) ?_) | (refine wpl_storeG rfl _ _ _ rfl _ (bytn 64 0) rfl rfl _ k2 (by rw [bytn_len]; kernel_rfl) (by rw [bytn_len]) (bytn_one _ _) (fun w9 k2 hg hsz => ?_)))
  have qb := below_gr kb hg hw2 kb.size
  exact bodyPost_ret (results_arr2 Tryz.results293 _ _ _ rfl (by kernel_rfl) _ k2 (by rw [bytn_len]; kernel_rfl)) rfl ⟨rfl, qb⟩
end Go.Proofs.YtibdgkhkhmdihaaGreatDoor


namespace Go.Proofs.YtibdgkhkhmdihaaGreatDoor
open Go.RowKit
/-- The manifest of nothing. -/
def mnZ : List Value := .int .i64 0 :: .int .i64 0 :: (bytn 32 0 ++ (.slice none 0 0 :: .int .i64 0 :: (bytn 32 0 ++ (bytn 64 0 ++ bytn 64 0))))
theorem mnZ_facts : mnZ.length = 196 ∧ (mnZ[1]? = some (.int .i64 0) ∧ mnZ[34]? = some (.slice none 0 0) ∧ mnZ[35]? = some (.int .i64 0)) ∧ (mnZ.set 1 (.int .i64 0) = mnZ ∧ mnZ.set 34 (.slice none 0 0) = mnZ ∧ mnZ.set 35 (.int .i64 0) = mnZ) ∧
    (putAt 2 (bytn 32 0) mnZ = mnZ ∧ putAt 36 (bytn 32 0) mnZ = mnZ ∧ putAt 68 (bytn 64 0) mnZ = mnZ ∧ putAt 132 (bytn 64 0) mnZ = mnZ) :=
  ⟨by kernel_rfl, ⟨by kernel_rfl, by kernel_rfl, by kernel_rfl⟩, ⟨by kernel_rfl, by kernel_rfl, by kernel_rfl⟩, by kernel_rfl, by kernel_rfl, by kernel_rfl, by kernel_rfl⟩
theorem mnZ_one : ∀ v ∈ mnZ, v.oneCell' = true := by
  intro v hv
  simp only [mnZ, List.mem_cons, List.mem_append] at hv
  rcases hv with rfl | rfl | h | rfl | rfl | h | h | h <;> first | rfl | exact bytn_one _ _ _ h
theorem intS_bad : intS [] true = (0, [], true) := by decide +kernel
theorem Cur.keptE {w w' : World} {g k : Nat} {bad : Bool} (h : Cur w g [] bad) (hg : w.grownBy w' (some k)) (hk : k ≠ g) : Cur w' g [] bad := by
  have hlt := h.lt
  obtain ⟨v, h1, h2, h3, h4, h5⟩ := h
  have hb := hg.block g hlt (by simp only [ne_eq, Option.some.injEq]; exact fun e => hk e.symm)
  refine ⟨v, by rw [World.cell?_of_block (a := ⟨g, 0, none⟩) hb]; exact h1, by rw [World.cell?_of_block (a := ⟨g, 1, none⟩) hb]; exact h2, by rw [World.frozen?_of_block (a := ⟨g, 0, none⟩) hb]; exact h3, by rw [World.frozen?_of_block (a := ⟨g, 1, none⟩) hb]; exact h4, ?_⟩
  rcases h5 with h | ⟨b, o, cap, rfl, q1, q2, q3, q4, q5⟩
  · exact .inl h
  · exact .inr ⟨b, o, cap, rfl, q1, q2, q3, Nat.lt_of_lt_of_le q4 hg.size, fun j u hu => by simp [u8s] at hu⟩
theorem int_bad (g : Nat) (w : World) (hc : Cur w g [] true) : Calls Tryz.prog 232 #[.pointer (some ⟨g, 0, none⟩)] w fun e w' => e = .returned (.int .i64 0) ∧ w.grownBy w' (some g) ∧ Cur w' g [] true := by
  have h := int_any g [] true w hc (by decide)
  rw [intS_bad] at h
  exact h
set_option maxHeartbeats 4000000 in
set_option maxRecDepth 100000 in
theorem mread_short (vb : Value) (bs : List UInt8) (hb3 : bs.length ≤ 3) (w : World) (hs : Sl w vb (u8s bs)) :
    Calls Tryz.prog 247 #[vb] w fun e w' => e = .returned (.tuple #[.agg mnZ.toArray, .int .i64 4]) ∧ Below w.heap.size w w' := by
  have hone := Lib.hid mnZ_one
  have hZ0 : mnZ = mnZ := rfl
  obtain ⟨hlen, ⟨x1, x34, x35⟩, ⟨s1, s34, s35⟩, p2, p36, p68, p132⟩ := mnZ_facts
  obtain ⟨X, hX⟩ : ∃ X, mnZ = X := ⟨_, rfl⟩
  rw [hX] at hlen x1 x34 x35 s1 s34 s35 p2 p36 p68 p132 hone ⊢
  clear hZ0
  replace hX := Lib.hid hX
  replace hlen := Lib.hid hlen
  replace x1 := Lib.hid x1
  replace x34 := Lib.hid x34
  replace x35 := Lib.hid x35
  replace s1 := Lib.hid s1
  replace s34 := Lib.hid s34
  replace s35 := Lib.hid s35
  replace p2 := Lib.hid p2
  replace p36 := Lib.hid p36
  replace p68 := Lib.hid p68
  replace p132 := Lib.hid p132
  have cN := Lib.hid (fun w' (hb : Below w.heap.size w w') => packNew_any vb bs w' (hs.below hb) (by omega))
  replace hb3 := Lib.hid hb3
  clear hs
  go_enter Tryz.func247, Tryz.ntmps247
  go_upto_region 1 with fail
  refine wp_new1 (fun W hsz k2 kb => ?_)
  replace k2 : Arr W w.heap.size X := (congrArg (Arr W w.heap.size) ((by kernel_rfl : _ = mnZ).trans hX.out)).mp k2
  obtain ⟨g2, hg2⟩ : ∃ g, w.heap.size = g := ⟨_, rfl⟩
  rw [hg2] at k2 ⊢
  have hw2 : w.heap.size ≤ g2 := by omega
  clear hsz hg2
  go_wp2_with fail
  refine (cN.out _ kb).mono ?_
  rintro e w1 ⟨gc, rfl, hgc, kc, hb⟩
  have h2c := k2.lt
  have h2gc : g2 < gc := by omega
  replace k2 := k2.below hb
  replace kb := bel kb hb
  have cW := Lib.hid (raw_no gc bs 4 w1 kc (.inr (by have := hb3.out; omega)))
  clear hb hgc cN h2c kc
  go_wp2_with fail
  refine cW.out.mono ?_
  rintro e w2 ⟨rfl, hg, kc⟩
  replace k2 := k2.kept hg (by omega)
  replace kb := below_gr kb hg (by omega) kb.size
  clear cW hg
  have hst : (convert 26 9 (.slice none 0 0)).run Tryz.prog w2 = .ok (.string ⟨#[]⟩) w2 := strBk (bs := []) (Sl.nil _)
  have cI := Lib.hid (int_bad gc _ kc)
  clear kc
  go_wp2_with fail
  refine cI.out.mono ?_
  rintro e w3 ⟨rfl, hg, kc⟩
  replace k2 := k2.kept hg (by omega)
  replace kb := below_gr kb hg (by omega) kb.size
  clear cI hg
  clear hst
  go_upto_region 4 with (first | (refine wpList_builta rfl _ _ rfl mnZ.toArray (by kernel_rfl) ?_; rw [hX.out]) | (refine wpl_storeG rfl _ _ _ rfl _ X rfl rfl _ (Arr.new _ _ _) (by rw [hlen.out]; kernel_rfl) (by rw [hlen.out]; kernel_rfl) hone.out (fun w4 k6 hg hsz => ?_)))
  have hb := below_fresh hg
  have hc3 := kc.lt
  replace k2 := k2.below hb
  replace kc := kc.below hb
  replace kb := bel kb hb
  obtain ⟨g6, hg6⟩ : ∃ g, w3.heap.size = g := ⟨_, rfl⟩
  rw [hg6] at k6 hc3 ⊢
  have hw6 : w.heap.size ≤ g6 := by omega
  clear hb hsz hg hg6
  have cI := Lib.hid (int_bad gc _ kc)
  clear kc
  go_wp2_with fail
  refine cI.out.mono ?_
  rintro e w5 ⟨rfl, hg, kc⟩
  replace k2 := k2.kept hg (by omega)
  replace k6 := k6.kept hg (by omega)
  replace kb := below_gr kb hg (by omega) kb.size
  clear cI hg
  have q1 := k6.cell x1.out
  have q2 := k6.frozen 1
  go_upto_region 5 with fail
  clear q1 q2
  refine code_cellG k6 (fun w6 k6 hg hsz => ?_)
  replace k2 := k2.kept hg (by omega)
  replace kb := below_gr kb hg (by omega) kb.size
  replace kc := Cur.keptE kc hg (by omega)
  clear hg hsz
  rw [s1.out] at k6
  have cS := Lib.hid (mnum_bad gc _ kc)
  go_wp2_with fail
  refine cS.out.mono ?_
  rintro e w7 ⟨rfl, hb⟩
  replace k2 := k2.below hb
  replace k6 := k6.below hb
  replace kc := kc.below hb
  replace kb := bel kb hb
  clear hb cS
  go_upto_region 6 with (refine wpl_storeMG rfl _ _ _ rfl g6 2 (bytn 32 0) rfl rfl _ k6 (by rw [bytn_len]; kernel_rfl) (by rw [bytn_len, hlen.out]; decide) (bytn_one _ _) (fun w8 k6 hg => ?_))
  rw [p2.out] at k6
  replace k2 := k2.kept hg (by omega)
  replace kb := below_gr kb hg (by omega) kb.size
  replace kc := Cur.keptE kc hg (by omega)
  clear hg
  have cW := Lib.hid (raw_bad gc [] 80 _ kc)
  go_wp2_with fail
  refine cW.out.mono ?_
  rintro e wR ⟨rfl, hw⟩
  subst hw
  clear cW
  have q1 := k6.cell x34.out
  have q2 := k6.frozen 34
  go_upto_region 7 with fail
  clear q1 q2
  refine code_cellG k6 (fun w10 k6 hg hsz => ?_)
  replace k2 := k2.kept hg (by omega)
  replace kb := below_gr kb hg (by omega) kb.size
  replace kc := Cur.keptE kc hg (by omega)
  clear hg hsz
  rw [s34.out] at k6
  have cI := Lib.hid (int_bad gc _ kc)
  clear kc
  go_wp2_with fail
  refine cI.out.mono ?_
  rintro e w11 ⟨rfl, hg, kc⟩
  replace k2 := k2.kept hg (by omega)
  replace k6 := k6.kept hg (by omega)
  replace kb := below_gr kb hg (by omega) kb.size
  clear cI hg
  have q1 := k6.cell x35.out
  have q2 := k6.frozen 35
  go_upto_region 8 with fail
  clear q1 q2
  refine code_cellG k6 (fun w12 k6 hg hsz => ?_)
  replace k2 := k2.kept hg (by omega)
  replace kb := below_gr kb hg (by omega) kb.size
  replace kc := Cur.keptE kc hg (by omega)
  clear hg hsz
  rw [s35.out] at k6
  have cS := Lib.hid (mnum_bad gc _ kc)
  go_wp2_with fail
  refine cS.out.mono ?_
  rintro e wS ⟨rfl, hb⟩
  replace k2 := k2.below hb
  replace k6 := k6.below hb
  replace kc := kc.below hb
  replace kb := bel kb hb
  clear hb cS
  go_upto_region 9 with (refine wpl_storeMG rfl _ _ _ rfl g6 36 (bytn 32 0) rfl rfl _ k6 (by rw [bytn_len]; kernel_rfl) (by rw [bytn_len, hlen.out]; decide) (bytn_one _ _) (fun w8 k6 hg => ?_))
  rw [p36.out] at k6
  replace k2 := k2.kept hg (by omega)
  replace kb := below_gr kb hg (by omega) kb.size
  replace kc := Cur.keptE kc hg (by omega)
  clear hg
  have cS := Lib.hid (msig_bad gc _ kc)
  go_wp2_with fail
  refine cS.out.mono ?_
  rintro e wS ⟨rfl, hb⟩
  replace k2 := k2.below hb
  replace k6 := k6.below hb
  replace kc := kc.below hb
  replace kb := bel kb hb
  clear hb cS
  go_upto_region 10 with (refine wpl_storeMG rfl _ _ _ rfl g6 68 (bytn 64 0) rfl rfl _ k6 (by rw [bytn_len]; kernel_rfl) (by rw [bytn_len, hlen.out]; decide) (bytn_one _ _) (fun w8 k6 hg => ?_))
  rw [p68.out] at k6
  replace k2 := k2.kept hg (by omega)
  replace kb := below_gr kb hg (by omega) kb.size
  replace kc := Cur.keptE kc hg (by omega)
  clear hg
  have cS := Lib.hid (msig_bad gc _ kc)
  go_wp2_with fail
  refine cS.out.mono ?_
  rintro e wS ⟨rfl, hb⟩
  replace k2 := k2.below hb
  replace k6 := k6.below hb
  replace kc := kc.below hb
  replace kb := bel kb hb
  clear hb cS
  go_upto_region 11 with (refine wpl_storeMG rfl _ _ _ rfl g6 132 (bytn 64 0) rfl rfl _ k6 (by rw [bytn_len]; kernel_rfl) (by rw [bytn_len, hlen.out]; decide) (bytn_one _ _) (fun w8 k6 hg => ?_))
  replace k2 := k2.kept hg (by omega)
  replace kb := below_gr kb hg (by omega) kb.size
  replace kc := Cur.keptE kc hg (by omega)
  clear hg k6
  have cE := end_any gc [] true _ kc
  rw [show endS [] true = false from rfl] at cE
  replace cE := Lib.hid cE
  go_wp2_with fail
  refine cE.out.mono ?_
  rintro e wE ⟨rfl, hw⟩
  subst hw
  clear cE kc
  go_wp2_with (first | (refine wpList_builta rfl _ _ rfl mnZ.toArray (by kernel_rfl) ?_; rw [hX.out]) | (refine wpl_storeG rfl _ _ _ rfl _ X rfl rfl _ k2 (by rw [hlen.out]; kernel_rfl) (by rw [hlen.out]) hone.out (fun w9 k2 hg hsz => ?_)))
  have qb := below_gr kb hg hw2 kb.size
  exact bodyPost_ret (results_arr_tmp Tryz.results247 _ _ g2 _ rfl Tryz.underlying143 rfl X k2 (by rw [hlen.out]; kernel_rfl) _ rfl) rfl ⟨rfl, qb⟩
end Go.Proofs.YtibdgkhkhmdihaaGreatDoor


namespace Go.Proofs.YtibdgkhkhmdihaaGreatDoor
open Go.RowKit
/-- The cells of a state of which nothing is known; of a core that has it. -/
def stZ : List Value := [.int .i64 0, .slice none 0 0, .slice none 0 0, .bool false, .int .i64 0, .slice none 0 0, .bool false, .int .i64 0, .int .i64 (-1)]
theorem stZ_eq : newS.cs nilSv = stZ := rfl
def kpV (k : Nat) : Value := .iface 191 (.pointer (some ⟨k, 0, none⟩))
def coZ (k r s : Nat) (bt : Int) : List Value := kpV k :: (bytn 32 r ++ (bytn 32 s ++ (stZ ++ (.int .i64 bt :: bytn 32 0))))
theorem coZ_st {k r s : Nat} {bt : Int} {j : Nat} (hj : j < 9) : (coZ k r s bt)[65 + j]? = stZ[j]? := by
  rw [coZ, show 65 + j = (64 + j) + 1 by omega, List.getElem?_cons_succ, List.getElem?_append_right (by rw [bytn_len]; omega), bytn_len, List.getElem?_append_right (by rw [bytn_len]; omega), bytn_len, show 64 + j - 32 - 32 = j by omega, List.getElem?_append_left (by simp [stZ]; omega)]
theorem coZ_bt (k r s : Nat) (bt : Int) : (coZ k r s bt)[74]? = some (.int .i64 bt) := by
  rw [coZ, show (74 : Nat) = 73 + 1 from rfl, List.getElem?_cons_succ, List.getElem?_append_right (by rw [bytn_len]; omega), bytn_len, List.getElem?_append_right (by rw [bytn_len]; omega), bytn_len, List.getElem?_append_right (by simp [stZ])]
  rfl
theorem coZ_set (k r s : Nat) (bt b2 : Int) : (coZ k r s bt).set 74 (.int .i64 b2) = coZ k r s b2 := by
  rw [coZ, coZ, show (74 : Nat) = 73 + 1 from rfl, List.set_cons_succ, List.set_append_right _ _ (by rw [bytn_len]; omega), bytn_len, List.set_append_right _ _ (by rw [bytn_len]; omega), bytn_len, List.set_append_right _ _ (by simp [stZ])]
  rfl
set_option maxHeartbeats 2000000 in
set_option maxRecDepth 100000 in
theorem cnew_any (k r s : Nat) (w : World) :
    Calls Tryz.prog 131 #[kpV k, .agg (bytn 32 r).toArray, .agg (bytn 32 s).toArray, .agg stZ.toArray] w fun e w' => ∃ c, e = .returned (.pointer (some ⟨c, 0, none⟩)) ∧ w.heap.size ≤ c ∧ Arr w' c (coZ k r s (-1)) ∧ Below w.heap.size w w' := by
  obtain ⟨X, hX⟩ : ∃ X, coZ k r s (-1) = X := ⟨_, rfl⟩
  rw [hX]
  replace hX := Lib.hid hX
  go_enter Tryz.func131, Tryz.ntmps131
  go_upto_region 1 with fail
  refine wp_new3 (fun W hsz k5 k6 k7 kb => ?_)
  replace k5 : Arr W w.heap.size (bytn 32 r) := k5
  replace k6 : Arr W (w.heap.size + 1) (bytn 32 s) := k6
  replace k7 : Arr W (w.heap.size + 1 + 1) stZ := k7
  clear hsz
  go_wp2_with (first | (refine wpList_load_arr2 rfl _ _ rfl _ rfl (by decide +kernel) _ k5 (by rw [bytn_len]; kernel_rfl) ?_) | (refine wpList_load_arr2 rfl _ _ rfl _ rfl (by decide +kernel) _ k6 (by rw [bytn_len]; kernel_rfl) ?_) | (refine wpList_load_arr2 rfl _ _ rfl _ rfl (by decide +kernel) _ k7 (by kernel_rfl) ?_) | (refine wpList_builta rfl _ _ rfl (coZ k r s (-1)).toArray (by kernel_rfl) ?_; rw [hX.out]))
  go_ret
  exact ⟨_, rfl, kb.size, Arr.new _ _ _, bel kb (below_alloc _ _)⟩
set_option maxHeartbeats 4000000 in
set_option maxRecDepth 100000 in
theorem may_none (c k r s i : Nat) (bt : Int) (hi : i < 2) (w : World) (k0 : Arr w c (coZ k r s bt)) :
    Calls Tryz.prog 259 #[.pointer (some ⟨c, 0, none⟩), .int .i64 (i : Int)] w fun e w' => e = .returned (.bool false) ∧ Below w.heap.size w w' := by
  have hone := Lib.hid mnZ_one
  have hlen := Lib.hid mnZ_facts.1
  have cR := Lib.hid (mread_short (.slice none 0 0) [] (by decide) w (Sl.nil _))
  obtain ⟨X, hX⟩ : ∃ X, mnZ = X := ⟨_, rfl⟩
  rw [hX] at hone hlen cR
  have h2 := k0.cell (coZ_st (j := 2) (by decide))
  have h5 := k0.cell (coZ_st (j := 5) (by decide))
  have i0 : (0 : Int) ≤ (i : Int) := by omega
  have i1 : (i : Int) < 2 := by omega
  clear hX
  have hcel : w.cell? ⟨c, 67 + i * 3, none⟩ = some (.slice none 0 0) := by
    have : i = 0 ∨ i = 1 := by omega
    rcases this with rfl | rfl
    · exact h2
    · exact h5
  clear h2 h5 k0
  have kb := Below.refl w.heap.size w
  go_enter Tryz.func259, Tryz.ntmps259
  go_wp2_with fail
  refine cR.out.mono ?_
  rintro e w1 ⟨rfl, hb⟩
  replace kb := bel kb hb
  clear hb cR hcel i0 i1
  go_upto_region 2 with (refine wpl_storeG rfl _ _ _ rfl _ X rfl rfl _ (Arr.new _ _ _) (by rw [hlen.out]; kernel_rfl) (by rw [hlen.out]; kernel_rfl) hone.out (fun w4 k6 hg hsz => ?_))
  replace kb := bel kb (below_fresh hg)
  clear hg hsz k6 hlen hone
  refine Tx.start (fun w' => Below (w4).heap.size (w4) w') 9999 21 rfl (by kernel_rfl) ?_
  have hS_1 : Below (w4).heap.size (w4) (World.drew w4) := (Below.refl _ _).drew
  refine Tx.seg (A := ?_) 14 127 (by kernel_rfl) (by exact hS_1) [0, 1, 2, 3, 4, 5, 6] (by kernel_rfl) ?_ ?_
  rotate_left
  · intro w' hB
    iterate 7 (first | (refine rd_skip rfl rfl ?_; simp only [Act.put, List.setIfInBounds_toArray, List.set_cons_zero, List.set_cons_succ]) | (refine rd_load_arr rfl rfl _ _ rfl _ rfl (by decide +kernel) _ (by assumption) (by first | (rw [lims_len]; kernel_rfl) | (rw [el_rep]; kernel_rfl) | (rw [el_len]; kernel_rfl) | (rw [byts_len]; kernel_rfl) | (rw [us_len]; kernel_rfl) | (rw [bytn_len]; kernel_rfl) | (rw [ens_len, digs_len]; kernel_rfl) | (rw [ptL_len]; kernel_rfl) | (rw [pcs_len]; kernel_rfl) | kernel_rfl) ?_; simp only [Act.put, List.setIfInBounds_toArray, List.set_cons_zero, List.set_cons_succ]) | (refine rd_take (v := ?_) rfl rfl ?_ ?_; rotate_left; (focus (go_simp; try (with_reducible rfl))); simp only [Act.put, List.setIfInBounds_toArray, List.set_cons_zero, List.set_cons_succ]))
    exact rd_nil
  refine Tx.eff 7 255 rfl (by decide +kernel) (fun K hK => ?_)
  go_simp
  refine hK (fun w' => Below (w4).heap.size (w4) w') _ _ hS_1 (fun _ h => h) ?_
  clear hK K
  try simp only [Act.put, List.setIfInBounds_toArray, List.set_cons_zero, List.set_cons_succ]
  refine Tx.seg (A := ?_) 0 2097151 (by kernel_rfl) (by exact hS_1) [8, 9, 10, 11, 12, 13, 14, 15, 16, 17, 18, 19, 20] (by kernel_rfl) ?_ ?_
  rotate_left
  · intro w' hB
    iterate 13 (first | (refine rd_skip rfl rfl ?_; simp only [Act.put, List.setIfInBounds_toArray, List.set_cons_zero, List.set_cons_succ]) | (refine rd_load_arr rfl rfl _ _ rfl _ rfl (by decide +kernel) _ (by assumption) (by first | (rw [lims_len]; kernel_rfl) | (rw [el_rep]; kernel_rfl) | (rw [el_len]; kernel_rfl) | (rw [byts_len]; kernel_rfl) | (rw [us_len]; kernel_rfl) | (rw [bytn_len]; kernel_rfl) | (rw [ens_len, digs_len]; kernel_rfl) | (rw [ptL_len]; kernel_rfl) | (rw [pcs_len]; kernel_rfl) | kernel_rfl) ?_; simp only [Act.put, List.setIfInBounds_toArray, List.set_cons_zero, List.set_cons_succ]) | (refine rd_take (v := ?_) rfl rfl ?_ ?_; rotate_left; (focus (go_simp; try (with_reducible rfl))); simp only [Act.put, List.setIfInBounds_toArray, List.set_cons_zero, List.set_cons_succ]))
    exact rd_nil
  refine Tx.done (by kernel_rfl) ?_
  have kb := bel kb hS_1
  go_wp2_with fail
  go_ret
  exact ⟨rfl, kb⟩
end Go.Proofs.YtibdgkhkhmdihaaGreatDoor


namespace Go.Proofs.YtibdgkhkhmdihaaGreatDoor
open Go.RowKit
theorem pick_newS : pickS newS false false = (-1, false) := by
  unfold pickS newS
  split
  · rw [if_neg (by decide), if_neg (by decide), if_neg (by decide)]
  · rfl
theorem newS_ok (w : World) : StOk w newS nilSv := ⟨Sl.nil _, Sl.nil _, Sl.nil _⟩
set_option maxHeartbeats 4000000 in
set_option maxRecDepth 100000 in
theorem boot_fresh (c k r s : Nat) (bt : Int) (w : World) (k0 : Arr w c (coZ k r s bt)) :
    Calls Tryz.prog 208 #[.pointer (some ⟨c, 0, none⟩)] w fun e w' => e = .returned (.int .i64 18) ∧ Arr w' c (coZ k r s (-1)) ∧ Ch [c] w w' := by
  obtain ⟨X, hX⟩ : ∃ X, coZ k r s bt = X := ⟨_, rfl⟩
  have hXq : Hid (∀ j, j < stZ.length → X[65 + j]? = stZ[j]?) := Lib.hid (by rw [← hX]; exact fun _ hj => coZ_st hj)
  have hXs : Hid (X.set 74 (.int .i64 (-1)) = coZ k r s (-1)) := Lib.hid (by rw [← hX]; exact coZ_set _ _ _ _ _)
  have hXc : Hid (X[74]? = some (.int .i64 bt)) := Lib.hid (by rw [← hX]; exact coZ_bt _ _ _ _)
  have c0 := Lib.hid (show Calls Tryz.prog 259 #[.pointer (some ⟨c, 0, none⟩), .int .i64 0] w _ from may_none c k r s 0 bt (by decide) w k0)
  have c1 := Lib.hid (fun w' (hb : Below w.heap.size w w') => show Calls Tryz.prog 259 #[.pointer (some ⟨c, 0, none⟩), .int .i64 1] w' _ from may_none c k r s 1 bt (by decide) w' (k0.below hb))
  have cP := Lib.hid (fun w' => show Calls Tryz.prog 260 #[.agg stZ.toArray, .agg #[.bool false, .bool false]] w' fun e w'' => e = .returned (.tuple #[.int .i64 (-1), .bool false]) ∧ Below w'.heap.size w' w'' by
    have q := pick_any newS nilSv false false w' (newS_ok w')
    rw [pick_newS, stZ_eq] at q
    exact q)
  rw [hX] at k0
  clear hX
  have hlt := k0.lt
  have kb := Below.refl w.heap.size w
  go_enter Tryz.func208, Tryz.ntmps208
  go_wp2_with fail
  refine c0.out.mono ?_
  rintro e w1 ⟨rfl, hb⟩
  replace kb := bel kb hb
  clear hb c0
  go_wp2_with fail
  refine (c1.out _ kb).mono ?_
  rintro e w2 ⟨rfl, hb⟩
  replace kb := bel kb hb
  clear hb c1
  go_upto_region 2 with fail
  have k0 := k0.below kb
  have k1 : Arr (w2.alloc (.cells #[.bool false, .bool false] 325)) w2.heap.size [.bool false, .bool false] := Arr.new _ _ _
  have kb2 := below_alloc w2 (.cells #[.bool false, .bool false] 325)
  replace k0 := k0.below kb2
  replace kb := bel kb kb2
  have hsz := kb.size
  obtain ⟨W, hW⟩ : ∃ W, w2.alloc (.cells #[.bool false, .bool false] 325) = W := ⟨_, rfl⟩
  obtain ⟨g, hg⟩ : ∃ g, w2.heap.size = g := ⟨_, rfl⟩
  rw [hW] at k0 k1 kb ⊢
  rw [hg] at k1 ⊢
  clear kb2 hW hg hsz
  replace k1 := Lib.hid k1
  refine Tx.start (fun w' => Below (W).heap.size (W) w') 9999 11 rfl (by kernel_rfl) ?_
  have hS_1 : Below (W).heap.size (W) (World.drew W) := (Below.refl _ _).drew
  refine Tx.seg (A := ?_) 6 31 (by kernel_rfl) (by exact hS_1) [0, 1, 2, 3, 4] (by kernel_rfl) ?_ ?_
  rotate_left
  · intro w' hB
    have yr := (k0.below hB).range (o := 65) (cs := stZ) (hXq.out)
    have y1 := k1.out.below hB
    iterate 5 (first | (refine rd_skip rfl rfl ?_; simp only [Act.put, List.setIfInBounds_toArray, List.set_cons_zero, List.set_cons_succ]) | (refine rd_load_mid rfl rfl _ _ rfl _ _ rfl (by decide +kernel) _ yr (by first | (rw [lims_len]; kernel_rfl) | (rw [el_rep]; kernel_rfl) | (rw [el_len]; kernel_rfl) | (rw [byts_len]; kernel_rfl) | (rw [us_len]; kernel_rfl) | (rw [bytn_len]; kernel_rfl) | (rw [ens_len, digs_len]; kernel_rfl) | (rw [ptL_len]; kernel_rfl) | (rw [pcs_len]; kernel_rfl) | kernel_rfl) ?_; simp only [Act.put, List.setIfInBounds_toArray, List.set_cons_zero, List.set_cons_succ]) | (refine rd_load_arr rfl rfl _ _ rfl _ rfl (by decide +kernel) _ (by assumption) (by first | (rw [lims_len]; kernel_rfl) | (rw [el_rep]; kernel_rfl) | (rw [el_len]; kernel_rfl) | (rw [byts_len]; kernel_rfl) | (rw [us_len]; kernel_rfl) | (rw [bytn_len]; kernel_rfl) | (rw [ens_len, digs_len]; kernel_rfl) | (rw [ptL_len]; kernel_rfl) | (rw [pcs_len]; kernel_rfl) | kernel_rfl) ?_; simp only [Act.put, List.setIfInBounds_toArray, List.set_cons_zero, List.set_cons_succ]) | (refine rd_take (v := ?_) rfl rfl ?_ ?_; rotate_left; (focus (go_simp; try (with_reducible rfl))); simp only [Act.put, List.setIfInBounds_toArray, List.set_cons_zero, List.set_cons_succ]))
    exact rd_nil
  refine Tx.eff 5 63 rfl (by decide +kernel) (fun K hK => ?_)
  go_simp
  refine (cP.out _).mono ?_
  rintro e w_2 ⟨rfl, hb_2⟩
  have hS_2 := ext_trans hS_1 (Nat.le_refl _) hb_2
  refine hK (fun w' => Below (W).heap.size (W) w') _ _ hS_2 (fun _ h => h) ?_
  clear hK K hb_2 hS_1
  try simp only [Act.put, List.setIfInBounds_toArray, List.set_cons_zero, List.set_cons_succ]
  refine Tx.seg (A := ?_) 0 2047 (by kernel_rfl) (by exact hS_2) [6, 7, 8, 9, 10] (by kernel_rfl) ?_ ?_
  rotate_left
  · intro w' hB
    iterate 5 (first | (refine rd_skip rfl rfl ?_; simp only [Act.put, List.setIfInBounds_toArray, List.set_cons_zero, List.set_cons_succ]) | (refine rd_load_arr rfl rfl _ _ rfl _ rfl (by decide +kernel) _ (by assumption) (by first | (rw [lims_len]; kernel_rfl) | (rw [el_rep]; kernel_rfl) | (rw [el_len]; kernel_rfl) | (rw [byts_len]; kernel_rfl) | (rw [us_len]; kernel_rfl) | (rw [bytn_len]; kernel_rfl) | (rw [ens_len, digs_len]; kernel_rfl) | (rw [ptL_len]; kernel_rfl) | (rw [pcs_len]; kernel_rfl) | kernel_rfl) ?_; simp only [Act.put, List.setIfInBounds_toArray, List.set_cons_zero, List.set_cons_succ]) | (refine rd_take (v := ?_) rfl rfl ?_ ?_; rotate_left; (focus (go_simp; try (with_reducible rfl))); simp only [Act.put, List.setIfInBounds_toArray, List.set_cons_zero, List.set_cons_succ]))
    exact rd_nil
  refine Tx.done (by kernel_rfl) ?_
  have k0 := k0.below hS_2
  have kb := bel kb hS_2
  clear hS_2
  have f74 := k0.frozen 74
  have x74 := k0.cell hXc.out
  go_upto_region 8 with fail
  refine code_cellG k0 (fun w7 k7 hg hsz => ?_)
  rw [hXs.out] at k7
  have hc := Lib.hid ((Ch.of_below (M := [c]) kb).trans (Ch.of_gr hg (by simp)))
  clear hg hsz kb f74 x74 hXs hXc hXq
  go_wp2_with fail
  go_ret
  exact ⟨rfl, k7, hc.out⟩
theorem ta_feed (v : Value) (w : World) : (Instr.typeAssert (.iface 279 v) 20 273 true).run Tryz.prog w = .ok (.tuple #[.slice none 0 0, .bool false]) w := by kernel_rfl
theorem ta_block (v : Value) (w : World) : (Instr.typeAssert (.iface 279 v) 20 275 true).run Tryz.prog w = .ok (.tuple #[.agg #[.int .i64 0, .slice none 0 0, .int .i64 0], .bool false]) w := by kernel_rfl
theorem ta_commit (v : Value) (w : World) : (Instr.typeAssert (.iface 279 v) 20 278 true).run Tryz.prog w = .ok (.tuple #[.agg #[], .bool false]) w := by kernel_rfl
theorem ta_boot (v : Value) (w : World) : (Instr.typeAssert (.iface 279 v) 20 279 true).run Tryz.prog w = .ok (.tuple #[v, .bool true]) w := by kernel_rfl
set_option maxHeartbeats 1000000 in
set_option maxRecDepth 100000 in
theorem move4 (bv : Value) (n : Int) (w : World) :
    Calls Tryz.prog 204 #[.agg #[.int .i64 4, bv, .int .i64 n]] w fun e w' => e = .returned (.iface 279 (.agg #[])) ∧ Below w.heap.size w w' := by
  go_enter Tryz.func204, Tryz.ntmps204
  go_wp2_with fail
  go_ret
  exact ⟨rfl, below_alloc _ _⟩
set_option maxHeartbeats 1000000 in
set_option maxRecDepth 100000 in
theorem do4 (c k r s : Nat) (bt : Int) (bv : Value) (n : Int) (w : World) (k0 : Arr w c (coZ k r s bt)) :
    Calls Tryz.prog 149 #[.pointer (some ⟨c, 0, none⟩), .agg #[.int .i64 4, bv, .int .i64 n]] w fun e w' => e = .returned (.tuple #[.slice none 0 0, .int .i64 18]) ∧ Arr w' c (coZ k r s (-1)) ∧ Ch [c] w w' := by
  have cM := Lib.hid (fun w' => move4 bv n w')
  have cB := Lib.hid (fun w' (hb : Below w.heap.size w w') => boot_fresh c k r s bt w' (k0.below hb))
  clear k0
  have f1 := ta_feed (.agg #[])
  have f2 := ta_block (.agg #[])
  have f3 := ta_commit (.agg #[])
  have f4 := ta_boot (.agg #[])
  go_enter Tryz.func149, Tryz.ntmps149
  go_upto_region 1 with fail
  have kb := below_alloc w (.cells #[.int .i64 4, bv, .int .i64 n] 90)
  have k1 : Arr (w.alloc (.cells #[.int .i64 4, bv, .int .i64 n] 90)) w.heap.size [.int .i64 4, bv, .int .i64 n] := Arr.new _ _ _
  obtain ⟨W, hW⟩ : ∃ W, w.alloc (.cells #[.int .i64 4, bv, .int .i64 n] 90) = W := ⟨_, rfl⟩
  obtain ⟨g, hg⟩ : ∃ g, w.heap.size = g := ⟨_, rfl⟩
  rw [hW] at kb k1 ⊢
  rw [hg] at k1 ⊢
  clear hW hg
  go_wp2_with (refine wpList_load_arr2 rfl _ _ rfl _ rfl (by decide +kernel) _ (by assumption) (by first | (rw [lims_len]; kernel_rfl) | (rw [el_rep]; kernel_rfl) | (rw [el_len]; kernel_rfl) | (rw [byts_len]; kernel_rfl) | (rw [us_len]; kernel_rfl) | (rw [bytn_len]; kernel_rfl) | (rw [ens_len, digs_len]; kernel_rfl) | (rw [ptL_len]; kernel_rfl) | (rw [pcs_len]; kernel_rfl) | kernel_rfl) ?_)
  refine (cM.out _).mono ?_
  rintro e w1 ⟨rfl, hb⟩
  replace kb := bel kb hb
  clear hb k1 cM
  go_wp2_with fail
  replace kb := bel kb (below_alloc w1 (.cells #[] 279))
  refine (cB.out _ kb).mono ?_
  rintro e w2 ⟨rfl, k2, hc⟩
  have hq := (Ch.of_below (M := [c]) kb).trans hc
  clear cB kb hc f1 f2 f3 f4
  replace hq := Lib.hid hq
  go_wp2_with fail
  go_ret2
  exact ⟨rfl, k2, hq.out⟩
end Go.Proofs.YtibdgkhkhmdihaaGreatDoor


namespace Go.Proofs.YtibdgkhkhmdihaaGreatDoor
open Go.RowKit
def st0 : List Value := [.int .i64 0, .slice none 0 0, .slice none 0 0, .bool false, .int .i64 0, .slice none 0 0, .bool false, .int .i64 0, .int .i64 0]
theorem stZ_one : ∀ u ∈ stZ, u.oneCell' = true := by
  intro u hu
  simp only [stZ, List.mem_cons, List.not_mem_nil, or_false] at hu
  rcases hu with rfl | rfl | rfl | rfl | rfl | rfl | rfl | rfl | rfl <;> rfl
set_option maxHeartbeats 1000000 in
theorem snew_any (w : World) : Calls Tryz.prog 187 #[] w fun e w' => e = .returned (.agg stZ.toArray) ∧ Below w.heap.size w w' := by
  go_enter Tryz.func187, Tryz.ntmps187
  go_upto_region 1 with fail
  refine wp_new1 (fun W hsz k2 kb => ?_)
  replace k2 : Arr W w.heap.size st0 := k2
  clear hsz
  go_wp2_with (first | (refine wpList_builta rfl _ _ rfl stZ.toArray (by kernel_rfl) ?_) | (refine wpl_storeG rfl _ _ _ rfl _ stZ rfl rfl _ k2 (by kernel_rfl) (by rfl) stZ_one (fun w4 k6 hg hsz => ?_)))
  have kb := below_gr kb hg (Nat.le_refl _) kb.size
  exact bodyPost_ret ((results_arr2 Tryz.results187 _ _ _ rfl (by kernel_rfl) _ (by first | assumption | exact Arr.setRow (by assumption) _) (by first | (rw [lims_len]; kernel_rfl) | (rw [el_rep]; kernel_rfl) | (rw [el_len]; kernel_rfl) | (rw [byts_len]; kernel_rfl) | (rw [us_len]; kernel_rfl) | (rw [bytn_len]; kernel_rfl) | (rw [ens_len, digs_len]; kernel_rfl) | (rw [ptL_len]; kernel_rfl) | (rw [pcs_len]; kernel_rfl) | kernel_rfl)) ) rfl ⟨rfl, kb⟩
set_option maxHeartbeats 1000000 in
theorem dstate_nil (w : World) : Calls Tryz.prog 128 #[.slice none 0 0] w fun e w' => e = .returned (.tuple #[.agg stZ.toArray, .int .i64 0]) ∧ Below w.heap.size w w' := by
  have cN := Lib.hid (fun w => snew_any w)
  go_enter Tryz.func128, Tryz.ntmps128
  go_upto_region 1 with fail
  refine wp_new1 (fun W hsz k2 kb => ?_)
  replace k2 : Arr W w.heap.size st0 := k2
  clear hsz
  go_wp2_with fail
  refine (cN.out _).mono ?_
  rintro e w1 ⟨rfl, hb⟩
  replace k2 := k2.below hb
  replace kb := bel kb hb
  clear hb cN
  go_wp2_with (refine wpl_storeG rfl _ _ _ rfl _ stZ rfl rfl _ k2 (by kernel_rfl) (by rfl) stZ_one (fun w4 k6 hg hsz => ?_))
  have kb := below_gr kb hg (Nat.le_refl _) kb.size
  exact bodyPost_ret (results_arr_tmp Tryz.results128 _ _ _ _ rfl Tryz.underlying105 rfl stZ k6 (by kernel_rfl) _ rfl) rfl ⟨rfl, kb⟩
set_option maxHeartbeats 1000000 in
theorem vnew_any (p g i : Nat) (F : Fl) (w : World) (kf : FlAt w p g F) (hlen : 32768 ≤ F.b.length) (hi : i < 2) :
    Calls Tryz.prog 130 #[.pointer (some ⟨p, 0, none⟩), .int .i64 (i : Int)] w fun e w' => ∃ a, e = .returned (.tuple #[.pointer (some ⟨a, 0, none⟩), .int .i64 0]) ∧ Below w.heap.size w w' := by
  obtain ⟨L, hL⟩ : ∃ L, F.b.length / 256 = L := ⟨_, rfl⟩
  have hL64 : (128 : Int) ≤ (L : Int) := by omega
  have cS := Lib.hid (fsize_any p g F w kf)
  rw [hL] at cS
  have i0 : (0 : Int) ≤ (i : Int) := by omega
  have i1 : (i : Int) ≤ 1 := by omega
  have i2 : IntKind.i64.wrap ((i : Int) * 32) = (i : Int) * 32 := i64_in (by omega)
  have i3 : IntKind.i64.wrap (64 + (i : Int) * 32) = 64 + (i : Int) * 32 := i64_in (by omega)
  clear kf hlen hL hi
  go_enter Tryz.func130, Tryz.ntmps130
  go_wp2_with fail
  refine cS.out.mono ?_
  rintro e w1 ⟨rfl, hw⟩
  obtain rfl : w = w1 := hw.symm
  clear cS
  go_wp2_with fail
  go_ret2
  exact ⟨_, rfl, below_alloc _ _⟩
end Go.Proofs.YtibdgkhkhmdihaaGreatDoor

