import Derived.Test.YtibdgkhkhmdihaaGreatDoorJa08

namespace Go.Proofs.YtibdgkhkhmdihaaGreatDoor
open Go.RowKit
theorem info_sl : (Tryz.prog.info? 26).map (fun i => (i.zero, i.size, i.bytes)) = some (some (.slice none 0 0), 1, 24) := by kernel_rfl
theorem own1 (w : World) (v : Value) (T : TypeId) : (w.alloc (.cells #[v] T)).ownsRow w.heap.size T 1 (.slice (some ⟨w.heap.size, 0, none⟩) 1 1) 1 [v] :=
  ⟨rfl, .inr ⟨w.heap.size, 1, #[v], rfl, Nat.le_refl _, heap_alloc_new w _, Nat.le_refl _, by decide, rfl, rfl⟩⟩
theorem Sls.new1 {w : World} {v1 : Value} {b1 : List UInt8} (h1 : Sl w v1 (u8s b1)) (T : TypeId) : Sls (w.alloc (.cells #[v1] T)) (.slice (some ⟨w.heap.size, 0, none⟩) 1 1) [b1] := by
  refine ⟨[v1], Sl.new1 w v1 T, rfl, ?_⟩
  intro j a b' ha hb'
  match j with
  | 0 => simp only [List.getElem?_cons_zero, Option.some.injEq] at ha hb'; subst ha hb'; exact h1.alloc _
  | j + 1 => simp at ha
theorem Sls.new2 {w : World} {v1 v2 : Value} {b1 b2 : List UInt8} (h1 : Sl w v1 (u8s b1)) (h2 : Sl w v2 (u8s b2)) (T : TypeId) : Sls (w.alloc (.cells #[v1, v2] T)) (.slice (some ⟨w.heap.size, 0, none⟩) 2 2) [b1, b2] := by
  refine ⟨[v1, v2], ⟨_, 2, rfl, Nat.le_refl _, by decide, fun h => (by cases h), fun x hx => ?_⟩, rfl, ?_⟩
  · cases hx
    intro j u hu
    rw [Addr.add_lit, Nat.zero_add]
    exact (Arr.new w #[v1, v2] T).cell hu
  · intro j a b' ha hb'
    match j with
    | 0 => simp only [List.getElem?_cons_zero, Option.some.injEq] at ha hb'; subst ha hb'; exact h1.alloc _
    | 1 => simp only [List.getElem?_cons_zero, List.getElem?_cons_succ, Option.some.injEq] at ha hb'; subst ha hb'; exact h2.alloc _
    | j + 2 => simp at ha
theorem Sls.cons {w w' : World} {v v1 : Value} {b1 : List UInt8} {vs : List Value} {ls : List (List UInt8)} (h : Sl w' v ([v1] ++ vs)) (h1 : Sl w' v1 (u8s b1)) (hl : vs.length = ls.length) (hv : ∀ (j : Nat) (a : Value) (b : List UInt8), vs[j]? = some a → ls[j]? = some b → Sl w a (u8s b)) (hb : Below w.heap.size w w') : Sls w' v (b1 :: ls) := by
  refine ⟨_, h, by simp [hl], ?_⟩
  intro j a b ha hb'
  match j with
  | 0 => simp only [List.singleton_append, List.getElem?_cons_zero, Option.some.injEq] at ha hb'; subst ha hb'; exact h1
  | j + 1 => simp only [List.singleton_append, List.getElem?_cons_succ] at ha hb'; exact (hv j a b ha hb').below hb
set_option maxHeartbeats 4000000 in
set_option maxRecDepth 100000 in
theorem macsum_short (a d : Option Addr) (cap cd : Nat) (key : List UInt8) (ls : List (List UInt8)) (hk : key.length ≤ 64) (hll : ls.length ≤ 1000) (w : World) (hs : Sl w (.slice a key.length cap) (u8s key)) (hls : Sls w (.slice d ls.length cd) ls) :
    Calls Tryz.prog 246 #[.slice a key.length cap, .slice d ls.length cd] w fun e w' => e = .returned (.agg (bytn 32 (macN key ls.flatten)).toArray) ∧ Below w.heap.size w w' := by
  have hm : Hid (macK key = key) := Lib.hid (by rw [macK, if_neg (by omega)])
  obtain ⟨X, hX⟩ : ∃ X, Ending.returned (.agg (bytn 32 (macN key ls.flatten)).toArray) = X := ⟨_, rfl⟩
  rw [hX]
  rw [macN, hm.out] at hX
  replace hX := Lib.hid hX
  obtain ⟨k2, rfl⟩ : ∃ k2, k2 = key := ⟨_, rfl⟩
  obtain ⟨n2, hn2⟩ : ∃ n, k2.length = n := ⟨_, rfl⟩
  rw [hn2] at hs hk ⊢
  replace hn2 := Lib.hid hn2
  have hn64 := Lib.hid hk
  have hK := Lib.hid hs
  replace hls := Lib.hid hls
  have hnn : ¬ (64 : Int) < (n2 : Int) := by omega
  obtain ⟨a2, rfl⟩ : ∃ a2, a2 = a := ⟨_, rfl⟩
  obtain ⟨c2, rfl⟩ : ∃ c2, c2 = cap := ⟨_, rfl⟩
  clear hs hm
  go_enter Tryz.func246, Tryz.ntmps246
  go_upto_region 1 with fail
  refine wp_new1 (fun wA hsz k4 kb => ?_)
  replace k4 : Arr wA w.heap.size (bytn 32 0) := k4
  replace hK := Lib.hid (hK.out.below kb)
  replace hls := Lib.hid (hls.out.below kb)
  clear hsz
  obtain ⟨vs, hvs, hvl, hv1, hvj⟩ := hls.out.vals
  have hvv := Lib.hid hvs
  replace hv1 := Lib.hid hv1
  replace hvj := Lib.hid hvj
  replace hvl := Lib.hid hvl
  clear hvs hls
  have cp1 := Lib.hid (show ∀ w', Below wA.heap.size wA w' → Calls Tryz.prog 291 #[.slice a2 n2 c2, .int .u8 54] w' fun e w2 => ∃ g, e = .returned (.slice (some ⟨g, 0, none⟩) 64 64) ∧ w'.heap.size ≤ g ∧ Arr w2 g (u8s (padL k2 54)) ∧ Below w'.heap.size w' w2 from fun w' hb => by
    have q := padded_any a2 c2 k2 54 (by rw [hn2.out]; exact hn64.out) w' (by rw [hn2.out]; exact hK.out.below hb)
    rw [hn2.out] at q
    exact q)
  have cp2 := Lib.hid (show ∀ w', Below wA.heap.size wA w' → Calls Tryz.prog 291 #[.slice a2 n2 c2, .int .u8 92] w' fun e w2 => ∃ g, e = .returned (.slice (some ⟨g, 0, none⟩) 64 64) ∧ w'.heap.size ≤ g ∧ Arr w2 g (u8s (padL k2 92)) ∧ Below w'.heap.size w' w2 from fun w' hb => by
    have q := padded_any a2 c2 k2 92 (by rw [hn2.out]; exact hn64.out) w' (by rw [hn2.out]; exact hK.out.below hb)
    rw [hn2.out] at q
    exact q)
  have hp1 : Hid ((padL k2 54).length = 64) := Lib.hid (padS_len (by rw [hn2.out]; exact hn64.out) _ _)
  have hp2 : Hid ((padL k2 92).length = 64) := Lib.hid (padS_len (by rw [hn2.out]; exact hn64.out) _ _)
  obtain ⟨i, hi, hz0, hz1, hz2⟩ := info_parts info_sl
  have hB0 := Below.refl wA.heap.size wA
  go_wp2_with fail
  refine (cp1.out _ hB0).mono ?_
  rintro e wB ⟨gp, rfl, hgp, kp, hb⟩
  have hpS := Lib.hid (Sl.ofArrN kp hp1.out (by decide))
  have kbB := hb
  replace k4 := k4.below hb
  clear hB0 hb kp hgp cp1
  have kb2 := bel kb kbB
  have hszB := kb2.size
  go_wp2_with (at_builtin; refine wpList_append_sl rfl _ _ 38 rfl wB.heap.size 26 Tryz.underlying38 hi hz0 hz1 hz2 rfl _ _ _ rfl (own1 wB _ _) _ vs rfl ((hvv.out.below kbB).alloc _) hv1.out ?c2 ?c3 (by simp) (fun v' wC hown hg => ?_))
  case c2 => rw [hvl.out]; unfold maxLen; omega
  case c3 => rw [hvl.out]; omega
  have kbC : Below wB.heap.size wB wC := below_grown (below_alloc wB _) (own1 wB _ _) (by simp) hg
  have hS := Sls.cons (ls := ls) (Sl.of_own hown) (hpS.out.below kbC) hvl.out hvj.out (bel kbB kbC)
  clear hown hg hpS hi hz0 hz1 hz2
  obtain ⟨aS, cS, rfl⟩ : ∃ aS cS, v' = .slice aS (padL k2 54 :: ls).length cS := by
    obtain ⟨vs2, ⟨aS, cS, he, -⟩, hl2, -⟩ := hS
    exact ⟨aS, cS, by rw [he, hl2]⟩
  replace k4 := k4.below kbC
  have kb3 := bel kb2 kbC
  have kbAC := bel kbB kbC
  have cs1 := Lib.hid (shsuma_any _ _ _ wC hS)
  obtain ⟨N1, hN1⟩ : ∃ N, shaa (padL k2 54 :: ls).flatten = N := ⟨_, rfl⟩
  rw [hN1] at cs1
  rw [show padL k2 54 ++ ls.flatten = (padL k2 54 :: ls).flatten from rfl] at hX
  replace hN1 := Lib.hid hN1
  obtain ⟨n3, hn3⟩ : ∃ n, (padL k2 54 :: ls).length = n := ⟨_, rfl⟩
  rw [hn3] at cs1 ⊢
  clear hS hn3 kb kb2 kbB kbC hszB hvv
  go_wp2_with fail
  refine cs1.out.mono ?_
  rintro e wD ⟨rfl, hb⟩
  replace k4 := k4.below hb
  have kb := bel kb3 hb
  have kbA := bel kbAC hb
  clear hb kb3 kbAC cs1
  go_upto_region 5 with (refine wpl_storeG rfl _ _ _ rfl _ (bytn 32 N1) rfl rfl _ (Arr.new _ _ _) (by rw [bytn_len]; kernel_rfl) (by rw [bytn_len]; rfl) (bytn_one _ _) (fun wE k6 hg hsz => ?_))
  have hb := below_fresh hg
  have lt4 := k4.lt
  replace k4 := k4.below hb
  replace kb := bel kb hb
  replace kbA := bel kbA hb
  obtain ⟨g6, hg6⟩ : ∃ g, wD.heap.size = g := ⟨_, rfl⟩
  rw [hg6] at k6 lt4 ⊢
  clear hb hsz hg hg6
  rw [nb_u8s] at k6
  obtain ⟨g4, hg4⟩ : ∃ g, w.heap.size = g := ⟨_, rfl⟩
  rw [hg4] at k4 lt4 ⊢
  have hw4 : w.heap.size ≤ g4 := by omega
  clear hg4
  obtain ⟨N2, hN2⟩ : ∃ N, shaa [padL k2 92, nb 32 N1].flatten = N := ⟨_, rfl⟩
  have cs2 := Lib.hid (show ∀ w g, Sls w (.slice (some ⟨g, 0, none⟩) 2 2) [padL k2 92, nb 32 N1] → Calls Tryz.prog 20 #[.slice (some ⟨g, 0, none⟩) 2 2] w fun e w' => e = .returned (.agg (bytn 32 N2).toArray) ∧ Below w.heap.size w w' from fun w g h => by rw [← hN2]; exact shsuma_any _ _ [padL k2 92, nb 32 N1] w h)
  have hXe : Hid (Ending.returned (.agg (bytn 32 N2).toArray) = X) := Lib.hid (by rw [← hX.out, hN1.out, ← hN2]; simp)
  clear hN2
  refine Tx.start (fun w' => Below (wE).heap.size (wE) w') 5 6 rfl (by kernel_rfl) ?_
  have hS_1 : Below (wE).heap.size (wE) (World.drew wE) := (Below.refl _ _).drew
  refine Tx.seg2 (A := ?_) 4 5 (by kernel_rfl) (by exact hS_1) [0, 2] (by kernel_rfl) ?_ ?_
  rotate_left
  · intro w' hB
    iterate 2 (first | (refine rd_skip rfl rfl ?_; simp only [Act.put, List.setIfInBounds_toArray, List.set_cons_zero, List.set_cons_succ]) | (refine rd_load_arr rfl rfl _ _ rfl _ rfl (by decide +kernel) _ (by assumption) (by first | (rw [lims_len]; kernel_rfl) | (rw [el_rep]; kernel_rfl) | (rw [el_len]; kernel_rfl) | (rw [byts_len]; kernel_rfl) | (rw [us_len]; kernel_rfl) | (rw [bytn_len]; kernel_rfl) | (rw [ens_len, digs_len]; kernel_rfl) | (rw [ptL_len]; kernel_rfl) | (rw [pcs_len]; kernel_rfl) | kernel_rfl) ?_; simp only [Act.put, List.setIfInBounds_toArray, List.set_cons_zero, List.set_cons_succ]) | (refine rd_take (v := ?_) rfl rfl ?_ ?_; rotate_left; (focus (go_simp; try (with_reducible rfl))); simp only [Act.put, List.setIfInBounds_toArray, List.set_cons_zero, List.set_cons_succ]))
    exact rd_nil
  refine Tx.eff 1 7 rfl (by decide +kernel) (fun K hK => ?_)
  go_simp
  refine (cp2.out _ (bel kbA hS_1)).mono ?_
  rintro e w_2 ⟨gq, rfl, hgq, kq, hb_2⟩
  have hS_2 := ext_trans hS_1 (Nat.le_refl _) hb_2
  refine hK (fun w' => Below (wE).heap.size (wE) w') _ _ hS_2 (fun _ h => h) ?_
  clear hK K hS_1
  try simp only [Act.put, List.setIfInBounds_toArray, List.set_cons_zero, List.set_cons_succ]
  have pq := Sl.ofArrN kq hp2.out (by decide)
  have p6 := Sl.ofArrN (k6.below hS_2) (nb_len 32 N1) (by decide)
  refine Tx.eff 3 15 rfl (by decide +kernel) (fun K hK => ?_)
  go_simp
  refine hK (fun w' => Below (wE).heap.size (wE) w') _ _ (ext_trans hS_2 (Nat.le_refl _) (below_alloc _ _)) (fun _ h => h) ?_
  clear hK K
  try simp only [Act.put, List.setIfInBounds_toArray, List.set_cons_zero, List.set_cons_succ]
  refine Tx.newF (F := fun w' => Sls w' (.slice (some ⟨(w_2).heap.size, 0, none⟩) 2 2) [padL k2 92, nb 32 N1]) (w0 := w_2) (Sls.new2 pq p6 _) (fun w1 h => h.below (Below.refl _ _).drew) (by first | exact .inl rfl | exact .inr rfl) (fun w_3 hS5 hb_3 => ?_)
  have hS_3 : Below (wE).heap.size (wE) w_3 := by first | exact hb_3 | exact ext_trans hS_2 (Nat.le_refl _) hb_3
  clear hS_2
  refine Tx.eff 4 31 rfl (by decide +kernel) (fun K hK => ?_)
  go_simp
  refine (cs2.out _ _ hS5).mono ?_
  rintro e w_4 ⟨rfl, hb_4⟩
  have hS_4 := ext_trans hS_3 (Nat.le_refl _) hb_4
  refine hK (fun w' => Below (wE).heap.size (wE) w') _ _ hS_4 (fun _ h => h) ?_
  clear hK K hb_4 hS_3
  try simp only [Act.put, List.setIfInBounds_toArray, List.set_cons_zero, List.set_cons_succ]
  refine Tx.bar 63 rfl (by decide +kernel) (fun K hK => ?_)
  replace k4 := k4.below hS_4
  replace kb := bel kb hS_4
  clear hS_4
  refine step_storeG rfl _ _ _ rfl g4 (bytn 32 N2) rfl rfl _ k4 (by rw [bytn_len]; kernel_rfl) (by rw [bytn_len, bytn_len]) (bytn_one _ _) (fun w9 k4 hg hsz => ?_)
  have qb := below_gr kb hg hw4 kb.size
  refine hK (fun _ => True) 9999 _ _ ?_
  clear hK K
  try simp only [Act.put]
  try simp only [List.setIfInBounds_toArray, List.set_cons_zero, List.set_cons_succ]
  refine Tx.done (by kernel_rfl) ?_
  go_wp2_with fail
  exact bodyPost_ret (results_arr2 Tryz.results246 _ _ _ rfl (by kernel_rfl) _ k4 (by rw [bytn_len]; kernel_rfl)) rfl ⟨hXe.out, qb⟩
set_option maxHeartbeats 4000000 in
set_option maxRecDepth 100000 in
theorem macsum_long (a d : Option Addr) (cap cd : Nat) (key : List UInt8) (ls : List (List UInt8)) (hk : 64 < key.length) (hll : ls.length ≤ 1000) (w : World) (hs : Sl w (.slice a key.length cap) (u8s key)) (hls : Sls w (.slice d ls.length cd) ls) :
    Calls Tryz.prog 246 #[.slice a key.length cap, .slice d ls.length cd] w fun e w' => e = .returned (.agg (bytn 32 (macN key ls.flatten)).toArray) ∧ Below w.heap.size w w' := by
  have hm : Hid (macK key = nb 32 (shaa key)) := Lib.hid (by rw [macK, if_pos hk])
  obtain ⟨X, hX⟩ : ∃ X, Ending.returned (.agg (bytn 32 (macN key ls.flatten)).toArray) = X := ⟨_, rfl⟩
  rw [hX]
  rw [macN, hm.out] at hX
  obtain ⟨N0, hN0⟩ : ∃ N, shaa key = N := ⟨_, rfl⟩
  rw [hN0] at hX
  replace hX := Lib.hid hX
  have hlen := hs.len
  rw [u8s_len] at hlen
  obtain ⟨-, hlc, hcm⟩ := hlen
  unfold maxLen at hcm
  have cs0 := Lib.hid (show ∀ w g, Sls w (.slice (some ⟨g, 0, none⟩) 1 1) [key] → Calls Tryz.prog 20 #[.slice (some ⟨g, 0, none⟩) 1 1] w fun e w' => e = .returned (.agg (bytn 32 N0).toArray) ∧ Below w.heap.size w w' from fun w g h => by
    have q := shsuma_any (some ⟨g, 0, none⟩) 1 [key] w h
    rw [show [key].flatten = key by simp, hN0] at q
    exact q)
  obtain ⟨n0, hn0⟩ : ∃ n, key.length = n := ⟨_, rfl⟩
  rw [hn0] at hs hk hlc ⊢
  replace hn0 := Lib.hid hn0
  have hK0 := Lib.hid hs
  replace hls := Lib.hid hls
  have hnn : (64 : Int) < (n0 : Int) := by omega
  clear hs hm hN0
  go_enter Tryz.func246, Tryz.ntmps246
  go_upto_region 1 with fail
  refine wp_new1 (fun wA hsz k4 kb => ?_)
  replace k4 : Arr wA w.heap.size (bytn 32 0) := k4
  replace hK0 := Lib.hid (hK0.out.below kb)
  replace hls := Lib.hid (hls.out.below kb)
  clear hsz
  go_upto_region 2 with fail
  go_wp2_with fail
  refine (cs0.out _ _ (Sls.new1 hK0.out _)).mono ?_
  rintro e wB ⟨rfl, hb⟩
  have hb1 := bel (below_alloc wA _) hb
  replace k4 := k4.below hb1
  replace kb := bel kb hb1
  replace hls := Lib.hid (hls.out.below hb1)
  clear hb hb1 hK0 cs0
  go_upto_region 3 with (refine wpl_storeG rfl _ _ _ rfl _ (bytn 32 N0) rfl rfl _ (Arr.new _ _ _) (by rw [bytn_len]; kernel_rfl) (by rw [bytn_len]; rfl) (bytn_one _ _) (fun wC k5 hg hsz => ?_))
  have hb := below_fresh hg
  replace k4 := k4.below hb
  replace kb := bel kb hb
  replace hls := Lib.hid (hls.out.below hb)
  obtain ⟨g5, hg5⟩ : ∃ g, wB.heap.size = g := ⟨_, rfl⟩
  rw [hg5] at k5 ⊢
  clear hb hsz hg hg5 hnn hk
  rw [nb_u8s] at k5
  have hK := Lib.hid (Sl.ofArrN k5 (nb_len 32 N0) (by decide))
  obtain ⟨k2, hk2⟩ : ∃ k, nb 32 N0 = k := ⟨_, rfl⟩
  have hn2 : Hid (k2.length = 32) := Lib.hid (by rw [← hk2, nb_len])
  rw [hk2] at hK hX
  clear k5 hk2
  go_upto_region 4 with fail
  obtain ⟨a2, n2, c2, hv⟩ : ∃ a n c, Value.slice (some ⟨g5, 0, none⟩) 32 32 = Value.slice a n c := ⟨_, _, _, rfl⟩
  have hv2 := hv
  simp only [Value.slice.injEq] at hv2
  obtain ⟨-, e2, -⟩ := hv2
  have hn2 : Hid (k2.length = n2) := Lib.hid (by rw [← e2]; exact hn2.out)
  have hn64 : Hid (n2 ≤ 64) := Lib.hid (by omega)
  rw [hv] at hK ⊢
  clear hv e2
  obtain ⟨wA, hwA⟩ : ∃ wA : World, wA = wC := ⟨_, rfl⟩
  rw [← hwA] at k4 kb hls hK ⊢
  clear hwA
  obtain ⟨vs, hvs, hvl, hv1, hvj⟩ := hls.out.vals
  have hvv := Lib.hid hvs
  replace hv1 := Lib.hid hv1
  replace hvj := Lib.hid hvj
  replace hvl := Lib.hid hvl
  clear hvs hls
  have cp1 := Lib.hid (show ∀ w', Below wA.heap.size wA w' → Calls Tryz.prog 291 #[.slice a2 n2 c2, .int .u8 54] w' fun e w2 => ∃ g, e = .returned (.slice (some ⟨g, 0, none⟩) 64 64) ∧ w'.heap.size ≤ g ∧ Arr w2 g (u8s (padL k2 54)) ∧ Below w'.heap.size w' w2 from fun w' hb => by
    have q := padded_any a2 c2 k2 54 (by rw [hn2.out]; exact hn64.out) w' (by rw [hn2.out]; exact hK.out.below hb)
    rw [hn2.out] at q
    exact q)
  have cp2 := Lib.hid (show ∀ w', Below wA.heap.size wA w' → Calls Tryz.prog 291 #[.slice a2 n2 c2, .int .u8 92] w' fun e w2 => ∃ g, e = .returned (.slice (some ⟨g, 0, none⟩) 64 64) ∧ w'.heap.size ≤ g ∧ Arr w2 g (u8s (padL k2 92)) ∧ Below w'.heap.size w' w2 from fun w' hb => by
    have q := padded_any a2 c2 k2 92 (by rw [hn2.out]; exact hn64.out) w' (by rw [hn2.out]; exact hK.out.below hb)
    rw [hn2.out] at q
    exact q)
  have hp1 : Hid ((padL k2 54).length = 64) := Lib.hid (padS_len (by rw [hn2.out]; exact hn64.out) _ _)
  have hp2 : Hid ((padL k2 92).length = 64) := Lib.hid (padS_len (by rw [hn2.out]; exact hn64.out) _ _)
  obtain ⟨i, hi, hz0, hz1, hz2⟩ := info_parts info_sl
  have hB0 := Below.refl wA.heap.size wA
  go_wp2_with fail
  refine (cp1.out _ hB0).mono ?_
  rintro e wB ⟨gp, rfl, hgp, kp, hb⟩
  have hpS := Lib.hid (Sl.ofArrN kp hp1.out (by decide))
  have kbB := hb
  replace k4 := k4.below hb
  clear hB0 hb kp hgp cp1
  have kb2 := bel kb kbB
  have hszB := kb2.size
  go_wp2_with (at_builtin; refine wpList_append_sl rfl _ _ 38 rfl wB.heap.size 26 Tryz.underlying38 hi hz0 hz1 hz2 rfl _ _ _ rfl (own1 wB _ _) _ vs rfl ((hvv.out.below kbB).alloc _) hv1.out ?c2 ?c3 (by simp) (fun v' wC hown hg => ?_))
  case c2 => rw [hvl.out]; unfold maxLen; omega
  case c3 => rw [hvl.out]; omega
  have kbC : Below wB.heap.size wB wC := below_grown (below_alloc wB _) (own1 wB _ _) (by simp) hg
  have hS := Sls.cons (ls := ls) (Sl.of_own hown) (hpS.out.below kbC) hvl.out hvj.out (bel kbB kbC)
  clear hown hg hpS hi hz0 hz1 hz2
  obtain ⟨aS, cS, rfl⟩ : ∃ aS cS, v' = .slice aS (padL k2 54 :: ls).length cS := by
    obtain ⟨vs2, ⟨aS, cS, he, -⟩, hl2, -⟩ := hS
    exact ⟨aS, cS, by rw [he, hl2]⟩
  replace k4 := k4.below kbC
  have kb3 := bel kb2 kbC
  have kbAC := bel kbB kbC
  have cs1 := Lib.hid (shsuma_any _ _ _ wC hS)
  obtain ⟨N1, hN1⟩ : ∃ N, shaa (padL k2 54 :: ls).flatten = N := ⟨_, rfl⟩
  rw [hN1] at cs1
  rw [show padL k2 54 ++ ls.flatten = (padL k2 54 :: ls).flatten from rfl] at hX
  replace hN1 := Lib.hid hN1
  obtain ⟨n3, hn3⟩ : ∃ n, (padL k2 54 :: ls).length = n := ⟨_, rfl⟩
  rw [hn3] at cs1 ⊢
  clear hS hn3 kb kb2 kbB kbC hszB hvv
  go_wp2_with fail
  refine cs1.out.mono ?_
  rintro e wD ⟨rfl, hb⟩
  replace k4 := k4.below hb
  have kb := bel kb3 hb
  have kbA := bel kbAC hb
  clear hb kb3 kbAC cs1
  go_upto_region 5 with (refine wpl_storeG rfl _ _ _ rfl _ (bytn 32 N1) rfl rfl _ (Arr.new _ _ _) (by rw [bytn_len]; kernel_rfl) (by rw [bytn_len]; rfl) (bytn_one _ _) (fun wE k6 hg hsz => ?_))
  have hb := below_fresh hg
  have lt4 := k4.lt
  replace k4 := k4.below hb
  replace kb := bel kb hb
  replace kbA := bel kbA hb
  obtain ⟨g6, hg6⟩ : ∃ g, wD.heap.size = g := ⟨_, rfl⟩
  rw [hg6] at k6 lt4 ⊢
  clear hb hsz hg hg6
  rw [nb_u8s] at k6
  obtain ⟨g4, hg4⟩ : ∃ g, w.heap.size = g := ⟨_, rfl⟩
  rw [hg4] at k4 lt4 ⊢
  have hw4 : w.heap.size ≤ g4 := by omega
  clear hg4
  obtain ⟨N2, hN2⟩ : ∃ N, shaa [padL k2 92, nb 32 N1].flatten = N := ⟨_, rfl⟩
  have cs2 := Lib.hid (show ∀ w g, Sls w (.slice (some ⟨g, 0, none⟩) 2 2) [padL k2 92, nb 32 N1] → Calls Tryz.prog 20 #[.slice (some ⟨g, 0, none⟩) 2 2] w fun e w' => e = .returned (.agg (bytn 32 N2).toArray) ∧ Below w.heap.size w w' from fun w g h => by rw [← hN2]; exact shsuma_any _ _ [padL k2 92, nb 32 N1] w h)
  have hXe : Hid (Ending.returned (.agg (bytn 32 N2).toArray) = X) := Lib.hid (by rw [← hX.out, hN1.out, ← hN2]; simp)
  clear hN2
  refine Tx.start (fun w' => Below (wE).heap.size (wE) w') 5 6 rfl (by kernel_rfl) ?_
  have hS_5 : Below (wE).heap.size (wE) (World.drew wE) := (Below.refl _ _).drew
  refine Tx.seg2 (A := ?_) 4 5 (by kernel_rfl) (by exact hS_5) [0, 2] (by kernel_rfl) ?_ ?_
  rotate_left
  · intro w' hB
    iterate 2 (first | (refine rd_skip rfl rfl ?_; simp only [Act.put, List.setIfInBounds_toArray, List.set_cons_zero, List.set_cons_succ]) | (refine rd_load_arr rfl rfl _ _ rfl _ rfl (by decide +kernel) _ (by assumption) (by first | (rw [lims_len]; kernel_rfl) | (rw [el_rep]; kernel_rfl) | (rw [el_len]; kernel_rfl) | (rw [byts_len]; kernel_rfl) | (rw [us_len]; kernel_rfl) | (rw [bytn_len]; kernel_rfl) | (rw [ens_len, digs_len]; kernel_rfl) | (rw [ptL_len]; kernel_rfl) | (rw [pcs_len]; kernel_rfl) | kernel_rfl) ?_; simp only [Act.put, List.setIfInBounds_toArray, List.set_cons_zero, List.set_cons_succ]) | (refine rd_take (v := ?_) rfl rfl ?_ ?_; rotate_left; (focus (go_simp; try (with_reducible rfl))); simp only [Act.put, List.setIfInBounds_toArray, List.set_cons_zero, List.set_cons_succ]))
    exact rd_nil
  refine Tx.eff 1 7 rfl (by decide +kernel) (fun K hK => ?_)
  go_simp
  refine (cp2.out _ (bel kbA hS_5)).mono ?_
  rintro e w_6 ⟨gq, rfl, hgq, kq, hb_6⟩
  have hS_6 := ext_trans hS_5 (Nat.le_refl _) hb_6
  refine hK (fun w' => Below (wE).heap.size (wE) w') _ _ hS_6 (fun _ h => h) ?_
  clear hK K hS_5
  try simp only [Act.put, List.setIfInBounds_toArray, List.set_cons_zero, List.set_cons_succ]
  have pq := Sl.ofArrN kq hp2.out (by decide)
  have p6 := Sl.ofArrN (k6.below hS_6) (nb_len 32 N1) (by decide)
  refine Tx.eff 3 15 rfl (by decide +kernel) (fun K hK => ?_)
  go_simp
  refine hK (fun w' => Below (wE).heap.size (wE) w') _ _ (ext_trans hS_6 (Nat.le_refl _) (below_alloc _ _)) (fun _ h => h) ?_
  clear hK K
  try simp only [Act.put, List.setIfInBounds_toArray, List.set_cons_zero, List.set_cons_succ]
  refine Tx.newF (F := fun w' => Sls w' (.slice (some ⟨(w_6).heap.size, 0, none⟩) 2 2) [padL k2 92, nb 32 N1]) (w0 := w_6) (Sls.new2 pq p6 _) (fun w1 h => h.below (Below.refl _ _).drew) (by first | exact .inl rfl | exact .inr rfl) (fun w_7 hS5 hb_7 => ?_)
  have hS_7 : Below (wE).heap.size (wE) w_7 := by first | exact hb_7 | exact ext_trans hS_6 (Nat.le_refl _) hb_7
  clear hS_6
  refine Tx.eff 4 31 rfl (by decide +kernel) (fun K hK => ?_)
  go_simp
  refine (cs2.out _ _ hS5).mono ?_
  rintro e w_8 ⟨rfl, hb_8⟩
  have hS_8 := ext_trans hS_7 (Nat.le_refl _) hb_8
  refine hK (fun w' => Below (wE).heap.size (wE) w') _ _ hS_8 (fun _ h => h) ?_
  clear hK K hb_8 hS_7
  try simp only [Act.put, List.setIfInBounds_toArray, List.set_cons_zero, List.set_cons_succ]
  refine Tx.bar 63 rfl (by decide +kernel) (fun K hK => ?_)
  replace k4 := k4.below hS_8
  replace kb := bel kb hS_8
  clear hS_8
  refine step_storeG rfl _ _ _ rfl g4 (bytn 32 N2) rfl rfl _ k4 (by rw [bytn_len]; kernel_rfl) (by rw [bytn_len, bytn_len]) (bytn_one _ _) (fun w9 k4 hg hsz => ?_)
  have qb := below_gr kb hg hw4 kb.size
  refine hK (fun _ => True) 9999 _ _ ?_
  clear hK K
  try simp only [Act.put]
  try simp only [List.setIfInBounds_toArray, List.set_cons_zero, List.set_cons_succ]
  refine Tx.done (by kernel_rfl) ?_
  go_wp2_with fail
  exact bodyPost_ret (results_arr2 Tryz.results246 _ _ _ rfl (by kernel_rfl) _ k4 (by rw [bytn_len]; kernel_rfl)) rfl ⟨hXe.out, qb⟩
theorem macsum_any (a d : Option Addr) (cap cd : Nat) (key : List UInt8) (ls : List (List UInt8)) (hll : ls.length ≤ 1000) (w : World) (hs : Sl w (.slice a key.length cap) (u8s key)) (hls : Sls w (.slice d ls.length cd) ls) :
    Calls Tryz.prog 246 #[.slice a key.length cap, .slice d ls.length cd] w fun e w' => e = .returned (.agg (bytn 32 (macN key ls.flatten)).toArray) ∧ Below w.heap.size w w' := by
  by_cases h : 64 < key.length
  · exact macsum_long a d cap cd key ls h hll w hs hls
  · exact macsum_short a d cap cd key ls (by omega) hll w hs hls
end Go.Proofs.YtibdgkhkhmdihaaGreatDoor

