/- TopSigned: part 28 of its proof: lemmas and contracts, each with its conditions in its own statement; the last part holds the law itself. -/
import Derived.Test.YtncnlfpiondpnaaGreatJt27

set_option maxHeartbeats 4000000
set_option maxRecDepth 100000
namespace Go.Proofs.YtncnlfpiondpnaaGreat
open Go.RowKit
theorem info_sl : (Tryz.prog.info? 22).map (fun i => (i.zero, i.size, i.bytes)) = some (some (.slice none 0 0), 1, 24) := by kernel_rfl
theorem own1 (w : World) (v : Value) (T : TypeId) : (w.alloc (.cells #[v] T)).ownsRow w.heap.size T 1 (.slice (some ⟨w.heap.size, 0, none⟩) 1 1) 1 [v] :=
 ⟨rfl, .inr ⟨w.heap.size, 1, #[v], rfl, Nat.le_refl _, heap_alloc_new w _, Nat.le_refl _, by decide, rfl, rfl⟩⟩
theorem Sls.new1 {w : World} {v1 : Value} {b1 : List UInt8} (h1 : Sl w v1 (u8s b1)) (T : TypeId) : Sls (w.alloc (.cells #[v1] T)) (.slice (some ⟨w.heap.size, 0, none⟩) 1 1) [b1] := by
 refine ⟨[v1], Sl.new1 w v1 T, rfl, ?_⟩
 intro j a b' ha hb'
 match j with
 | 0 => simp only [List.getElem?_cons_zero, Option.some.injEq] at ha hb'; subst ha hb'; exact h1.alloc _
 | j + 1 => simp at ha
theorem Sls.new2 {w : World} {v1 v2 : Value} {b1 b2 : List UInt8} (h1 : Sl w v1 (u8s b1)) (h2 : Sl w v2 (u8s b2)) (T : TypeId) : Sls (w.alloc (.cells #[v1, v2] T)) (.slice (some ⟨w.heap.size, 0, none⟩) 2 2) [b1, b2] := by
 refine ⟨[v1, v2], ⟨_, 2, rfl, Nat.le_refl _, by decide, fun h => (by cases h), fun x hx => ?_⟩, rfl, ?_⟩
 · cases hx
   intro j u hu
   rw [Addr.add_lit, Nat.zero_add]
   exact (Arr.new w #[v1, v2] T).cell hu
 · intro j a b' ha hb'
   match j with
   | 0 => simp only [List.getElem?_cons_zero, Option.some.injEq] at ha hb'; subst ha hb'; exact h1.alloc _
   | 1 => simp only [List.getElem?_cons_zero, List.getElem?_cons_succ, Option.some.injEq] at ha hb'; subst ha hb'; exact h2.alloc _
   | j + 2 => simp at ha
theorem Sls.cons {w w' : World} {v v1 : Value} {b1 : List UInt8} {vs : List Value} {ls : List (List UInt8)} (h : Sl w' v ([v1] ++ vs)) (h1 : Sl w' v1 (u8s b1)) (hl : vs.length = ls.length) (hv : ∀ (j : Nat) (a : Value) (b : List UInt8), vs[j]? = some a → ls[j]? = some b → Sl w a (u8s b)) (hb : Below w.heap.size w w') : Sls w' v (b1 :: ls) := by
 refine ⟨_, h, by simp [hl], ?_⟩
 intro j a b ha hb'
 match j with
 | 0 => simp only [List.singleton_append, List.getElem?_cons_zero, Option.some.injEq] at ha hb'; subst ha hb'; exact h1
 | j + 1 => simp only [List.singleton_append, List.getElem?_cons_succ] at ha hb'; exact (hv j a b ha hb').below hb
theorem macsum_short (a d : Option Addr) (cap cd : Nat) (key : List UInt8) (ls : List (List UInt8)) (hk : key.length ≤ 64) (hll : ls.length ≤ 1000) (w : World) (hs : Sl w (.slice a key.length cap) (u8s key)) (hls : Sls w (.slice d ls.length cd) ls) :
 Calls Tryz.prog 170 #[.slice a key.length cap, .slice d ls.length cd] w fun e w' => e = .returned (.agg (bytn 32 (macN key ls.flatten)).toArray) ∧ Below w.heap.size w w' := by
 have hm : Hid (macK key = key) := zH (by rw [macK, if_neg zOm])
 obtain ⟨X, hX⟩ : ∃ X, Ending.returned (.agg (bytn 32 (macN key ls.flatten)).toArray) = X := ⟨_, rfl⟩
 rw [hX]
 rw [macN, hm.out] at hX
 replace hX := zH hX
 obtain ⟨k2, rfl⟩ : ∃ k2, k2 = key := ⟨_, rfl⟩
 obtain ⟨n2, hn2⟩ : ∃ n, k2.length = n := ⟨_, rfl⟩
 rw [hn2] at hs hk ⊢
 replace hn2 := zH hn2
 have hn64 := zH hk
 have hK := zH hs
 replace hls := zH hls
 have hnn : ¬ (64 : Int) < (n2 : Int) := by omega
 obtain ⟨a2, rfl⟩ : ∃ a2, a2 = a := ⟨_, rfl⟩
 obtain ⟨c2, rfl⟩ : ∃ c2, c2 = cap := ⟨_, rfl⟩
 clear hs hm
 go_enter Tryz.func170, Tryz.ntmps170
 go_upto_region 1 with fail
 refine wp_new1 (fun wA hsz k4 kb => ?_)
 replace k4 : Arr wA w.heap.size (bytn 32 0) := k4
 replace hK := zH (hK.out.below kb)
 replace hls := zH (hls.out.below kb)
 clear hsz
 obtain ⟨vs, hvs, hvl, hv1, hvj⟩ := hls.out.vals
 have hvv := zH hvs
 replace hv1 := zH hv1
 replace hvj := zH hvj
 replace hvl := zH hvl
 clear hvs hls
 have cp1 := zH (show ∀ w', Below wA.heap.size wA w' → Calls Tryz.prog 203 #[.slice a2 n2 c2, .int .u8 54] w' fun e w2 => ∃ g, e = .returned (.slice (some ⟨g, 0, none⟩) 64 64) ∧ w'.heap.size ≤ g ∧ Arr w2 g (u8s (padL k2 54)) ∧ Below w'.heap.size w' w2 from fun w' hb => by
  have q := padded_any a2 c2 k2 54 (by rw [hn2.out]; exact hn64.out) w' (by rw [hn2.out]; exact hK.out.below hb)
  rw [hn2.out] at q
  exact q)
 have cp2 := zH (show ∀ w', Below wA.heap.size wA w' → Calls Tryz.prog 203 #[.slice a2 n2 c2, .int .u8 92] w' fun e w2 => ∃ g, e = .returned (.slice (some ⟨g, 0, none⟩) 64 64) ∧ w'.heap.size ≤ g ∧ Arr w2 g (u8s (padL k2 92)) ∧ Below w'.heap.size w' w2 from fun w' hb => by
  have q := padded_any a2 c2 k2 92 (by rw [hn2.out]; exact hn64.out) w' (by rw [hn2.out]; exact hK.out.below hb)
  rw [hn2.out] at q
  exact q)
 have hp1 : Hid ((padL k2 54).length = 64) := zH (padS_len (by rw [hn2.out]; exact hn64.out) _ _)
 have hp2 : Hid ((padL k2 92).length = 64) := zH (padS_len (by rw [hn2.out]; exact hn64.out) _ _)
 obtain ⟨i, hi, hz0, hz1, hz2⟩ := info_parts info_sl
 have hB0 := Below.refl wA.heap.size wA
 go_wp2_with fail
 refine (cp1.out _ hB0).mono ?_
 rintro e wB ⟨gp, rfl, hgp, kp, hb⟩
 have hpS := zH (Sl.ofArrN kp hp1.out zDc)
 have kbB := hb
 replace k4 := k4.below hb
 clear hB0 hb kp hgp cp1
 have kb2 := bel kb kbB
 have hszB := kb2.size
 go_wp2_with (at_builtin; refine wpList_append_sl rfl _ _ 29 rfl wB.heap.size 22 Tryz.underlying29 hi hz0 hz1 hz2 rfl _ _ _ rfl (own1 wB _ _) _ vs rfl ((hvv.out.below kbB).alloc _) hv1.out ?c2 ?c3 (by simp) (fun v' wC hown hg => ?_))
 case c2 => rw [hvl.out]; unfold maxLen; omega
 case c3 => rw [hvl.out]; omega
 have kbC : Below wB.heap.size wB wC := below_grown (below_alloc wB _) (own1 wB _ _) (by simp) hg
 have hS := Sls.cons (ls := ls) (Sl.of_own hown) (hpS.out.below kbC) hvl.out hvj.out (bel kbB kbC)
 clear hown hg hpS hi hz0 hz1 hz2
 obtain ⟨aS, cS, rfl⟩ : ∃ aS cS, v' = .slice aS (padL k2 54 :: ls).length cS := by
  obtain ⟨vs2, ⟨aS, cS, he, -⟩, hl2, -⟩ := hS
  exact ⟨aS, cS, by rw [he, hl2]⟩
 replace k4 := k4.below kbC
 have kb3 := bel kb2 kbC
 have kbAC := bel kbB kbC
 have cs1 := zH (shsuma_any _ _ _ wC hS)
 obtain ⟨N1, hN1⟩ : ∃ N, shaa (padL k2 54 :: ls).flatten = N := ⟨_, rfl⟩
 rw [hN1] at cs1
 rw [show padL k2 54 ++ ls.flatten = (padL k2 54 :: ls).flatten from rfl] at hX
 replace hN1 := zH hN1
 obtain ⟨n3, hn3⟩ : ∃ n, (padL k2 54 :: ls).length = n := ⟨_, rfl⟩
 rw [hn3] at cs1 ⊢
 clear hS hn3 kb kb2 kbB kbC hszB hvv
 go_wp2_with fail
 refine cs1.out.mono ?_
 rintro e wD ⟨rfl, hb⟩
 replace k4 := k4.below hb
 have kb := bel kb3 hb
 have kbA := bel kbAC hb
 clear hb kb3 kbAC cs1
 go_upto_region 5 with (refine wpl_storeG rfl _ _ _ rfl _ (bytn 32 N1) rfl rfl _ (Arr.new _ _ _) (by rw [bytn_len]; kernel_rfl) (by rw [bytn_len]; rfl) (bytn_one _ _) (fun wE k6 hg hsz => ?_))
 have hb := below_fresh hg
 have lt4 := k4.lt
 replace k4 := k4.below hb
 replace kb := bel kb hb
 replace kbA := bel kbA hb
 obtain ⟨g6, hg6⟩ : ∃ g, wD.heap.size = g := ⟨_, rfl⟩
 rw [hg6] at k6 lt4 ⊢
 clear hb hsz hg hg6
 rw [nb_u8s] at k6
 obtain ⟨g4, hg4⟩ : ∃ g, w.heap.size = g := ⟨_, rfl⟩
 rw [hg4] at k4 lt4 ⊢
 have hw4 : w.heap.size ≤ g4 := by omega
 clear hg4
 obtain ⟨N2, hN2⟩ : ∃ N, shaa [padL k2 92, nb 32 N1].flatten = N := ⟨_, rfl⟩
 have cs2 := zH (show ∀ w g, Sls w (.slice (some ⟨g, 0, none⟩) 2 2) [padL k2 92, nb 32 N1] → Calls Tryz.prog 19 #[.slice (some ⟨g, 0, none⟩) 2 2] w fun e w' => e = .returned (.agg (bytn 32 N2).toArray) ∧ Below w.heap.size w w' from fun w g h => by rw [← hN2]; exact shsuma_any _ _ [padL k2 92, nb 32 N1] w h)
 have hXe : Hid (Ending.returned (.agg (bytn 32 N2).toArray) = X) := zH (by rw [← hX.out, hN1.out, ← hN2]; simp)
 clear hN2
 refine Tx.start (fun w' => Below (wE).heap.size (wE) w') 5 6 rfl zKr ?_
 have hS_1 : Below (wE).heap.size (wE) (World.drew wE) := (Below.refl _ _).drew
 refine Tx.seg2 (A := ?_) 4 5 zKr (by exact hS_1) [0, 2] zKr ?_ ?_
 rotate_left
 · intro w' hB
   exact zRd
 refine Tx.eff 1 7 rfl zDk (fun K hK => ?_)
 go_simp
 refine (cp2.out _ (bel kbA hS_1)).mono ?_
 rintro e w_2 ⟨gq, rfl, hgq, kq, hb_2⟩
 have hS_2 := ext_trans hS_1 (Nat.le_refl _) hb_2
 refine hK (fun w' => Below (wE).heap.size (wE) w') _ _ hS_2 (fun _ h => h) ?_
 clear hK K hS_1
 try simp only [Act.put, zSa, zSz, zSs]
 have pq := Sl.ofArrN kq hp2.out zDc
 have p6 := Sl.ofArrN (k6.below hS_2) (nb_len 32 N1) zDc
 refine Tx.eff 3 15 rfl zDk (fun K hK => ?_)
 go_simp
 refine hK (fun w' => Below (wE).heap.size (wE) w') _ _ (ext_trans hS_2 (Nat.le_refl _) (below_alloc _ _)) (fun _ h => h) ?_
 clear hK K
 try simp only [Act.put, zSa, zSz, zSs]
 refine Tx.newF (F := fun w' => Sls w' (.slice (some ⟨(w_2).heap.size, 0, none⟩) 2 2) [padL k2 92, nb 32 N1]) (w0 := w_2) (Sls.new2 pq p6 _) (fun w1 h => h.below (Below.refl _ _).drew) (by first | exact .inl rfl | exact .inr rfl) (fun w_3 hS5 hb_3 => ?_)
 have hS_3 : Below (wE).heap.size (wE) w_3 := by first | exact hb_3 | exact ext_trans hS_2 (Nat.le_refl _) hb_3
 clear hS_2
 refine Tx.eff 4 31 rfl zDk (fun K hK => ?_)
 go_simp
 refine (cs2.out _ _ hS5).mono ?_
 rintro e w_4 ⟨rfl, hb_4⟩
 have hS_4 := ext_trans hS_3 (Nat.le_refl _) hb_4
 refine hK (fun w' => Below (wE).heap.size (wE) w') _ _ hS_4 (fun _ h => h) ?_
 clear hK K hb_4 hS_3
 try simp only [Act.put, zSa, zSz, zSs]
 refine Tx.bar 63 rfl zDk (fun K hK => ?_)
 replace k4 := k4.below hS_4
 replace kb := bel kb hS_4
 clear hS_4
 refine step_storeG rfl _ _ _ rfl g4 (bytn 32 N2) rfl rfl _ k4 (by rw [bytn_len]; kernel_rfl) (by rw [bytn_len, bytn_len]) (bytn_one _ _) (fun w9 k4 hg hsz => ?_)
 have qb := below_gr kb hg hw4 kb.size
 refine hK (fun _ => True) 9999 _ _ ?_
 clear hK K
 try simp only [Act.put]
 try simp only [zSa, zSz, zSs]
 refine Tx.done zKr ?_
 go_wp2_with fail
 exact bodyPost_ret (results_arr2 Tryz.results170 _ _ _ rfl zKr _ k4 (by rw [bytn_len]; kernel_rfl)) rfl ⟨hXe.out, qb⟩
theorem macsum_long (a d : Option Addr) (cap cd : Nat) (key : List UInt8) (ls : List (List UInt8)) (hk : 64 < key.length) (hll : ls.length ≤ 1000) (w : World) (hs : Sl w (.slice a key.length cap) (u8s key)) (hls : Sls w (.slice d ls.length cd) ls) :
 Calls Tryz.prog 170 #[.slice a key.length cap, .slice d ls.length cd] w fun e w' => e = .returned (.agg (bytn 32 (macN key ls.flatten)).toArray) ∧ Below w.heap.size w w' := by
 have hm : Hid (macK key = nb 32 (shaa key)) := zH (by rw [macK, if_pos hk])
 obtain ⟨X, hX⟩ : ∃ X, Ending.returned (.agg (bytn 32 (macN key ls.flatten)).toArray) = X := ⟨_, rfl⟩
 rw [hX]
 rw [macN, hm.out] at hX
 obtain ⟨N0, hN0⟩ : ∃ N, shaa key = N := ⟨_, rfl⟩
 rw [hN0] at hX
 replace hX := zH hX
 have hlen := hs.len
 rw [u8s_len] at hlen
 obtain ⟨-, hlc, hcm⟩ := hlen
 unfold maxLen at hcm
 have cs0 := zH (show ∀ w g, Sls w (.slice (some ⟨g, 0, none⟩) 1 1) [key] → Calls Tryz.prog 19 #[.slice (some ⟨g, 0, none⟩) 1 1] w fun e w' => e = .returned (.agg (bytn 32 N0).toArray) ∧ Below w.heap.size w w' from fun w g h => by
  have q := shsuma_any (some ⟨g, 0, none⟩) 1 [key] w h
  rw [show [key].flatten = key by simp, hN0] at q
  exact q)
 obtain ⟨n0, hn0⟩ : ∃ n, key.length = n := ⟨_, rfl⟩
 rw [hn0] at hs hk hlc ⊢
 replace hn0 := zH hn0
 have hK0 := zH hs
 replace hls := zH hls
 have hnn : (64 : Int) < (n0 : Int) := by omega
 clear hs hm hN0
 go_enter Tryz.func170, Tryz.ntmps170
 go_upto_region 1 with fail
 refine wp_new1 (fun wA hsz k4 kb => ?_)
 replace k4 : Arr wA w.heap.size (bytn 32 0) := k4
 replace hK0 := zH (hK0.out.below kb)
 replace hls := zH (hls.out.below kb)
 clear hsz
 go_upto_region 2 with fail
 go_wp2_with fail
 refine (cs0.out _ _ (Sls.new1 hK0.out _)).mono ?_
 rintro e wB ⟨rfl, hb⟩
 have hb1 := bel (below_alloc wA _) hb
 replace k4 := k4.below hb1
 replace kb := bel kb hb1
 replace hls := zH (hls.out.below hb1)
 clear hb hb1 hK0 cs0
 go_upto_region 3 with (refine wpl_storeG rfl _ _ _ rfl _ (bytn 32 N0) rfl rfl _ (Arr.new _ _ _) (by rw [bytn_len]; kernel_rfl) (by rw [bytn_len]; rfl) (bytn_one _ _) (fun wC k5 hg hsz => ?_))
 have hb := below_fresh hg
 replace k4 := k4.below hb
 replace kb := bel kb hb
 replace hls := zH (hls.out.below hb)
 obtain ⟨g5, hg5⟩ : ∃ g, wB.heap.size = g := ⟨_, rfl⟩
 rw [hg5] at k5 ⊢
 clear hb hsz hg hg5 hnn hk
 rw [nb_u8s] at k5
 have hK := zH (Sl.ofArrN k5 (nb_len 32 N0) zDc)
 obtain ⟨k2, hk2⟩ : ∃ k, nb 32 N0 = k := ⟨_, rfl⟩
 have hn2 : Hid (k2.length = 32) := zH (by rw [← hk2, nb_len])
 rw [hk2] at hK hX
 clear k5 hk2
 go_upto_region 4 with fail
 obtain ⟨a2, n2, c2, hv⟩ : ∃ a n c, Value.slice (some ⟨g5, 0, none⟩) 32 32 = Value.slice a n c := ⟨_, _, _, rfl⟩
 have hv2 := hv
 simp only [Value.slice.injEq] at hv2
 obtain ⟨-, e2, -⟩ := hv2
 have hn2 : Hid (k2.length = n2) := zH (by rw [← e2]; exact hn2.out)
 have hn64 : Hid (n2 ≤ 64) := zH zOm
 rw [hv] at hK ⊢
 clear hv e2
 obtain ⟨wA, hwA⟩ : ∃ wA : World, wA = wC := ⟨_, rfl⟩
 rw [← hwA] at k4 kb hls hK ⊢
 clear hwA
 obtain ⟨vs, hvs, hvl, hv1, hvj⟩ := hls.out.vals
 have hvv := zH hvs
 replace hv1 := zH hv1
 replace hvj := zH hvj
 replace hvl := zH hvl
 clear hvs hls
 have cp1 := zH (show ∀ w', Below wA.heap.size wA w' → Calls Tryz.prog 203 #[.slice a2 n2 c2, .int .u8 54] w' fun e w2 => ∃ g, e = .returned (.slice (some ⟨g, 0, none⟩) 64 64) ∧ w'.heap.size ≤ g ∧ Arr w2 g (u8s (padL k2 54)) ∧ Below w'.heap.size w' w2 from fun w' hb => by
  have q := padded_any a2 c2 k2 54 (by rw [hn2.out]; exact hn64.out) w' (by rw [hn2.out]; exact hK.out.below hb)
  rw [hn2.out] at q
  exact q)
 have cp2 := zH (show ∀ w', Below wA.heap.size wA w' → Calls Tryz.prog 203 #[.slice a2 n2 c2, .int .u8 92] w' fun e w2 => ∃ g, e = .returned (.slice (some ⟨g, 0, none⟩) 64 64) ∧ w'.heap.size ≤ g ∧ Arr w2 g (u8s (padL k2 92)) ∧ Below w'.heap.size w' w2 from fun w' hb => by
  have q := padded_any a2 c2 k2 92 (by rw [hn2.out]; exact hn64.out) w' (by rw [hn2.out]; exact hK.out.below hb)
  rw [hn2.out] at q
  exact q)
 have hp1 : Hid ((padL k2 54).length = 64) := zH (padS_len (by rw [hn2.out]; exact hn64.out) _ _)
 have hp2 : Hid ((padL k2 92).length = 64) := zH (padS_len (by rw [hn2.out]; exact hn64.out) _ _)
 obtain ⟨i, hi, hz0, hz1, hz2⟩ := info_parts info_sl
 have hB0 := Below.refl wA.heap.size wA
 go_wp2_with fail
 refine (cp1.out _ hB0).mono ?_
 rintro e wB ⟨gp, rfl, hgp, kp, hb⟩
 have hpS := zH (Sl.ofArrN kp hp1.out zDc)
 have kbB := hb
 replace k4 := k4.below hb
 clear hB0 hb kp hgp cp1
 have kb2 := bel kb kbB
 have hszB := kb2.size
 go_wp2_with (at_builtin; refine wpList_append_sl rfl _ _ 29 rfl wB.heap.size 22 Tryz.underlying29 hi hz0 hz1 hz2 rfl _ _ _ rfl (own1 wB _ _) _ vs rfl ((hvv.out.below kbB).alloc _) hv1.out ?c2 ?c3 (by simp) (fun v' wC hown hg => ?_))
 case c2 => rw [hvl.out]; unfold maxLen; omega
 case c3 => rw [hvl.out]; omega
 have kbC : Below wB.heap.size wB wC := below_grown (below_alloc wB _) (own1 wB _ _) (by simp) hg
 have hS := Sls.cons (ls := ls) (Sl.of_own hown) (hpS.out.below kbC) hvl.out hvj.out (bel kbB kbC)
 clear hown hg hpS hi hz0 hz1 hz2
 obtain ⟨aS, cS, rfl⟩ : ∃ aS cS, v' = .slice aS (padL k2 54 :: ls).length cS := by
  obtain ⟨vs2, ⟨aS, cS, he, -⟩, hl2, -⟩ := hS
  exact ⟨aS, cS, by rw [he, hl2]⟩
 replace k4 := k4.below kbC
 have kb3 := bel kb2 kbC
 have kbAC := bel kbB kbC
 have cs1 := zH (shsuma_any _ _ _ wC hS)
 obtain ⟨N1, hN1⟩ : ∃ N, shaa (padL k2 54 :: ls).flatten = N := ⟨_, rfl⟩
 rw [hN1] at cs1
 rw [show padL k2 54 ++ ls.flatten = (padL k2 54 :: ls).flatten from rfl] at hX
 replace hN1 := zH hN1
 obtain ⟨n3, hn3⟩ : ∃ n, (padL k2 54 :: ls).length = n := ⟨_, rfl⟩
 rw [hn3] at cs1 ⊢
 clear hS hn3 kb kb2 kbB kbC hszB hvv
 go_wp2_with fail
 refine cs1.out.mono ?_
 rintro e wD ⟨rfl, hb⟩
 replace k4 := k4.below hb
 have kb := bel kb3 hb
 have kbA := bel kbAC hb
 clear hb kb3 kbAC cs1
 go_upto_region 5 with (refine wpl_storeG rfl _ _ _ rfl _ (bytn 32 N1) rfl rfl _ (Arr.new _ _ _) (by rw [bytn_len]; kernel_rfl) (by rw [bytn_len]; rfl) (bytn_one _ _) (fun wE k6 hg hsz => ?_))
 have hb := below_fresh hg
 have lt4 := k4.lt
 replace k4 := k4.below hb
 replace kb := bel kb hb
 replace kbA := bel kbA hb
 obtain ⟨g6, hg6⟩ : ∃ g, wD.heap.size = g := ⟨_, rfl⟩
 rw [hg6] at k6 lt4 ⊢
 clear hb hsz hg hg6
 rw [nb_u8s] at k6
 obtain ⟨g4, hg4⟩ : ∃ g, w.heap.size = g := ⟨_, rfl⟩
 rw [hg4] at k4 lt4 ⊢
 have hw4 : w.heap.size ≤ g4 := by omega
 clear hg4
 obtain ⟨N2, hN2⟩ : ∃ N, shaa [padL k2 92, nb 32 N1].flatten = N := ⟨_, rfl⟩
 have cs2 := zH (show ∀ w g, Sls w (.slice (some ⟨g, 0, none⟩) 2 2) [padL k2 92, nb 32 N1] → Calls Tryz.prog 19 #[.slice (some ⟨g, 0, none⟩) 2 2] w fun e w' => e = .returned (.agg (bytn 32 N2).toArray) ∧ Below w.heap.size w w' from fun w g h => by rw [← hN2]; exact shsuma_any _ _ [padL k2 92, nb 32 N1] w h)
 have hXe : Hid (Ending.returned (.agg (bytn 32 N2).toArray) = X) := zH (by rw [← hX.out, hN1.out, ← hN2]; simp)
 clear hN2
 refine Tx.start (fun w' => Below (wE).heap.size (wE) w') 5 6 rfl zKr ?_
 have hS_5 : Below (wE).heap.size (wE) (World.drew wE) := (Below.refl _ _).drew
 refine Tx.seg2 (A := ?_) 4 5 zKr (by exact hS_5) [0, 2] zKr ?_ ?_
 rotate_left
 · intro w' hB
   exact zRd
 refine Tx.eff 1 7 rfl zDk (fun K hK => ?_)
 go_simp
 refine (cp2.out _ (bel kbA hS_5)).mono ?_
 rintro e w_6 ⟨gq, rfl, hgq, kq, hb_6⟩
 have hS_6 := ext_trans hS_5 (Nat.le_refl _) hb_6
 refine hK (fun w' => Below (wE).heap.size (wE) w') _ _ hS_6 (fun _ h => h) ?_
 clear hK K hS_5
 try simp only [Act.put, zSa, zSz, zSs]
 have pq := Sl.ofArrN kq hp2.out zDc
 have p6 := Sl.ofArrN (k6.below hS_6) (nb_len 32 N1) zDc
 refine Tx.eff 3 15 rfl zDk (fun K hK => ?_)
 go_simp
 refine hK (fun w' => Below (wE).heap.size (wE) w') _ _ (ext_trans hS_6 (Nat.le_refl _) (below_alloc _ _)) (fun _ h => h) ?_
 clear hK K
 try simp only [Act.put, zSa, zSz, zSs]
 refine Tx.newF (F := fun w' => Sls w' (.slice (some ⟨(w_6).heap.size, 0, none⟩) 2 2) [padL k2 92, nb 32 N1]) (w0 := w_6) (Sls.new2 pq p6 _) (fun w1 h => h.below (Below.refl _ _).drew) (by first | exact .inl rfl | exact .inr rfl) (fun w_7 hS5 hb_7 => ?_)
 have hS_7 : Below (wE).heap.size (wE) w_7 := by first | exact hb_7 | exact ext_trans hS_6 (Nat.le_refl _) hb_7
 clear hS_6
 refine Tx.eff 4 31 rfl zDk (fun K hK => ?_)
 go_simp
 refine (cs2.out _ _ hS5).mono ?_
 rintro e w_8 ⟨rfl, hb_8⟩
 have hS_8 := ext_trans hS_7 (Nat.le_refl _) hb_8
 refine hK (fun w' => Below (wE).heap.size (wE) w') _ _ hS_8 (fun _ h => h) ?_
 clear hK K hb_8 hS_7
 try simp only [Act.put, zSa, zSz, zSs]
 refine Tx.bar 63 rfl zDk (fun K hK => ?_)
 replace k4 := k4.below hS_8
 replace kb := bel kb hS_8
 clear hS_8
 refine step_storeG rfl _ _ _ rfl g4 (bytn 32 N2) rfl rfl _ k4 (by rw [bytn_len]; kernel_rfl) (by rw [bytn_len, bytn_len]) (bytn_one _ _) (fun w9 k4 hg hsz => ?_)
 have qb := below_gr kb hg hw4 kb.size
 refine hK (fun _ => True) 9999 _ _ ?_
 clear hK K
 try simp only [Act.put]
 try simp only [zSa, zSz, zSs]
 refine Tx.done zKr ?_
 go_wp2_with fail
 exact bodyPost_ret (results_arr2 Tryz.results170 _ _ _ rfl zKr _ k4 (by rw [bytn_len]; kernel_rfl)) rfl ⟨hXe.out, qb⟩
theorem macsum_any (a d : Option Addr) (cap cd : Nat) (key : List UInt8) (ls : List (List UInt8)) (hll : ls.length ≤ 1000) (w : World) (hs : Sl w (.slice a key.length cap) (u8s key)) (hls : Sls w (.slice d ls.length cd) ls) :
 Calls Tryz.prog 170 #[.slice a key.length cap, .slice d ls.length cd] w fun e w' => e = .returned (.agg (bytn 32 (macN key ls.flatten)).toArray) ∧ Below w.heap.size w w' := by
 by_cases h : 64 < key.length
 · exact macsum_long a d cap cd key ls h hll w hs hls
 · exact macsum_short a d cap cd key ls zOm hll w hs hls
theorem scLess_any (a : Nat) (ha : a < 256 ^ 32) (w : World) :
 Calls Tryz.prog 41 #[.agg (byts a).toArray] w fun e w' => e = .returned (.bool (decide (a < qN))) ∧ Below w.heap.size w w' := by
 go_enter Tryz.func41, Tryz.ntmps41
 go_upto_region 1 with fail
 refine wp_new1 (fun W hsz h1 hb0 => ?_)
 go_wp2_with (first | (refine zLd ?_))
 refine (limOf_any a ha _).mono ?_
 rintro e w2 ⟨rfl, hb2⟩
 have kb := bel hb0 hb2
 clear hb0 hb2
 go_wp2_with fail
 refine (order_any _).mono ?_
 rintro e w3 ⟨rfl, hb3⟩
 have kb := bel kb hb3
 go_wp2_with fail
 refine (limLess_any a qN zOm zDc _).mono ?_
 rintro e w4 ⟨rfl, hb4⟩
 have kb := bel kb hb4
 go_wp2_with fail
 go_ret
 exact ⟨rfl, kb⟩
theorem scMul_any (a b : Nat) (ha : a < 256 ^ 32) (hb : b < 256 ^ 32) (w : World) :
 Calls Tryz.prog 39 #[.agg (byts a).toArray, .agg (byts b).toArray] w fun e w' => e = .returned (.agg (byts (a * b % qN)).toArray) ∧ Below w.heap.size w w' := by
 go_enter Tryz.func39, Tryz.ntmps39
 go_upto_region 1 with fail
 refine wp_new3 (fun W hsz h1 h2 h3 hb0 => ?_)
 refine Tx.start (fun w' => Below (W).heap.size (W) w') 6 7 rfl zKr ?_
 have hS_1 : Below (W).heap.size (W) (World.drew W) := (Below.refl _ _).drew
 refine Tx.seg (A := ?_) 5 5 zKr (by exact (Below.refl _ _).drew) [0, 2] zKr ?_ ?_
 rotate_left
 · intro w' hB
   have e1 := h1.below hB
   have e2 := h2.below hB
   exact zRd
 refine Tx.poolB 1 63 [(1, 7), (3, 9), (4, 10), (5, 5)] [(false, []), (false, []), (false, [(1, 7), (3, 9)]), (false, [])] [(1, Ph.is (.agg (lims 4 a).toArray)), (3, Ph.is (.agg (lims 4 b).toArray)), (4, Ph.is (.agg (lims 8 (a * b)).toArray)), (5, Ph.arr W.heap.size (List.replicate 8 (.int .u64 0)))] zKr zKr (by first | assumption | exact (Below.refl _ _).drew) ?_ ?_
 · refine ⟨⟨_, rfl, ?_⟩, ⟨_, rfl, ?_⟩, ⟨_, rfl, ?_⟩, ⟨_, rfl, ?_⟩, trivial⟩
   · intro vs w1 hS hE hD K hK
     clear hD
     simp only [fillL, Act.put, zSa, zSz, zSs] at hK ⊢
     go_simp
     refine (limOf_any a ha _).mono ?_
     rintro e w2 ⟨rfl, hb2⟩
     exact hK _ _ rfl hb2 nofun
   · intro vs w1 hS hE hD K hK
     clear hD
     simp only [fillL, Act.put, zSa, zSz, zSs] at hK ⊢
     go_simp
     refine (limOf_any b hb _).mono ?_
     rintro e w2 ⟨rfl, hb2⟩
     exact hK _ _ rfl hb2 nofun
   · intro vs w1 hS hE hD K hK
     obtain ⟨q1, q3, -⟩ := hD
     simp only [fillL, Act.put, zSa, zSz, zSs] at hK ⊢
     rw [show vs 1 = _ from q1] at hK ⊢
     clear q1
     rw [show vs 3 = _ from q3] at hK ⊢
     clear q3
     go_simp
     have := limMul_any a b zOm w1
     rw [Nat.mod_eq_of_lt zOm] at this
     refine this.mono ?_
     rintro e w2 ⟨rfl, hb2⟩
     exact hK _ _ rfl hb2 nofun
   · intro vs w1 hS hE hD K hK
     clear hD
     simp only [fillL, Act.put, zSa, zSz, zSs] at hK ⊢
     go_simp
     exact hK _ _ ⟨_, rfl, Nat.le_trans zLe hE.size, Arr.new _ _ _⟩ (below_alloc _ _) (fun _ => ⟨_, rfl, Nat.le_refl _⟩)
 intro vs w_p hS_p hE_p hP hD
 obtain ⟨q1, q3, q4, q5, -⟩ := hP
 simp only [fillL, Act.put, zSa, zSz, zSs]
 rw [show vs 1 = _ from q1]
 clear q1
 rw [show vs 3 = _ from q3]
 clear q3
 rw [show vs 4 = _ from q4]
 clear q4
 obtain ⟨g5, e5, hg5, ha5⟩ := q5
 rw [e5]
 clear e5 hD vs
 refine Tx.bar 127 rfl zDk (fun K hK => ?_)
 refine step_store_arr rfl _ _ _ rfl _ _ rfl rfl _ zAm zLn zLm zOn ?_
 refine hK (fun _ => True) 9999 _ _ ?_
 clear hK K
 try simp only [Act.put]
 try simp only [zSa, zSz, zSs]
 refine Tx.done zKr ?_
 have k3 : Arr W (w.heap.size + 1 + 1) (byts 0) := h3
 have hn3 := k3.lt
 have k3 := (k3.below hS_p).row_other (k := g5) zOm (lims 8 (a * b)).toArray
 have k5 := ha5.setRow (lims 8 (a * b))
 have kb := below_setRow (bel hb0 hS_p) (g := g5) zOm (lims 8 (a * b)).toArray
 generalize w_p.setRow g5 (lims 8 (a * b)).toArray = w5 at *
 clear ha5 hE_p hS_p h1 h2 h3
 have hr := reduce_any (digs 18446744073709551616 8 (a * b)) g5 0 8 w5 (by rw [digs_len]; decide) (by rw [digs_len]; decide) (digs_lt _ _ _ zDc) (fun j x hj => by rw [Nat.zero_add]; exact k5.cell (us_get _ j x hj))
 rw [digs_len, val_digs, Nat.mod_eq_of_lt (Nat.lt_of_lt_of_le (Nat.mul_lt_mul'' ha hb) zDc)] at hr
 have hr := zH hr
 clear ha hb
 go_wp2_with fail
 refine hr.out.mono ?_
 rintro e w6 ⟨rfl, hb6⟩
 have k3 := k3.below hb6
 have kb := bel kb hb6
 clear hr hb6 k5
 go_wp2_with fail
 refine (limNum_any _ _).mono ?_
 rintro e w7 ⟨rfl, hb7⟩
 have k3 := k3.below hb7
 have kb := bel kb hb7
 clear hb7
 go_wp2_with (first | (refine zSt ?_))
 exact bodyPost_ret (results_arr2 Tryz.results39 _ _ _ rfl zKr _ (by first | assumption | exact Arr.setRow zAm _) zLn) rfl ⟨rfl, below_setRow kb zOm _⟩
theorem info_u64 : (Tryz.prog.info? 87).map (fun i => (i.zero, i.size, i.bytes)) = some (some (.int .u64 0), 1, 8) := by kernel_rfl
theorem Sl.of_arr {w : World} {g : Nat} {xs : List Value} (h : Arr w g xs) (hm : xs.length ≤ maxLen) : Sl w (.slice (some ⟨g, 0, none⟩) xs.length xs.length) xs :=
 ⟨some ⟨g, 0, none⟩, xs.length, rfl, Nat.le_refl _, hm, fun h => (by cases h), fun x hx => by
  cases hx
  intro j u hu
  rw [Addr.add_lit, Nat.zero_add]
  exact h.cell hu⟩
theorem sum_val (a b : Nat) (ha : a < 18446744073709551616 ^ 4) (hb : b < 18446744073709551616 ^ 4) : val 18446744073709551616 (digs 18446744073709551616 4 (a + b) ++ [carry 18446744073709551616 4 a b]) = a + b := by
 rw [val_append, val_digs, digs_len]
 unfold carry
 rw [Nat.mod_eq_of_lt ha, Nat.mod_eq_of_lt hb]
 simp only [val, Nat.mul_zero, Nat.add_zero]
 exact Nat.mod_add_div _ _
theorem scAdd_any (a b : Nat) (ha : a < 256 ^ 32) (hb : b < 256 ^ 32) (w : World) :
 Calls Tryz.prog 38 #[.agg (byts a).toArray, .agg (byts b).toArray] w fun e w' => e = .returned (.agg (byts ((a + b) % qN)).toArray) ∧ Below w.heap.size w w' := by
 go_enter Tryz.func38, Tryz.ntmps38
 go_upto_region 1 with fail
 refine wp_new3 (fun W hsz h1 h2 h3 hb0 => ?_)
 refine Tx.start (fun w' => Below (W).heap.size (W) w') 9 11 rfl zKr ?_
 have hS_2 : Below (W).heap.size (W) (World.drew W) := (Below.refl _ _).drew
 refine Tx.seg (A := ?_) 9 5 zKr (by exact (Below.refl _ _).drew) [0, 2] zKr ?_ ?_
 rotate_left
 · intro w' hB
   have e1 := h1.below hB
   have e2 := h2.below hB
   exact zRd
 refine Tx.poolB 2 511 [(1, 9), (3, 11), (4, 12), (5, 7), (6, 13), (7, 14), (8, 5)] [(false, []), (false, []), (false, [(1, 9), (3, 11)]), (true, [(4, 12)]), (true, [(5, 7)]), (true, [(5, 7)]), (false, [])] [(1, Ph.is (.agg (lims 4 a).toArray)), (3, Ph.is (.agg (lims 4 b).toArray)), (4, Ph.is (.tuple #[.agg (lims 4 (a + b)).toArray, .int .u64 (carry 18446744073709551616 4 a b : Nat)])), (5, Ph.is (.tuple #[.agg (lims 4 (a + b)).toArray, .int .u64 (carry 18446744073709551616 4 a b : Nat)])), (6, Ph.is (.agg (lims 4 (a + b)).toArray)), (7, Ph.is (.int .u64 (carry 18446744073709551616 4 a b : Nat))), (8, Ph.arr W.heap.size (lims 4 0))] zKr zKr (by first | assumption | exact (Below.refl _ _).drew) ?_ ?_
 · refine ⟨⟨_, rfl, ?_⟩, ⟨_, rfl, ?_⟩, ⟨_, rfl, ?_⟩, ⟨_, rfl, ?_⟩, ⟨_, rfl, ?_⟩, ⟨_, rfl, ?_⟩, ⟨_, rfl, ?_⟩, trivial⟩
   · intro vs w1 hS hE hD K hK
     clear hD
     simp only [fillL, Act.put, zSa, zSz, zSs] at hK ⊢
     go_simp
     refine (limOf_any a ha _).mono ?_
     rintro e w2 ⟨rfl, hb2⟩
     exact hK _ _ rfl hb2 nofun
   · intro vs w1 hS hE hD K hK
     clear hD
     simp only [fillL, Act.put, zSa, zSz, zSs] at hK ⊢
     go_simp
     refine (limOf_any b hb _).mono ?_
     rintro e w2 ⟨rfl, hb2⟩
     exact hK _ _ rfl hb2 nofun
   · intro vs w1 hS hE hD K hK
     obtain ⟨q1, q3, -⟩ := hD
     simp only [fillL, Act.put, zSa, zSz, zSs] at hK ⊢
     rw [show vs 1 = _ from q1] at hK ⊢
     clear q1
     rw [show vs 3 = _ from q3] at hK ⊢
     clear q3
     go_simp
     refine (limAdd_any a b _).mono ?_
     rintro e w2 ⟨rfl, hb2⟩
     exact hK _ _ rfl hb2 nofun
   · intro vs w1 hS hE hD
     obtain ⟨q4, -⟩ := hD
     simp only [fillL, Act.put, zSa, zSz, zSs] at ⊢
     rw [show vs 4 = _ from q4] at ⊢
     clear q4
     refine ⟨_, rfl, fun w' => (by first | (go_simp; done) | (go_simp; rfl)), rfl, nofun⟩
   · intro vs w1 hS hE hD
     obtain ⟨q5, -⟩ := hD
     simp only [fillL, Act.put, zSa, zSz, zSs] at ⊢
     rw [show vs 5 = _ from q5] at ⊢
     clear q5
     refine ⟨_, rfl, fun w' => (by first | (go_simp; done) | (go_simp; rfl)), rfl, nofun⟩
   · intro vs w1 hS hE hD
     obtain ⟨q5, -⟩ := hD
     simp only [fillL, Act.put, zSa, zSz, zSs] at ⊢
     rw [show vs 5 = _ from q5] at ⊢
     clear q5
     refine ⟨_, rfl, fun w' => (by first | (go_simp; done) | (go_simp; rfl)), rfl, nofun⟩
   · intro vs w1 hS hE hD K hK
     clear hD
     simp only [fillL, Act.put, zSa, zSz, zSs] at hK ⊢
     go_simp
     exact hK _ _ ⟨_, rfl, Nat.le_trans zLe hE.size, Arr.new _ _ _⟩ (below_alloc _ _) (fun _ => ⟨_, rfl, Nat.le_refl _⟩)
 intro vs w_p hS_p hE_p hP hD
 obtain ⟨q1, q3, q4, q5, q6, q7, q8, -⟩ := hP
 simp only [fillL, Act.put, zSa, zSz, zSs]
 rw [show vs 1 = _ from q1]
 clear q1
 rw [show vs 3 = _ from q3]
 clear q3
 rw [show vs 4 = _ from q4]
 clear q4
 rw [show vs 5 = _ from q5]
 clear q5
 rw [show vs 6 = _ from q6]
 clear q6
 rw [show vs 7 = _ from q7]
 clear q7
 obtain ⟨g8, e8, hg8, ha8⟩ := q8
 rw [e8]
 clear e8 hD vs
 refine Tx.bar 1023 rfl zDk (fun K hK => ?_)
 refine step_store_arr rfl _ _ _ rfl _ _ rfl rfl _ zAm zLn zLm zOn ?_
 refine hK (fun _ => True) 9999 _ _ ?_
 clear hK K
 try simp only [Act.put]
 try simp only [zSa, zSz, zSs]
 refine Tx.seg (A := ?_) 0 2047 zKr (by exact trivial) [10] zKr ?_ ?_
 rotate_left
 · intro w' hB
   exact zRd
 refine Tx.done zKr ?_
 have k3 : Arr W (w.heap.size + 1 + 1) (byts 0) := h3
 have hn3 := k3.lt
 have k3 := (k3.below hS_p).row_other (k := g8) zOm (lims 4 (a + b)).toArray
 have k5 := ha8.setRow (lims 4 (a + b))
 have kb := below_setRow (bel hb0 hS_p) (g := g8) zOm (lims 4 (a + b)).toArray
 generalize w_p.setRow g8 (lims 4 (a + b)).toArray = w5 at *
 clear ha8 hE_p hS_p h1 h2 h3
 have hc1 := carry_le 18446744073709551616 4 a b zDc
 have hv := sum_val a b zOm zOm
 obtain ⟨c, hc⟩ : ∃ c, carry 18446744073709551616 4 a b = c := ⟨_, rfl⟩
 rw [hc] at hc1 hv ⊢
 have hv := zH hv
 clear ha hb hc
 obtain ⟨i, hi, hz0, hz1, hz2⟩ := info_parts info_u64
 have hS4 : ∀ o : Obj, Sl (w5.alloc o) (.slice (some ⟨g8, 0, none⟩) 4 4) (lims 4 (a + b)) := fun o => by
  have := Sl.of_arr (k5.alloc o) (by rw [lims_len]; decide)
  rwa [lims_len] at this
 have hlv := lims_len 4 (a + b)
 go_wp2_with (at_builtin; refine wpList_append_new rfl _ _ 154 rfl 87 Tryz.underlying154 hi hz0 hz1 hz2 rfl rfl (hS4 _) rfl (Sl.new1 _ _ _) ?c1 ?c2 ?c3 ?c4 ?_)
 case c1 => rw [hlv]; simp
 case c2 => intro u hu; simp at hu; rw [hu]; rfl
 case c3 => simp [maxLen]
 case c4 => simp
 intro v' w6 hown hb6
 have hus : lims 4 (a + b) ++ [Value.int .u64 (c : Int)] = us (digs 18446744073709551616 4 (a + b) ++ [c]) := by simp [lims_us, us]
 have hsl := Sl.of_own hown
 rw [hus] at hsl
 have kb := bel1 kb hb6
 have k3 := k3.below1 hb6
 obtain ⟨d, cap, rfl, hl1, hl2, hl3, hl4⟩ := id hsl
 have hlen5 : (us (digs 18446744073709551616 4 (a + b) ++ [c])).length = 5 := by simp [us_len, digs_len]
 obtain ⟨bb, oo, rfl, -, -, -, hcc⟩ := hsl.at (by rw [hlen5]; decide)
 rw [hlen5]
 have hr := reduce_any (digs 18446744073709551616 4 (a + b) ++ [c]) bb oo cap w6 (by simp) (by simp [digs_len]) (by
  intro x hx
  rcases List.mem_append.1 hx with hx | hx
  · exact digs_lt _ _ _ zDc x hx
  · simp at hx; omega) (fun j x hj => hcc j _ (us_get _ _ _ hj))
 have hlen6 : (digs 18446744073709551616 4 (a + b) ++ [c]).length = 5 := by simp [digs_len]
 rw [hlen6, hv.out] at hr
 have hr := zH hr
 clear hsl hl1 hl2 hl3 hl4 hown hus hcc hlen5 hlen6 hv hS4 hlv
 go_wp2_with fail
 refine hr.out.mono ?_
 rintro e w7 ⟨rfl, hb7⟩
 have k3 := k3.below hb7
 have kb := bel kb hb7
 clear hr hb7
 go_wp2_with fail
 refine (limNum_any _ _).mono ?_
 rintro e w8 ⟨rfl, hb8⟩
 have k3 := k3.below hb8
 have kb := bel kb hb8
 go_wp2_with (first | (refine zSt ?_))
 exact bodyPost_ret (results_arr2 Tryz.results38 _ _ _ rfl zKr _ (by first | assumption | exact Arr.setRow zAm _) zLn) rfl ⟨rfl, below_setRow kb zOm _⟩
end Go.Proofs.YtncnlfpiondpnaaGreat
