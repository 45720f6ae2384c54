/- TopSigned: part 39 of its proof: lemmas and contracts, each with its conditions in its own statement; the last part holds the law itself. -/
import Derived.Test.YtncnlfpiondpnaaGreatJt38

set_option maxHeartbeats 4000000
set_option maxRecDepth 100000
namespace Go.Proofs.YtncnlfpiondpnaaGreat
open Go.RowKit
theorem byts_bytn (R : Nat) : byts R = bytn 32 R := by rw [byts_nb, nb_u8s]
def wrapB (T D X : Nat) : List UInt8 := nb 32 (lmulN D 9) ++ sealS (wkN (lmulN D 9) (lmulN D T)) 0 (nb 32 X) (nb 32 T)
theorem wrapB_len (T D X : Nat) : (wrapB T D X).length = 80 := by rw [wrapB, List.length_append, sealS_len, nb_len, nb_len]
theorem wrap_any (T D X : Nat) (hT : T < 256 ^ 32) (hD : D < 256 ^ 32) (hz : lmulN D T ≠ 0) (w : World) :
 Calls Tryz.prog 23 #[.agg (byts T).toArray, .agg (byts D).toArray, .agg (byts X).toArray] w fun e w' => ∃ g c, e = .returned (.tuple #[.slice (some ⟨g, 0, none⟩) 80 c, .int .i64 0]) ∧ Sl w' (.slice (some ⟨g, 0, none⟩) 80 c) (u8s (wrapB T D X)) ∧ Below w.heap.size w w' := by
 have hB : Hid (wrapB T D X = nb 32 (lmulN D 9) ++ sealS (wkN (lmulN D 9) (lmulN D T)) 0 (nb 32 X) (nb 32 T)) := zH rfl
 obtain ⟨G, hG⟩ : ∃ G, wrapB T D X = G := ⟨_, rfl⟩
 rw [hG] at hB ⊢
 obtain ⟨p, hp⟩ : ∃ r, lmulN D 9 = r := ⟨_, rfl⟩
 obtain ⟨s, hs⟩ : ∃ r, lmulN D T = r := ⟨_, rfl⟩
 have c1 := zH (fun w => lpublic_r (zH hp) hD w)
 have c2 := zH (fun w => lshared_r (zH hs) hD hT (e0 := 0) (by rw [if_neg (by rw [← hs]; exact hz)]) w)
 have c3 := zH (fun w => show Calls Tryz.prog 66 #[.agg (byts p).toArray, .agg (byts s).toArray] w fun r w' => r = .returned (.agg (bytn 32 (wkN p s)).toArray) ∧ Below w.heap.size w w' from by rw [byts_bytn, byts_bytn]; exact wkey_any p s w)
 rw [hp, hs] at hB
 obtain ⟨K, hK⟩ : ∃ r, wkN p s = r := ⟨_, rfl⟩
 rw [hK] at c3 hB
 obtain ⟨Z, hZ⟩ : ∃ r, sealS K 0 (nb 32 X) (nb 32 T) = r := ⟨_, rfl⟩
 have hZl : Hid (Z.length = 48) := zH (by rw [← hZ, sealS_len, nb_len])
 have c4 := zH (fun w' g1 g2 (h1 : Sl w' (.slice (some ⟨g1, 0, none⟩) 32 32) (u8s (nb 32 X))) (h2 : Sl w' (.slice (some ⟨g2, 0, none⟩) 32 32) (u8s (nb 32 T))) => show Calls Tryz.prog 65 #[.agg (bytn 32 K).toArray, .agg (bytn 12 0).toArray, .slice (some ⟨g1, 0, none⟩) 32 32, .slice (some ⟨g2, 0, none⟩) 32 32] w' (fun e w'' => ∃ g c, e = .returned (.slice (some ⟨g, 0, none⟩) 48 c) ∧ Sl w'' (.slice (some ⟨g, 0, none⟩) 48 c) (u8s Z) ∧ Below w'.heap.size w' w'') from by
  have q := aseals_any K 0 (some ⟨g1, 0, none⟩) (some ⟨g2, 0, none⟩) 32 32 (nb 32 X) (nb 32 T) (by rw [nb_len]; decide) (by rw [nb_len]; decide) w' (by rw [nb_len]; exact h1) (by rw [nb_len]; exact h2)
  rw [nb_len, nb_len] at q
  unfold SRet at q
  rw [hZ, hZl.out] at q
  exact q)
 rw [hZ] at hB
 clear hG hp hs hK hZ hz hT hD
 go_enter Tryz.func23, Tryz.ntmps23
 go_upto_region 1 with fail
 refine wp_new3 (fun W hsz k3 k4 k5 kb => ?_)
 clear hsz
 go_wp2_with (refine zLd ?_)
 refine (c1.out _).mono ?_
 rintro e w_5 ⟨rfl, hb_5⟩
 have k3 := k3.below hb_5
 have k4 := k4.below hb_5
 have k5 := k5.below hb_5
 have kb := bel kb hb_5
 clear hb_5
 go_upto_region 2 with (first | (refine zLd ?_) | (refine zSt ?_))
 have hg_k8_k3 := k3.lt
 have hg_k8_k4 := k4.lt
 have hg_k8_k5 := k5.lt
 refine code_new (fun w_6 k8 hnew => ?_)
 have k3 := k3.below hnew
 have k4 := k4.below hnew
 have k5 := k5.below hnew
 have kb := bel kb hnew
 clear hnew
 generalize (w_5).heap.size = g_k8 at k8 hg_k8_k3 hg_k8_k4 hg_k8_k5 ⊢
 go_wp2_with (refine zLd ?_)
 refine (c2.out _).mono ?_
 rintro e w_7 ⟨rfl, hb_7⟩
 have k3 := k3.below hb_7
 have k4 := k4.below hb_7
 have k5 := k5.below hb_7
 have k8 := k8.below hb_7
 have kb := bel kb hb_7
 clear hb_7
 go_upto_region 3 with (first | (refine zLd ?_) | (refine zSt ?_))
 have hg_k9_k3 := k3.lt
 have hg_k9_k4 := k4.lt
 have hg_k9_k5 := k5.lt
 have hg_k9_k8 := k8.lt
 refine code_new (fun w_8 k9 hnew => ?_)
 have k3 := k3.below hnew
 have k4 := k4.below hnew
 have k5 := k5.below hnew
 have k8 := k8.below hnew
 have kb := bel kb hnew
 clear hnew
 generalize (w_7).heap.size = g_k9 at k9 hg_k9_k3 hg_k9_k4 hg_k9_k5 hg_k9_k8 ⊢
 go_upto_region 5 with fail
 have sX := zH (show Sl w_8 (.slice (some ⟨w.heap.size + 1 + 1, 0, none⟩) 32 32) (u8s (nb 32 X)) from Sl.ofArrN (by rw [← byts_nb]; exact k5) (nb_len _ _) zDc)
 have sT := zH (show Sl w_8 (.slice (some ⟨w.heap.size, 0, none⟩) 32 32) (u8s (nb 32 T)) from Sl.ofArrN (by rw [← byts_nb]; exact k3) (nb_len _ _) zDc)
 have sE := zH (show Sl w_8 (.slice (some ⟨g_k8, 0, none⟩) 32 32) (u8s (nb 32 p)) from Sl.ofArrN (by rw [← byts_nb]; exact k8) (nb_len _ _) zDc)
 obtain ⟨i, hi, hz0, hz1, hz2⟩ := info_parts info_u8
 refine Tx.start (fun w' => Below (w_8).heap.size (w_8) w') 9999 11 rfl zKr ?_
 have hS_9 : Below (w_8).heap.size (w_8) (World.drew w_8) := (Below.refl _ _).drew
 refine Tx.seg (A := ?_) 5 119 zKr (by exact hS_9) [0, 1, 2, 4, 5, 6] zKr ?_ ?_
 rotate_left
 · intro w' hB
   have y8 := k8.below hB
   have y9 := k9.below hB
   iterate 6 (first | (refine rd_skip rfl rfl ?_; simp only [Act.put, zSa, zSz, zSs]) | (refine rd_load_arr rfl rfl _ _ rfl _ rfl zDk _ zAm zLn ?_; simp only [Act.put, zSa, zSz, zSs]) | (refine rd_builta rfl rfl _ _ rfl (bytn 12 0).toArray zKr ?_; simp only [Act.put, zSa, zSz, zSs]) | (refine rd_take (v := ?_) rfl rfl ?_ ?_; rotate_left; (focus (go_simp; try (with_reducible rfl))); simp only [Act.put, zSa, zSz, zSs]))
   exact rd_nil
 refine Tx.eff 3 127 rfl zDk (fun K hK => ?_)
 go_simp
 refine (c3.out _).mono ?_
 rintro e w_10 ⟨rfl, hb_10⟩
 have hS_10 := ext_trans hS_9 (Nat.le_refl _) hb_10
 refine hK (fun w' => Below (w_8).heap.size (w_8) w') _ _ hS_10 (fun _ h => h) ?_
 clear hK K hb_10 hS_9
 try simp only [Act.put, zSa, zSz, zSs]
 refine Tx.eff 7 255 rfl zDk (fun K hK => ?_)
 go_simp
 refine (c4.out _ _ _ (sX.out.below hS_10) (sT.out.below hS_10)).mono ?_
 rintro e w_11 ⟨g, c, rfl, hz, hb_11⟩
 have hS_11 := ext_trans hS_10 (Nat.le_refl _) hb_11
 refine hK (fun w' => Below (w_8).heap.size (w_8) w') _ _ hS_11 (fun _ h => h) ?_
 clear hK K hS_10
 try simp only [Act.put, zSa, zSz, zSs]
 refine Tx.eff 8 511 rfl zDk (fun K hK => ?_)
 refine step_append_new rfl _ _ 22 rfl 5 Tryz.underlying22 hi hz0 hz1 hz2 rfl rfl (sE.out.below (hS_11)) rfl hz ?c1 (u8s_one _) ?c2 ?c3 ?_
 case c1 => rw [u8s_len, u8s_len, nb_len, hZl.out]; decide
 case c2 => rw [u8s_len, hZl.out]; decide
 case c3 => rw [u8s_len, hZl.out]; decide
 intro v3 w12 hown hb12
 rw [u8s_len, hZl.out, ← u8s_append, ← hB.out] at hown
 obtain ⟨g12, c12, rfl, -⟩ := own_range hown zDc
 have hsl := Sl.of_own hown
 have hS_12 := ext_trans hS_11 (Nat.le_refl _) hb12
 refine hK (fun w' => Below (w_8).heap.size (w_8) w') _ _ hS_12 (fun _ h => h) ?_
 clear hK K
 try simp only [Act.put, zSa, zSz, zSs]
 refine Tx.seg (A := ?_) 0 2047 zKr (by exact hS_12) [9, 10] zKr ?_ ?_
 rotate_left
 · intro w' hB
   exact zRd
 refine Tx.done zKr ?_
 have kb := bel kb hS_12
 go_wp2_with fail
 go_ret2
 exact ⟨g12, c12, rfl, hsl, kb⟩
theorem putAt_mid {A old cs C : List Value} {o : Nat} (ho : A.length = o) (hl : old.length = cs.length) : putAt o cs (A ++ (old ++ C)) = A ++ (cs ++ C) := by
 subst ho
 rw [putAt, List.take_left]
 congr 2
 rw [← List.append_assoc]
 exact List.drop_left' (by simp [hl])
theorem copy_mid {A old cs C : List Value} {o n : Nat} (ho : A.length = o) (hl : old.length = cs.length) (hn : cs.length = n) : (A ++ (old ++ C)).take o ++ cs.take n ++ (A ++ (old ++ C)).drop (o + n) = A ++ (cs ++ C) := by
 have q := putAt_mid (C := C) ho hl
 subst hn
 rw [putAt] at q
 rw [List.take_of_length_le (Nat.le_refl _), List.append_assoc]
 exact q
section
variable (v b : Int) (root : Nat) (wv : Value) (i : Int) (k R1 s1 R s : Nat)
theorem mnf_set0 (x : Int) : (mnfL v b root wv i k R1 s1 R s).set 0 (.int .i64 x) = mnfL x b root wv i k R1 s1 R s := rfl
theorem mnf_set1 (x : Int) : (mnfL v b root wv i k R1 s1 R s).set 1 (.int .i64 x) = mnfL v x root wv i k R1 s1 R s := rfl
theorem mnf_put2 (x : Nat) : putAt 2 (bytn 32 x) (mnfL v b root wv i k R1 s1 R s) = mnfL v b x wv i k R1 s1 R s :=
 putAt_mid (A := [.int .i64 v, .int .i64 b]) (old := bytn 32 root) rfl (by rw [bytn_len, bytn_len])
theorem mnf_a (x : Int) : mnfL v b root wv x k R1 s1 R s = (.int .i64 v :: .int .i64 b :: (bytn 32 root ++ [wv])) ++ ([.int .i64 x] ++ (byts k ++ sgL R1 s1 ++ sgL R s)) := by simp [mnfL, crtL]
theorem mnf_set35 (x : Int) : (mnfL v b root wv i k R1 s1 R s).set 35 (.int .i64 x) = mnfL v b root wv x k R1 s1 R s := by
 rw [mnf_a v b root wv k R1 s1 R s i, mnf_a v b root wv k R1 s1 R s x, List.set_append_right (h := by simp [bytn_len])]
 simp [bytn_len]
theorem mnf_b (x : Nat) : mnfL v b root wv i x R1 s1 R s = (.int .i64 v :: .int .i64 b :: (bytn 32 root ++ [wv, .int .i64 i])) ++ (byts x ++ (sgL R1 s1 ++ sgL R s)) := by simp [mnfL, crtL]
theorem mnf_put36 (x : Nat) : putAt 36 (bytn 32 x) (mnfL v b root wv i k R1 s1 R s) = mnfL v b root wv i x R1 s1 R s := by
 rw [mnf_b v b root wv i R1 s1 R s k, mnf_b v b root wv i R1 s1 R s x, ← byts_bytn]
 exact putAt_mid (by simp [bytn_len]) (by rw [byts_len, byts_len])
theorem mnf_c (x y : Nat) : mnfL v b root wv i k x y R s = (.int .i64 v :: .int .i64 b :: (bytn 32 root ++ (wv :: .int .i64 i :: byts k))) ++ (sgL x y ++ sgL R s) := by simp [mnfL, crtL]
theorem mnf_copy68 (x y : Nat) : (mnfL v b root wv i k R1 s1 R s).take 68 ++ (u8s (nb 32 x ++ nb 32 y)).take 64 ++ (mnfL v b root wv i k R1 s1 R s).drop (68 + 64) = mnfL v b root wv i k x y R s := by
 rw [mnf_c v b root wv i k R s R1 s1, mnf_c v b root wv i k R s x y, u8s_append, sgL_u8s]
 exact copy_mid (by simp [bytn_len, byts_len]) (by rw [sgL_len, sgL_len]) (sgL_len _ _)
theorem mnf_d (x y : Nat) : mnfL v b root wv i k R1 s1 x y = (.int .i64 v :: .int .i64 b :: (bytn 32 root ++ (wv :: crtL i k R1 s1))) ++ (sgL x y ++ []) := by simp [mnfL]
theorem mnf_copy132 (x y : Nat) : (mnfL v b root wv i k R1 s1 R s).take 132 ++ (u8s (nb 32 x ++ nb 32 y)).take 64 ++ (mnfL v b root wv i k R1 s1 R s).drop (132 + 64) = mnfL v b root wv i k R1 s1 x y := by
 rw [mnf_d v b root wv i k R1 s1 R s, mnf_d v b root wv i k R1 s1 x y, u8s_append, sgL_u8s]
 exact copy_mid (by simp [bytn_len, crtL_len]) (by rw [sgL_len, sgL_len]) (sgL_len _ _)
end
structure RmI (w0 : World) (g2 gc gm gt ct : Nat) (vb : Value) (OUT B : List UInt8) (xs : List Value) (w : World) : Prop where
 c : RCur w gc vb OUT B false
 m : Arr w gm xs
 r : Arr w g2 (mnfL 0 0 0 (.slice none 0 0) 0 0 0 0 0 0)
 t : Sl w (.slice (some ⟨gt, 0, none⟩) 4 ct) (u8s pcm1)
 b : Below w0.heap.size w0 w
 n : w0.heap.size ≤ g2 ∧ g2 < gc ∧ gc < gt ∧ gt < gm
 v : ∀ a n c, vb = .slice (some a) n c → a.block < w0.heap.size
theorem RmI.rd {w0 w w' : World} {g2 gc gm gt ct : Nat} {vb : Value} {OUT B B' : List UInt8} {xs : List Value} (h : RmI w0 g2 gc gm gt ct vb OUT B xs w) (hg : w.grownBy w' (some gc)) (hc : RCur w' gc vb OUT B' false) : RmI w0 g2 gc gm gt ct vb OUT B' xs w' := by
 obtain ⟨n1, n2, n3, n4⟩ := h.n
 exact ⟨hc, arr_gr h.m hg zOm, arr_gr h.r hg zOm, h.t.keptN hg (fun a n c e => by cases e; exact Nat.ne_of_gt n3), below_of_gr h.b hg zOm h.b.size, h.n, h.v⟩
theorem RmI.st {w0 w w' : World} {g2 gc gm gt ct : Nat} {vb : Value} {OUT B : List UInt8} {xs ys : List Value} (h : RmI w0 g2 gc gm gt ct vb OUT B xs w) (hg : w.grownBy w' (some gm)) (hm : Arr w' gm ys) : RmI w0 g2 gc gm gt ct vb OUT B ys w' := by
 obtain ⟨n1, n2, n3, n4⟩ := h.n
 exact ⟨h.c.keptN hg zOm (fun a n c e => by have := h.v a n c e; omega), hm, arr_gr h.r hg zOm, h.t.keptN hg (fun a n c e => by cases e; exact Nat.ne_of_lt n4), below_of_gr h.b hg zOm h.b.size, h.n, h.v⟩
theorem RmI.below {w0 w w' : World} {g2 gc gm gt ct : Nat} {vb : Value} {OUT B : List UInt8} {xs : List Value} (h : RmI w0 g2 gc gm gt ct vb OUT B xs w) (hb : Below w.heap.size w w') : RmI w0 g2 gc gm gt ct vb OUT B xs w' :=
 ⟨h.c.below hb, h.m.below hb, h.r.below hb, h.t.below hb, bel h.b hb, h.n, h.v⟩
theorem rread_ok (v b : Int) (root : Nat) (a : Option Addr) (c : Nat) (wl : List UInt8) (hwl : wl.length = 80) (i : Int) (k R1 s1 R s : Nat) (hv : 0 ≤ v) (hv2 : v ≤ 2147483647) (hb : 1 ≤ b) (hb2 : b ≤ 32) (hi : 0 ≤ i) (hi2 : i ≤ 2147483647) (w : World)
 (h : Sl w (.slice a 300 c) (u8s (mpR v b root wl i k (nb 32 R1 ++ nb 32 s1) (nb 32 R ++ nb 32 s)))) :
 Calls Tryz.prog 7 #[.slice a 300 c] w fun e w' => ∃ g c', e = .returned (.tuple #[.agg (mnfL v b root (.slice (some ⟨g, 0, none⟩) 80 c') i k R1 s1 R s).toArray, .int .i64 0]) ∧ Below w.heap.size w w' := by
 have hol : (mpR v b root wl i k (nb 32 R1 ++ nb 32 s1) (nb 32 R ++ nb 32 s)).length = 300 := by
  obtain ⟨a', c', he, -⟩ := id h
  simp only [Value.slice.injEq] at he
  rw [u8s_len] at he
  exact he.2.1.symm
 obtain ⟨bb, oo, rfl, hblt⟩ : ∃ bb oo, a = some ⟨bb, oo, none⟩ ∧ bb < w.heap.size := by
  obtain ⟨bb, oo, e, -, -, -, hcell⟩ := h.at (by rw [u8s_len, hol]; decide)
  have hz : 0 < (u8s (mpR v b root wl i k (nb 32 R1 ++ nb 32 s1) (nb 32 R ++ nb 32 s))).length := by rw [u8s_len, hol]; decide
  exact ⟨bb, oo, e, World.block_lt_of_cell? w _ (hcell 0 _ (List.getElem?_eq_getElem hz))⟩
 have hr : (mpR v b root wl i k (nb 32 R1 ++ nb 32 s1) (nb 32 R ++ nb 32 s)).length ≤ 140737488355328 := by rw [hol]; decide
 have hO : (mpR v b root wl i k (nb 32 R1 ++ nb 32 s1) (nb 32 R ++ nb 32 s)) = pcm1 ++ (be8 v ++ (be8 b ++ (nb 32 root ++ (wl ++ (be8 i ++ (nb 32 k ++ ((nb 32 R1 ++ nb 32 s1) ++ ((nb 32 R ++ nb 32 s) ++ [])))))))) := rfl
 obtain ⟨OUT, hOe⟩ : ∃ O, mpR v b root wl i k (nb 32 R1 ++ nb 32 s1) (nb 32 R ++ nb 32 s) = O := ⟨_, rfl⟩
 rw [hOe] at h hol hr hO
 obtain ⟨B7, h7⟩ : ∃ B, (nb 32 R ++ nb 32 s) ++ [] = B := ⟨_, rfl⟩
 obtain ⟨B6, h6⟩ : ∃ B, (nb 32 R1 ++ nb 32 s1) ++ B7 = B := ⟨_, rfl⟩
 obtain ⟨B5, h5⟩ : ∃ B, nb 32 k ++ B6 = B := ⟨_, rfl⟩
 obtain ⟨B4, h4⟩ : ∃ B, be8 i ++ B5 = B := ⟨_, rfl⟩
 obtain ⟨B3, h3⟩ : ∃ B, wl ++ B4 = B := ⟨_, rfl⟩
 obtain ⟨B2, h2⟩ : ∃ B, nb 32 root ++ B3 = B := ⟨_, rfl⟩
 obtain ⟨B1, h1⟩ : ∃ B, be8 b ++ B2 = B := ⟨_, rfl⟩
 obtain ⟨B0, h0⟩ : ∃ B, be8 v ++ B1 = B := ⟨_, rfl⟩
 rw [h7, h6, h5, h4, h3, h2, h1, h0] at hO
 have q0 := zH (fun gc w (hc : RCur w gc (.slice (some ⟨bb, oo, none⟩) 300 c) OUT OUT false) => show Calls Tryz.prog 28 #[.pointer (some ⟨gc, 0, none⟩), .int .i64 4] w _ from raw_app gc (.slice (some ⟨bb, oo, none⟩) 300 c) OUT pcm1 B0 w 4 (by rw [← hO]; exact hc) rfl hr)
 have q1 := zH (fun gc w (hc : RCur w gc (.slice (some ⟨bb, oo, none⟩) 300 c) OUT B0 false) => int_app gc (.slice (some ⟨bb, oo, none⟩) 300 c) OUT B1 w v zOm (by rw [h0]; exact hc) hr)
 have q2 := zH (fun gc w (hc : RCur w gc (.slice (some ⟨bb, oo, none⟩) 300 c) OUT B1 false) => int_app gc (.slice (some ⟨bb, oo, none⟩) 300 c) OUT B2 w b zOm (by rw [h1]; exact hc) hr)
 have q3 := zH (fun gc w (hc : RCur w gc (.slice (some ⟨bb, oo, none⟩) 300 c) OUT B2 false) => rnum_app gc (.slice (some ⟨bb, oo, none⟩) 300 c) OUT B3 w root (by rw [h2]; exact hc) hr)
 have q4 := zH (fun gc w (hc : RCur w gc (.slice (some ⟨bb, oo, none⟩) 300 c) OUT B3 false) => show Calls Tryz.prog 28 #[.pointer (some ⟨gc, 0, none⟩), .int .i64 80] w _ from raw_app gc (.slice (some ⟨bb, oo, none⟩) 300 c) OUT wl B4 w 80 (by rw [h3]; exact hc) hwl hr)
 have q5 := zH (fun gc w (hc : RCur w gc (.slice (some ⟨bb, oo, none⟩) 300 c) OUT B4 false) => int_app gc (.slice (some ⟨bb, oo, none⟩) 300 c) OUT B5 w i zOm (by rw [h4]; exact hc) hr)
 have q6 := zH (fun gc w (hc : RCur w gc (.slice (some ⟨bb, oo, none⟩) 300 c) OUT B5 false) => rnum_app gc (.slice (some ⟨bb, oo, none⟩) 300 c) OUT B6 w k (by rw [h5]; exact hc) hr)
 have q7 := zH (fun gc w (hc : RCur w gc (.slice (some ⟨bb, oo, none⟩) 300 c) OUT B6 false) => show Calls Tryz.prog 28 #[.pointer (some ⟨gc, 0, none⟩), .int .i64 64] w _ from raw_app gc (.slice (some ⟨bb, oo, none⟩) 300 c) OUT (nb 32 R1 ++ nb 32 s1) B7 w 64 (by rw [h6]; exact hc) (by simp [nb_len]) hr)
 have q8 := zH (fun gc w (hc : RCur w gc (.slice (some ⟨bb, oo, none⟩) 300 c) OUT B7 false) => show Calls Tryz.prog 28 #[.pointer (some ⟨gc, 0, none⟩), .int .i64 64] w _ from raw_app gc (.slice (some ⟨bb, oo, none⟩) 300 c) OUT (nb 32 R ++ nb 32 s) [] w 64 (by rw [h7]; exact hc) (by simp [nb_len]) hr)
 have q9 := zH (fun gc w (hc : RCur w gc (.slice (some ⟨bb, oo, none⟩) 300 c) OUT [] false) => endR_any gc (.slice (some ⟨bb, oo, none⟩) 300 c) OUT [] false w hc)
 have cB := zH (fun gw cw w hw => rbody_ok v b root (some ⟨gw, 0, none⟩) cw wl hwl i k R1 s1 R s hv hv2 hb hb2 hi hi2 w hw)
 have hvv : Hid (∀ a n c', Value.slice (some ⟨bb, oo, none⟩) 300 c = .slice (some a) n c' → a.block < w.heap.size) := zH (fun a n c' e => by cases e; exact hblt)
 have hsz1 : Hid ((Tryz.prog.info? 5).map (·.size) = some 1) := zH zKr
 replace h := zH h
 clear hOe hO h7 h6 h5 h4 h3 h2 h1 h0 hr hol hv hv2 hb hb2 hi hi2 hblt
 go_enter Tryz.func7, Tryz.ntmps7
 go_upto_region 1 with fail
 refine wp_new1 (fun W hsz k2 kb => ?_)
 replace k2 : Arr W w.heap.size (mnfL 0 0 0 (.slice none 0 0) 0 0 0 0 0 0) := k2
 clear hsz
 go_upto_region 2 with fail
 obtain ⟨T, hT⟩ : ∃ x, W.alloc (.cells #[.slice (some ⟨bb, oo, none⟩) 300 c, .int .i64 0, .bool false] 79) = x := ⟨_, rfl⟩
 have kC : Arr T W.heap.size [.slice (some ⟨bb, oo, none⟩) 300 c, .int .i64 0, .bool false] := by rw [← hT]; exact Arr.new _ _ _
 have kbT : Below W.heap.size W T := by rw [← hT]; exact below_alloc _ _
 rw [hT]
 have hW0 : w.heap.size < W.heap.size := k2.lt
 have hRC : RCur T W.heap.size (.slice (some ⟨bb, oo, none⟩) 300 c) OUT OUT false :=
  ⟨0, Nat.zero_le _, rfl, kC.cell (j := 0) rfl, kC.cell (j := 1) rfl, kC.cell (j := 2) rfl, kC.frozen 1, kC.frozen 2, h.out.below (bel kb kbT), fun _ a n c' e => by have := hvv.out a n c' e; omega⟩
 replace k2 := k2.below kbT
 replace kb := bel kb kbT
 obtain ⟨gc, hgc⟩ : ∃ x, W.heap.size = x := ⟨_, rfl⟩
 obtain ⟨g2, hg2⟩ : ∃ x, w.heap.size = x := ⟨_, rfl⟩
 have hgT : gc < T.heap.size := by rw [← hgc]; exact kC.lt
 rw [hgc] at hRC hW0 ⊢
 rw [hg2] at k2 hW0 ⊢
 clear kC kbT hT hgc h
 go_wp2_with fail
 refine (q0.out _ _ hRC).mono ?_
 rintro e w1 ⟨vt, rfl, ho, hg, hc⟩
 obtain ⟨gt, ct, rfl, hgt, -, -, hrng⟩ := own_range ho zDc
 have k2 := arr_gr k2 hg zOm
 have kb := below_of_gr kb hg zOm kb.size
 have hlt : gt < w1.heap.size := World.block_lt_of_cell? w1 _ (hrng 0 _ rfl)
 have hT1 := Sl.of_own ho
 go_upto_region 4 with fail
 refine wp_new1 (fun w2 hsz km hnew => ?_)
 replace km : Arr w2 w1.heap.size (mnfL 0 0 0 (.slice none 0 0) 0 0 0 0 0 0) := km
 clear hsz
 have hI := zH (show RmI w g2 gc w1.heap.size gt ct (.slice (some ⟨bb, oo, none⟩) 300 c) OUT B0 (mnfL 0 0 0 (.slice none 0 0) 0 0 0 0 0 0) w2 from
  ⟨hc.below hnew, km, k2.below hnew, hT1.below hnew, bel kb hnew, ⟨by omega, by omega, by omega, hlt⟩, hvv.out⟩)
 obtain ⟨gm, hgm⟩ : ∃ x, w1.heap.size = x := ⟨_, rfl⟩
 rw [hgm] at hI ⊢
 have hm2 : gm < w2.heap.size := hI.out.m.lt
 clear hgm hnew km hT1 ho hg hc k2 kb hrng hRC hlt hgt
 go_wp2_with fail
 refine (q1.out _ _ hI.out.c).mono ?_
 rintro e w3 ⟨rfl, hg, hc⟩
 replace hI := zH (hI.out.rd hg hc)
 clear hg hc
 go_upto_region 5 with (refine wpl_cellG rfl _ _ _ rfl gm 0 (.int .i64 v) rfl rfl _ hI.out.m zDk (by rw [mnfL_len]; decide) rfl (fun w4 km hz hs => ?_))
 rw [mnf_set0] at km
 replace hI := zH (hI.out.st hz km)
 clear km hz hs
 go_wp2_with fail
 refine (q2.out _ _ hI.out.c).mono ?_
 rintro e w3 ⟨rfl, hg, hc⟩
 replace hI := zH (hI.out.rd hg hc)
 clear hg hc
 go_upto_region 6 with (refine wpl_cellG rfl _ _ _ rfl gm 1 (.int .i64 b) rfl rfl _ hI.out.m zDk (by rw [mnfL_len]; decide) rfl (fun w4 km hz hs => ?_))
 rw [mnf_set1] at km
 replace hI := zH (hI.out.st hz km)
 clear km hz hs
 go_wp2_with fail
 refine (q3.out _ _ hI.out.c).mono ?_
 rintro e w3 ⟨rfl, hg, hc⟩
 replace hI := zH (hI.out.rd hg hc)
 clear hg hc
 go_upto_region 7 with (refine wpl_storeMG rfl _ _ _ rfl gm 2 (bytn 32 root) rfl rfl _ hI.out.m (by rw [bytn_len]; kernel_rfl) (by rw [bytn_len, mnfL_len]; decide) (bytn_one _ _) (fun w4 km hz => ?_))
 rw [mnf_put2] at km
 replace hI := zH (hI.out.st hz km)
 clear km hz
 have hsz7 := hI.out.m.lt
 go_wp2_with fail
 refine (q4.out _ _ hI.out.c).mono ?_
 rintro e w3 ⟨vw, rfl, ho, hg, hc⟩
 obtain ⟨gw, cw, rfl, hgw, -, -, hrng⟩ := own_range ho zDc
 replace hI := zH (hI.out.rd hg hc)
 have hgw2 : gm < gw := by omega
 have hw := zH (Sl.of_own ho)
 have hlt : gw < w3.heap.size := World.block_lt_of_cell? w3 _ (hrng 0 _ (List.getElem?_eq_getElem (by rw [u8s_len, hwl]; decide)))
 have hgcw : gc < gw := by have := hI.out.n; omega
 clear ho hg hc hrng hgw hsz7
 go_upto_region 8 with (refine wpl_cellG rfl _ _ _ rfl gm 34 (.slice (some ⟨gw, 0, none⟩) 80 cw) rfl rfl _ hI.out.m zDk (by rw [mnfL_len]; decide) rfl (fun w4 km hz hs => ?_))
 rw [mnf_set34] at km
 replace hw := zH (hw.out.keptN hz (fun a n c' e => by cases e; exact Nat.ne_of_gt hgw2))
 replace hI := zH (hI.out.st hz km)
 clear km hz hs
 go_wp2_with fail
 refine (q5.out _ _ hI.out.c).mono ?_
 rintro e w3 ⟨rfl, hg, hc⟩
 replace hw := zH (hw.out.keptN hg (fun a n c' e => by cases e; exact Nat.ne_of_gt hgcw))
 replace hI := zH (hI.out.rd hg hc)
 clear hg hc
 go_upto_region 9 with (refine wpl_cellG rfl _ _ _ rfl gm 35 (.int .i64 i) rfl rfl _ hI.out.m zDk (by rw [mnfL_len]; decide) rfl (fun w4 km hz hs => ?_))
 rw [mnf_set35] at km
 replace hw := zH (hw.out.keptN hz (fun a n c' e => by cases e; exact Nat.ne_of_gt hgw2))
 replace hI := zH (hI.out.st hz km)
 clear km hz hs
 go_wp2_with fail
 refine (q6.out _ _ hI.out.c).mono ?_
 rintro e w3 ⟨rfl, hg, hc⟩
 replace hw := zH (hw.out.keptN hg (fun a n c' e => by cases e; exact Nat.ne_of_gt hgcw))
 replace hI := zH (hI.out.rd hg hc)
 clear hg hc
 go_upto_region 10 with (refine wpl_storeMG rfl _ _ _ rfl gm 36 (bytn 32 k) rfl rfl _ hI.out.m (by rw [bytn_len]; kernel_rfl) (by rw [bytn_len, mnfL_len]; decide) (bytn_one _ _) (fun w4 km hz => ?_))
 rw [mnf_put36] at km
 replace hw := zH (hw.out.keptN hz (fun a n c' e => by cases e; exact Nat.ne_of_gt hgw2))
 replace hI := zH (hI.out.st hz km)
 clear km hz
 go_upto_region 10 with fail
 obtain ⟨wq, rfl⟩ : ∃ x : World, x = w4 := ⟨_, rfl⟩
 refine Tx.start (fun w' => wq.grownBy w' (some gc)) 5 6 rfl zKr ?_
 have hb0 : Below wq.heap.size wq wq.drew := (Below.refl _ _).drew
 have hS0 : wq.grownBy wq.drew (some gc) := gr_below hb0
 refine Tx.seg2 (A := ?_) 2 15 zKr (by exact hS0) [0, 1, 2, 3] zKr ?_ ?_
 rotate_left
 · intro w' hB
   exact zRd
 refine Tx.eff 4 31 rfl zDk (fun K hK => ?_)
 go_simp
 refine (q7.out _ _ (hI.out.below hb0).c).mono ?_
 rintro e w3 ⟨vs, rfl, ho, hg, hc⟩
 have hS1 : wq.grownBy w3 (some gc) := gr_same hS0 hg
 replace hw := zH ((hw.out.below hb0).keptN hg (fun a n c' e => by cases e; exact Nat.ne_of_gt hgcw))
 replace hI := zH ((hI.out.below hb0).rd hg hc)
 refine hK (fun w' => wq.grownBy w' (some gc)) _ _ hS1 (fun _ h => h) ?_
 clear hK K hS0 hg hc hS1 hb0
 try simp only [Act.put, zSa, zSz, zSs]
 have hcs := zH (Sl.of_own ho)
 clear ho
 refine Tx.bar 63 rfl zDk (fun K hK => ?_)
 refine step_copyN rfl _ _ 22 22 rfl 5 Tryz.underlying22 hsz1.out gm 68 64 64 rfl _ hI.out.m (by rw [mnfL_len]; decide) _ rfl (u8s (nb 32 R1 ++ nb 32 s1)) hcs.out (u8s_one _) 64 (by rw [List.length_take, u8s_len]; simp [nb_len]) _ (mnf_copy68 _ _ _ _ _ _ _ _ _ _ _ _) (fun w4 km hz hs => ?_)
 replace hw := zH (hw.out.keptN hz (fun a n c' e => by cases e; exact Nat.ne_of_gt hgw2))
 replace hI := zH (hI.out.st hz km)
 clear km hz hs hcs
 refine hK (fun _ => True) 9999 _ _ ?_
 clear hK K
 try simp only [Act.put]
 try simp only [zSa, zSz, zSs]
 refine Tx.done zKr ?_
 go_upto_region 11 with fail
 obtain ⟨wq, rfl⟩ : ∃ x : World, x = w4 := ⟨_, rfl⟩
 refine Tx.start (fun w' => wq.grownBy w' (some gc)) 4 5 rfl zKr ?_
 have hb0 : Below wq.heap.size wq wq.drew := (Below.refl _ _).drew
 have hS0 : wq.grownBy wq.drew (some gc) := gr_below hb0
 refine Tx.seg2 (A := ?_) 2 7 zKr (by exact hS0) [0, 1, 2] zKr ?_ ?_
 rotate_left
 · intro w' hB
   exact zRd
 refine Tx.eff 3 15 rfl zDk (fun K hK => ?_)
 go_simp
 refine (q8.out _ _ (hI.out.below hb0).c).mono ?_
 rintro e w3 ⟨vs, rfl, ho, hg, hc⟩
 have hS1 : wq.grownBy w3 (some gc) := gr_same hS0 hg
 replace hw := zH ((hw.out.below hb0).keptN hg (fun a n c' e => by cases e; exact Nat.ne_of_gt hgcw))
 replace hI := zH ((hI.out.below hb0).rd hg hc)
 refine hK (fun w' => wq.grownBy w' (some gc)) _ _ hS1 (fun _ h => h) ?_
 clear hK K hS0 hg hc hS1 hb0
 try simp only [Act.put, zSa, zSz, zSs]
 have hcs := zH (Sl.of_own ho)
 clear ho
 refine Tx.bar 31 rfl zDk (fun K hK => ?_)
 refine step_copyN rfl _ _ 22 22 rfl 5 Tryz.underlying22 hsz1.out gm 132 64 64 rfl _ hI.out.m (by rw [mnfL_len]; decide) _ rfl (u8s (nb 32 R ++ nb 32 s)) hcs.out (u8s_one _) 64 (by rw [List.length_take, u8s_len]; simp [nb_len]) _ (mnf_copy132 _ _ _ _ _ _ _ _ _ _ _ _) (fun w4 km hz hs => ?_)
 replace hw := zH (hw.out.keptN hz (fun a n c' e => by cases e; exact Nat.ne_of_gt hgw2))
 replace hI := zH (hI.out.st hz km)
 clear km hz hs hcs
 refine hK (fun _ => True) 9999 _ _ ?_
 clear hK K
 try simp only [Act.put]
 try simp only [zSa, zSz, zSs]
 refine Tx.done zKr ?_
 go_upto_region 12 with fail
 go_wp2_with (refine wpList_load_arr2 rfl _ _ rfl _ rfl zDk _ hI.out.m (by rw [mnfL_len]; kernel_rfl) ?_)
 refine (cB.out _ _ _ hw.out).mono ?_
 rintro e w5 ⟨ub, rfl, hb5⟩
 replace hI := zH (hI.out.below hb5)
 replace hw := zH (hw.out.below hb5)
 clear hb5 cB
 have hst := run_string_sl (P := Tryz.prog) hI.out.t 22 5 9 Tryz.underlying22 Tryz.underlying5 Tryz.underlying9
 unfold pcm1 at hst
 go_wp2_with fail
 refine (q9.out _ _ hI.out.c).mono ?_
 rintro e w6 ⟨rfl, hb6⟩
 rw [show endS [] false = true from rfl]
 replace hI := zH (hI.out.below hb6)
 replace hw := zH (hw.out.below hb6)
 clear hb6 hst
 go_wp2_with (first | (refine wpList_load_arr2 rfl _ _ rfl _ rfl zDk _ hI.out.m (by rw [mnfL_len]; kernel_rfl) ?_) | (refine wpl_storeG rfl _ _ _ rfl _ (mnfL v b root (.slice (some ⟨gw, 0, none⟩) 80 cw) i k R1 s1 R s) rfl rfl _ hI.out.r (by rw [mnfL_len]; kernel_rfl) (by rw [mnfL_len, mnfL_len]) (mnfL_one _ _ _ _ _ _ _ _ _ _ rfl) (fun w7 k7 hg7 hsz7 => ?_)))
 have hn := hI.out.n
 have kb7 := below_of_gr hI.out.b hg7 hn.1 hI.out.b.size
 exact bodyPost_ret (results_arr_tmp Tryz.results7 _ _ _ _ rfl Tryz.underlying38 rfl _ k7 (by rw [mnfL_len]; kernel_rfl) _ rfl) rfl ⟨gw, cw, rfl, kb7⟩
end Go.Proofs.YtncnlfpiondpnaaGreat
