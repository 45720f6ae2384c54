/- TopSigned: part 38 of its proof: lemmas and contracts, each with its conditions in its own statement; the last part holds the law itself. -/
import Derived.Test.YtncnlfpiondpnaaGreatJt37

set_option maxHeartbeats 4000000
set_option maxRecDepth 100000
namespace Go.Proofs.YtncnlfpiondpnaaGreat
open Go.RowKit
theorem arr_gr {w w' : World} {g g' : Nat} {xs : List Value} (h : Arr w g xs) (hg : w.grownBy w' (some g')) (hr : g' ≠ g) : Arr w' g xs := by
 have := h.lt
 obtain ⟨T, h⟩ := h
 exact ⟨T, by rw [hg.block g this (fun e => hr (by cases e; rfl))]; exact h⟩
section
variable (v b : Int) (root : Nat) (wv : Value) (i : Int) (k R1 s1 R s : Nat)
theorem mnf_set34 (u : Value) : (mnfL v b root wv i k R1 s1 R s).set 34 u = mnfL v b root u i k R1 s1 R s := by
 have h : ∀ x : Value, mnfL v b root x i k R1 s1 R s = (.int .i64 v :: .int .i64 b :: bytn 32 root) ++ (x :: (crtL i k R1 s1 ++ sgL R s)) := fun x => by simp [mnfL]
 rw [h wv, h u, List.set_append_right (h := by simp [bytn_len])]
 simp [bytn_len]
theorem mnf_put132 (R' s' : Nat) : putAt 132 (sgL R' s') (mnfL v b root wv i k R1 s1 R s) = mnfL v b root wv i k R1 s1 R' s' := by
 have h : ∀ R s, mnfL v b root wv i k R1 s1 R s = (.int .i64 v :: .int .i64 b :: (bytn 32 root ++ (wv :: crtL i k R1 s1))) ++ sgL R s := fun R s => by simp [mnfL]
 have hl : (Value.int .i64 v :: .int .i64 b :: (bytn 32 root ++ (wv :: crtL i k R1 s1))).length = 132 := by simp [bytn_len, crtL_len]
 rw [h R s, h R' s', putAt, ← hl, List.take_left, hl, List.drop_eq_nil_of_le (by simp [sgL_len, bytn_len, crtL_len]), List.append_nil]
end
theorem mpack_ok (v b : Int) (root : Nat) (a : Option Addr) (c : Nat) (wl : List UInt8) (hwl : wl.length = 80) (i : Int) (k R1 s1 R s : Nat) (hv : 0 ≤ v) (hv2 : v ≤ 2147483647) (hb : 1 ≤ b) (hb2 : b ≤ 32) (hi : mayI i = true) (w : World) (hw : Sl w (.slice a 80 c) (u8s wl)) :
 Calls Tryz.prog 27 #[.agg (mnfL v b root (.slice a 80 c) i k R1 s1 R s).toArray] w fun e w' =>
  ∃ u, e = .returned (.tuple #[u, .int .i64 0]) ∧ w'.ownsRow w.heap.size 5 1 u 300 (u8s (mbodyB v b root wl i k R1 s1 ++ (nb 32 R ++ nb 32 s))) ∧ Below w.heap.size w w' := by
 have cB := zH (fun w hw => mbody_ok v b root a c wl hwl i k R1 s1 R s hv hv2 hb hb2 hi w hw)
 have hlen := mnfL_len v b root (.slice a 80 c) i k R1 s1 R s
 obtain ⟨B, hB⟩ : ∃ B, mbodyB v b root wl i k R1 s1 = B := ⟨_, rfl⟩
 rw [hB] at cB ⊢
 replace hw := zH hw
 clear hv hv2 hb hb2 hi hB
 obtain ⟨ii, hii, hz0, hz1, hz2⟩ := info_parts info_u8
 go_enter Tryz.func27, Tryz.ntmps27
 go_upto_region 1 with fail
 refine wp_new1 (fun W hsz k1 kb => ?_)
 replace k1 : Arr W w.heap.size (mnfL v b root (.slice a 80 c) i k R1 s1 R s) := k1
 clear hsz
 go_wp2_with (refine wpList_load_arr2 rfl _ _ rfl _ rfl zDk _ k1 (by rw [hlen]; kernel_rfl) ?_)
 refine (cB.out _ (hw.out.below kb)).mono ?_
 rintro e w2 ⟨u, rfl, ho, hb⟩
 replace k1 := k1.below hb
 clear cB
 go_wp2_with (at_builtin; refine wpList_append_sl rfl _ _ 22 rfl W.heap.size 5 Tryz.underlying22 hii hz0 hz1 hz2 rfl u 236 _ rfl ho _ (u8s (nb 32 R ++ nb 32 s)) rfl (mnf_sig k1) (u8s_one _) ?c1 ?c2 hb.size ?_)
 case c1 => simp only [u8s_len, List.length_append, nb_len]; decide
 case c2 => simp only [u8s_len, List.length_append, nb_len]; decide
 intro u9 wd ho9 hgd
 have hS_d := hb.grown hgd hb.size (own_block ho)
 rw [u8s_len, List.length_append, nb_len, nb_len, ← u8s_append] at ho9
 go_wp2_with fail
 go_ret2
 exact ⟨u9, rfl, own_mono ho9 kb.size, bel kb hS_d⟩
theorem msign_ok (K : Nat) (v b : Int) (root : Nat) (a : Option Addr) (c : Nat) (wl : List UInt8) (hwl : wl.length = 80) (i : Int) (k R1 s1 R s : Nat) (hv : 0 ≤ v) (hv2 : v ≤ 2147483647) (hb : 1 ≤ b) (hb2 : b ≤ 32) (hi : mayI i = true) (w : World) (hw : Sl w (.slice a 80 c) (u8s wl)) :
 Calls Tryz.prog 25 #[.agg (byts K).toArray, .agg (mnfL v b root (.slice a 80 c) i k R1 s1 R s).toArray] w fun e w' =>
  ∃ g c', e = .returned (.tuple #[.agg (mnfL v b root (.slice (some ⟨g, 0, none⟩) 80 c') i k R1 s1 (sgR K (mbodyB v b root wl i k R1 s1)) (sgS K (mbodyB v b root wl i k R1 s1))).toArray, .int .i64 0]) ∧ w'.ownsRow w.heap.size 5 1 (.slice (some ⟨g, 0, none⟩) 80 c') 80 (u8s wl) ∧ Below w.heap.size w w' := by
 have cB := zH (fun w hw => mbody_ok v b root a c wl hwl i k R1 s1 R s hv hv2 hb hb2 hi w hw)
 have hlen := mnfL_len v b root (.slice a 80 c) i k R1 s1 R s
 obtain ⟨B, hB⟩ : ∃ B, mbodyB v b root wl i k R1 s1 = B := ⟨_, rfl⟩
 rw [hB] at cB ⊢
 have cS := zH (fun w' d' (h : Sls w' (.slice d' 1 1) [B]) => show Calls Tryz.prog 8 #[.agg (byts K).toArray, .slice d' 1 1] w' fun e w'' => e = .returned (.agg (sgL (sgR K B) (sgS K B)).toArray) ∧ Below w'.heap.size w' w'' from by
  have q := csign_any K d' 1 1 [B] (by simp) w' h
  rw [show [B].flatten = B by simp] at q
  exact q)
 obtain ⟨R', hR'⟩ : ∃ x, sgR K B = x := ⟨_, rfl⟩
 obtain ⟨s', hs'⟩ : ∃ x, sgS K B = x := ⟨_, rfl⟩
 rw [hR', hs'] at cS ⊢
 replace hw := zH hw
 clear hv hv2 hb hb2 hi hB hR' hs'
 obtain ⟨ii, hii, hz0, hz1, hz2⟩ := info_parts info_u8
 go_enter Tryz.func25, Tryz.ntmps25
 go_upto_region 1 with fail
 refine wp_new3 (fun W hsz k2 k3 k4 kb => ?_)
 replace k3 : Arr W (w.heap.size + 1) (mnfL v b root (.slice a 80 c) i k R1 s1 R s) := k3
 replace k4 : Arr W (w.heap.size + 1 + 1) (mnfL 0 0 0 (.slice none 0 0) 0 0 0 0 0 0) := k4
 clear hsz
 go_wp2_with (refine wpList_load_arr2 rfl _ _ rfl _ rfl zDk _ k3 (by rw [hlen]; kernel_rfl) ?_)
 refine (cB.out _ (hw.out.below kb)).mono ?_
 rintro e w2 ⟨u, rfl, ho, hb⟩
 obtain ⟨gu, cu, rfl, -⟩ := own_range ho zDc
 have lt4 := k4.lt
 replace k2 := k2.below hb
 replace k3 := k3.below hb
 replace k4 := k4.below hb
 have kb2 := bel kb hb
 clear cB
 have y34 := mnf_wv k3
 go_wp2_with (at_builtin; refine wpList_append_sl rfl _ _ 22 rfl w2.heap.size 5 Tryz.underlying22 hii hz0 hz1 hz2 rfl (.slice none 0 0) 0 [] rfl (World.ownsRow_nil _ _ _ _) _ (u8s wl) rfl (hw.out.below kb2) (u8s_one _) ?c1 ?c2 (Nat.le_refl _) ?_)
 case c1 => rw [u8s_len, hwl]; decide
 case c2 => rw [u8s_len, hwl]; decide
 intro u2 w3 ho2 hg2
 have hb2 : Below w2.heap.size w2 w3 := (Below.refl _ _).grown hg2 (Nat.le_refl _) (fun k hk => by cases hk)
 rw [u8s_len, hwl] at ho2
 replace k2 := k2.below hb2
 replace k3 := k3.below hb2
 replace k4 := k4.below hb2
 replace ho := own_below ho hb2
 replace kb2 := bel kb2 hb2
 obtain ⟨g, c', rfl, hgb, -⟩ := own_range ho2 zDc
 have hw2 : w.heap.size + 1 + 1 < w2.heap.size := Nat.lt_of_lt_of_le lt4 hb.size
 have hww : W.heap.size ≤ w2.heap.size := hb.size
 clear hg2 hb2 y34 hw
 replace hb := zH hb
 go_upto_region 5 with (refine wpl_cellG rfl _ _ _ rfl _ 34 (.slice (some ⟨g, 0, none⟩) 80 c') rfl rfl _ k3 zDk (by rw [hlen]; decide) rfl (fun w4 k3' hg4 hsz4 => ?_))
 rw [mnf_set34] at k3'
 replace k2 := arr_gr k2 hg4 zOm
 replace k4 := arr_gr k4 hg4 zOm
 replace ho := own_grown ho hg4 zOm
 replace ho2 := own_grown ho2 hg4 zOm
 have kb4 := below_of_gr kb2 hg4 zOm kb2.size
 replace hw2 := zH hw2
 clear hg4 k3 kb2 hsz4 hww hgb
 have kb6 := below_alloc w4 (.cells #[.slice (some ⟨gu, 0, none⟩) 236 cu] 22)
 have h6 := zH (Sls.new1 (Sl.of_own ho) 22)
 replace ho2 := zH ho2
 clear ho
 go_wp2_with (refine zLd ?_)
 refine (cS.out _ _ h6.out).mono ?_
 rintro e w5 ⟨rfl, hb⟩
 replace hb := bel kb6 hb
 replace k2 := k2.below hb
 replace k3' := k3'.below hb
 replace k4 := k4.below hb
 replace kb4 := bel kb4 hb
 replace ho2 := zH (own_below ho2.out hb)
 clear hb kb6 h6 cS
 have hlen4 := mnfL_len v b root (.slice (some ⟨g, 0, none⟩) 80 c') i k R1 s1 R s
 go_upto_region 6 with (refine wpl_storeMG rfl _ _ _ rfl (w.heap.size + 1) 132 (sgL R' s') rfl rfl _ k3' (by rw [sgL_len]; kernel_rfl) (by rw [sgL_len, hlen4]; decide) (sgL_one _ _) (fun w6 k3'' hg6 => ?_))
 rw [mnf_put132] at k3''
 replace k4 := arr_gr k4 hg6 zOm
 have kb6 := below_of_gr kb4 hg6 zOm kb4.size
 replace ho2 := zH (own_grown ho2.out hg6 (by have := hw2.out; omega))
 clear hg6 kb4 k3' k2
 go_wp2_with (first | (refine wpList_load_arr2 rfl _ _ rfl _ rfl zDk _ k3'' (by rw [mnfL_len]; kernel_rfl) ?_) | (refine wpl_storeG rfl _ _ _ rfl _ (mnfL v b root (.slice (some ⟨g, 0, none⟩) 80 c') i k R1 s1 R' s') rfl rfl _ k4 (by rw [mnfL_len]; kernel_rfl) (by rw [mnfL_len, mnfL_len]) (mnfL_one _ _ _ _ _ _ _ _ _ _ rfl) (fun w7 k4' hg7 hsz7 => ?_)))
 replace ho2 := own_grown ho2.out hg7 (by have := hw2.out; omega)
 have kb7 := below_of_gr kb6 hg7 zOm kb6.size
 exact bodyPost_ret (results_arr_tmp Tryz.results25 _ _ _ _ rfl Tryz.underlying38 rfl _ k4' (by rw [mnfL_len]; kernel_rfl) _ rfl) rfl ⟨g, c', rfl, own_mono ho2 (by have := hw2.out; omega), kb7⟩
theorem gr_up {w w1 w2 : World} {g g3 : Nat} (h : w.grownBy w1 (some g)) (k : w1.grownBy w2 (some g3)) (h3 : w.heap.size ≤ g3) : w.grownBy w2 (some g) :=
 ⟨k.os.trans h.os, k.tape.trans h.tape, k.output.trans h.output, Nat.le_trans h.size k.size, fun i hi hn => (k.block i (Nat.lt_of_lt_of_le hi h.size) (fun e => by cases e; omega)).trans (h.block i hi hn)⟩
theorem gr_same {w w1 w2 : World} {r : Option Nat} (h : w.grownBy w1 r) (k : w1.grownBy w2 r) : w.grownBy w2 r :=
 ⟨k.os.trans h.os, k.tape.trans h.tape, k.output.trans h.output, Nat.le_trans h.size k.size, fun i hi hn => (k.block i (Nat.lt_of_lt_of_le hi h.size) hn).trans (h.block i hi hn)⟩
theorem RCur.keptN {w w' : World} {g k : Nat} {v : Value} {bs rest : List UInt8} {bad : Bool} (h : RCur w g v bs rest bad) (hg : w.grownBy w' (some k)) (hk : k ≠ g) (hv : ∀ a n c, v = .slice (some a) n c → a.block ≠ k) : RCur w' g v bs rest bad := by
 have hlt := h.lt
 obtain ⟨j, h1, h2, h3, h4, h5, h6, h7, h8, h9⟩ := h
 have hb : w'.heap[g]? = w.heap[g]? := hg.block g hlt (fun e => hk (by cases e; rfl))
 have hc : ∀ i, w'.cell? ⟨g, i, none⟩ = w.cell? ⟨g, i, none⟩ := fun i => by simp only [World.cell?, hb]
 have hf : ∀ i, w'.frozen? ⟨g, i, none⟩ = w.frozen? ⟨g, i, none⟩ := fun i => by simp only [World.frozen?, hb]
 exact ⟨j, h1, h2, by rw [hc]; exact h3, by rw [hc]; exact h4, by rw [hc]; exact h5, by rw [hf]; exact h6, by rw [hf]; exact h7, h8.keptN hg hv, h9⟩
theorem copy32 (N : Nat) : (bytn 32 0).take 0 ++ (u8s (nb 32 N)).take 32 ++ (bytn 32 0).drop (0 + 32) = bytn 32 N := by
 rw [← nb_u8s, List.take_zero, List.nil_append, List.take_of_length_le (by rw [bytn_len]; exact Nat.le_refl _), List.drop_eq_nil_of_le (by rw [bytn_len]; exact Nat.le_refl _), List.append_nil]
section
variable (g : Nat) (vb : Value) (OUT A B : List UInt8) (w : World)
theorem raw_app (n : Nat) (hc : RCur w g vb OUT (A ++ B) false) (hA : A.length = n) (hr : OUT.length ≤ 140737488355328) :
 Calls Tryz.prog 28 #[.pointer (some ⟨g, 0, none⟩), .int .i64 (n : Int)] w fun e w' => ∃ v, e = .returned v ∧ w'.ownsRow w.heap.size 5 1 v n (u8s A) ∧ w.grownBy w' (some g) ∧ RCur w' g vb OUT B false := by
 have q := rawR_any g vb OUT (A ++ B) false (n : Int) w hc hr
 rw [rawS_app hA] at q
 refine q.mono ?_
 rintro e w' ⟨v, he, ho, hg, hc'⟩
 rw [hA] at ho
 exact ⟨v, he, ho, hg, hc'⟩
theorem int_app (v : Int) (hv : -9223372036854775808 ≤ v ∧ v ≤ 9223372036854775807) (hc : RCur w g vb OUT (be8 v ++ B) false) (hr : OUT.length ≤ 140737488355328) :
 Calls Tryz.prog 29 #[.pointer (some ⟨g, 0, none⟩)] w fun e w' => e = .returned (.int .i64 v) ∧ w.grownBy w' (some g) ∧ RCur w' g vb OUT B false := by
 have q := intR_any g vb OUT (be8 v ++ B) false w hc hr
 rw [intS_app hv] at q
 exact q
theorem rnum_app (N : Nat) (hc : RCur w g vb OUT (nb 32 N ++ B) false) (hr : OUT.length ≤ 140737488355328) :
 Calls Tryz.prog 30 #[.pointer (some ⟨g, 0, none⟩)] w fun e w' => e = .returned (.agg (bytn 32 N).toArray) ∧ w.grownBy w' (some g) ∧ RCur w' g vb OUT B false := by
 have hsz1 : Hid ((Tryz.prog.info? 5).map (·.size) = some 1) := zH zKr
 have hl := hc.lt
 have hvb : ∀ a n c, vb = .slice (some a) n c → 0 < OUT.length → a.block < g := fun a n c e h0 => by
  obtain ⟨k, -, -, -, -, -, -, -, -, h9⟩ := hc
  exact h9 h0 a n c e
 have hO : 0 < OUT.length := by
  obtain ⟨k, h1, h2, -⟩ := hc
  have h3 := congrArg List.length h2
  simp only [List.length_append, nb_len, Bool.false_eq_true, if_false, List.length_drop] at h3
  omega
 replace hc := zH hc
 replace hr := zH hr
 go_enter Tryz.func30, Tryz.ntmps30
 go_upto_region 2 with fail
 refine wp_new2 (fun W hsz k2 k3 kb => ?_)
 replace k2 : Arr W w.heap.size (bytn 32 0) := k2
 replace k3 : Arr W (w.heap.size + 1) (bytn 32 0) := k3
 have hcW := hc.out.below kb
 have hgW : w.grownBy W (some g) := gr_below kb
 obtain ⟨g2, hg2⟩ : ∃ x, w.heap.size = x := ⟨_, rfl⟩
 rw [hg2] at k2 k3 ⊢
 clear hsz
 refine Tx.start (fun w' => W.grownBy w' (some g)) 3 4 rfl zKr ?_
 have hb0 : Below W.heap.size W W.drew := (Below.refl _ _).drew
 have hS0 : W.grownBy W.drew (some g) := gr_below hb0
 refine Tx.seg2 (A := ?_) 2 3 zKr (by exact hS0) [0, 1] zKr ?_ ?_
 rotate_left
 · intro w' hB
   exact zRd
 refine Tx.eff 2 7 rfl zDk (fun K hK => ?_)
 go_simp
 refine (raw_app g vb OUT (nb 32 N) B W.drew 32 (hcW.below hb0) (nb_len _ _) hr.out).mono ?_
 rintro e w1 ⟨v, rfl, ho, hg1, hc1⟩
 have hS1 : W.grownBy w1 (some g) := gr_same hS0 hg1
 refine hK (fun w' => W.grownBy w' (some g)) _ _ hS1 (fun _ h => h) ?_
 clear hK K hS0 hg1
 try simp only [Act.put, zSa, zSz, zSs]
 replace k2 := arr_gr k2 hS1 zOm
 replace k3 := arr_gr k3 hS1 zOm
 have hs1 := hS1.size
 have hl3 := k3.lt
 refine Tx.bar 15 rfl zDk (fun K hK => ?_)
 refine step_copyN rfl _ _ 22 22 rfl 5 Tryz.underlying22 hsz1.out (g2 + 1) 0 32 32 rfl _ k3 (by rw [bytn_len]; decide) _ rfl (u8s (nb 32 N)) (Sl.of_own ho) (u8s_one _) 32 (by rw [← nb_u8s, List.length_take, bytn_len]; rfl) (bytn 32 N) (copy32 N) (fun W3 k3 hg hsz => ?_)
 replace k2 := k2.kept hg zOm
 have hc3 := hc1.keptN hg zOm (fun a n c e => by have := hvb a n c e hO; omega)
 have hgr := gr_up (gr_same hgW hS1) hg zOm
 replace hc3 := zH hc3
 clear hS1 hc1 ho hg hcW hgW
 refine hK (fun _ => True) 9999 _ _ ?_
 clear hK K
 try simp only [Act.put]
 try simp only [zSa, zSz, zSs]
 refine Tx.done zKr ?_
 go_wp2_with (first | (refine wpList_load_arr2 rfl _ _ rfl _ rfl zDk _ k3 (by rw [bytn_len]; kernel_rfl) ?_) | (refine wpl_storeG rfl _ _ _ rfl _ (bytn 32 N) rfl rfl _ k2 (by rw [bytn_len]; kernel_rfl) (by rw [bytn_len, bytn_len]) (bytn_one _ _) (fun w9 k2 hg9 hsz9 => ?_)))
 have hc9 := hc3.out.keptN hg9 zOm (fun a n c e => by have := hvb a n c e hO; omega)
 exact bodyPost_ret (results_arr2 Tryz.results30 _ _ _ rfl zKr _ k2 (by rw [bytn_len]; kernel_rfl)) rfl ⟨rfl, gr_up hgr hg9 zOm, hc9⟩
end
theorem rsmall_ok (n : Int) (h0 : 0 ≤ n) (h1 : n ≤ 2147483647) (w : World) : Calls Tryz.prog 72 #[.int .i64 n] w fun e w' => e = .returned (.bool true) ∧ Below w.heap.size w w' := by
 have l1 : ¬ n < 0 := by omega
 go_enter Tryz.func72, Tryz.ntmps72
 go_wp2_with fail
 go_ret
 exact ⟨rfl, Below.refl _ _⟩
theorem rbody_ok (v b : Int) (root : Nat) (a : Option Addr) (c : Nat) (wl : List UInt8) (hwl : wl.length = 80) (i : Int) (k R1 s1 R s : Nat) (hv : 0 ≤ v) (hv2 : v ≤ 2147483647) (hb : 1 ≤ b) (hb2 : b ≤ 32) (hi : 0 ≤ i) (hi2 : i ≤ 2147483647) (w : World) (hw : Sl w (.slice a 80 c) (u8s wl)) :
 Calls Tryz.prog 31 #[.agg (mnfL v b root (.slice a 80 c) i k R1 s1 R s).toArray] w fun e w' => ∃ u, e = .returned (.tuple #[u, .int .i64 0]) ∧ Below w.heap.size w w' := by
 have c1 := zH (fun w => rsmall_ok v hv hv2 w)
 have c2 := zH (fun w => rsmall_ok i hi hi2 w)
 have cI1 := zH (fun w' vb vn (h1 : Sl w' vb (u8s pcm1)) (h2 : Sl w' vn [.int .i64 v, .int .i64 b]) => refInt_any vb vn pcm1 [v, b] w' h1 h2 (by simp [pcm1]))
 replace hw := zH hw
 have l1 : ¬ b < 1 := by omega
 have l2 : ¬ 32 < b := by omega
 clear hv hv2 hb hb2 hi hi2
 go_enter Tryz.func31, Tryz.ntmps31
 go_upto_region 1 with fail
 refine wp_new1 (fun W hsz k1 kb => ?_)
 replace k1 : Arr W w.heap.size (mnfL v b root (.slice a 80 c) i k R1 s1 R s) := k1
 clear hsz
 have y0 := k1.cell (j := 0) (u := .int .i64 v) rfl
 go_wp2_with fail
 clear y0
 refine (c1.out _).mono ?_
 rintro e w_1 ⟨rfl, hb_1⟩
 have k1 := k1.below hb_1
 have kb := bel kb hb_1
 clear hb_1
 have y1 := k1.cell (j := 1) (u := .int .i64 b) rfl
 have y34 := mnf_wv k1
 have y35 := mnf_id k1
 go_wp2_with fail
 clear y1 y34 y35
 refine (c2.out _).mono ?_
 rintro e w_2 ⟨rfl, hb_2⟩
 have k1 := k1.below hb_2
 have kb := bel kb hb_2
 clear hb_2
 go_upto_region 3 with fail
 have kb4 := below_alloc (w_2) (.cells #[.int .u8 80, .int .u8 67, .int .u8 77, .int .u8 49] 5 (4, 5))
 have y0 := (k1.below kb4).cell (j := 0) (u := .int .i64 v) rfl
 have y1 := (k1.below kb4).cell (j := 1) (u := .int .i64 b) rfl
 have hcv := fun (w : World) (C : Array Value) (n c : Nat) => Lib.run_convert_bytes_const (P := Tryz.prog) w 22 5 C n c Tryz.underlying22 Tryz.underlying5
 have h1 := zH (show Sl ((w_2).alloc (.cells #[.int .u8 80, .int .u8 67, .int .u8 77, .int .u8 49] 5 (4, 5))) (.slice (some ⟨(w_2).heap.size, 0, none⟩) 4 4) (u8s pcm1) from Sl.newMk _ _ _ _ _ rfl 4 rfl zDc)
 have h2 := zH (Sl.newMk ((w_2).alloc (.cells #[.int .u8 80, .int .u8 67, .int .u8 77, .int .u8 49] 5 (4, 5))) #[.int .i64 v, .int .i64 b] 3 (0, 0) ((w_2).heap.size + 1) (by simp) 2 rfl zDc)
 have kb5 := bel kb4 (below_alloc ((w_2).alloc (.cells #[.int .u8 80, .int .u8 67, .int .u8 77, .int .u8 49] 5 (4, 5))) (.cells #[.int .i64 v, .int .i64 b] 3))
 go_wp2_with fail
 refine (cI1.out _ _ _ (h1.out.alloc _) h2.out).mono ?_
 rintro e w2 ⟨u4, rfl, ho4, hb2⟩
 rw [show (pcm1 ++ be8s [v, b]).length = 20 by rw [List.length_append, be8s_len]; rfl] at ho4
 replace ho4 := own_mono ho4 kb5.size
 have hbW := ext_trans kb5 (Nat.le_refl _) hb2
 have lt1 := k1.lt
 clear hb2 kb5 kb4 y0 y1 h1 h2 cI1 hcv c1 c2
 obtain ⟨w1, hw1⟩ : ∃ x, w_2 = x := ⟨_, rfl⟩
 rw [hw1] at ho4 hbW k1 kb lt1
 clear hw1
 obtain ⟨T1, hT1⟩ : ∃ T, pcm1 ++ be8s [v, b] = T := ⟨_, rfl⟩
 rw [hT1] at ho4
 obtain ⟨ii, hii, hz0, hz1, hz2⟩ := info_parts info_u8
 go_upto_region 4 with fail
 refine Tx.start (fun w' => Below w1.heap.size w1 w') 9999 8 rfl zKr ?_
 have hS_x := hbW.drew
 refine Tx.seg (A := ?_) 3 55 zKr (by exact hS_x) [0, 1, 2, 4, 5] zKr ?_ ?_
 rotate_left
 · intro w' hB
   have y34 := mnf_wv (k1.below hB)
   exact zRd
 refine Tx.eff 3 63 rfl zDk (fun K hK => ?_)
 refine step_append_sl rfl _ _ 22 rfl w1.heap.size 5 Tryz.underlying22 hii hz0 hz1 hz2 rfl u4 20 (u8s T1) rfl (own_below ho4 (Below.refl _ _).drew) _ (u8s (nb 32 root)) rfl (mnf_root (k1.below hS_x)) (u8s_one _) ?c1 ?c2 hS_x.size ?_
 case c1 => rw [u8s_len, nb_len]; decide
 case c2 => rw [u8s_len, nb_len]; decide
 intro u5 wa ho5 hga
 have hS_a := hS_x.grown hga hS_x.size (own_block ho4)
 rw [u8s_len, nb_len, ← u8s_append] at ho5
 clear hga ho4
 refine hK (fun w' => Below (w1).heap.size (w1) w') _ _ hS_a (fun _ h => h) ?_
 clear hK K
 try simp only [Act.put, zSa, zSz, zSs]
 refine Tx.eff 6 127 rfl zDk (fun K hK => ?_)
 refine step_append_sl rfl _ _ 22 rfl w1.heap.size 5 Tryz.underlying22 hii hz0 hz1 hz2 rfl u5 52 _ rfl ho5 _ (u8s wl) rfl (hw.out.below (bel kb hS_a)) (u8s_one _) ?c1 ?c2 hS_a.size ?_
 case c1 => rw [u8s_len, hwl]; decide
 case c2 => rw [u8s_len, hwl]; decide
 intro u6 wb ho6 hgb
 have hS_b := hS_a.grown hgb hS_a.size (own_block ho5)
 rw [u8s_len, hwl, ← u8s_append] at ho6
 clear hgb ho5 hS_a hS_x hbW
 refine hK (fun w' => Below (w1).heap.size (w1) w') _ _ hS_b (fun _ h => h) ?_
 clear hK K
 try simp only [Act.put, zSa, zSz, zSs]
 refine Tx.seg (A := ?_) 0 255 zKr (by exact hS_b) [7] zKr ?_ ?_
 rotate_left
 · intro w' hB
   exact zRd
 refine Tx.done zKr ?_
 obtain ⟨T3, hT3⟩ : ∃ T, T1 ++ nb 32 root ++ wl = T := ⟨_, rfl⟩
 rw [hT3] at ho6
 have hT3l : Hid (T3.length = 132) := zH (by rw [← hT3, ← hT1]; simp [pcm1, be8s_len, nb_len, hwl])
 have y35 := mnf_id (k1.below hS_b)
 have hS_b' := zH (Nat.le_trans hS_b.size (Nat.le_succ _))
 have hS_y := bel hS_b (below_alloc wb (.cells #[.int .i64 i] 3))
 have h4 := zH (Sl.new1 wb (.int .i64 i) 3)
 have ho6' := zH (ho6.alloc (.cells #[.int .i64 i] 3))
 have cI2 := zH (fun w' vb vn (h1 : Sl w' vb (u8s T3)) (h2 : Sl w' vn [.int .i64 i]) => refInt_any vb vn T3 [i] w' h1 h2 (by rw [hT3l.out]; simp))
 go_wp2_with fail
 refine (cI2.out _ _ _ (Sl.of_own ho6'.out) h4.out).mono ?_
 rintro e w7 ⟨u7, rfl, ho7, hb7⟩
 replace hS_y := bel hS_y hb7
 rw [show (T3 ++ be8s [i]).length = 140 by rw [List.length_append, be8s_len, hT3l.out]; rfl] at ho7
 clear y35 h4 ho6' ho6 cI2 hb7 hS_b
 replace ho7 := own_mono ho7 (show w1.heap.size ≤ _ from by have := hS_b'.out; simpa using this)
 go_upto_region 6 with fail
 refine Tx.start (fun w' => Below w1.heap.size w1 w') 9999 11 rfl zKr ?_
 have hS_z := hS_y.drew
 refine Tx.seg (A := ?_) 4 239 zKr (by exact hS_z) [0, 1, 2, 3, 5, 6, 7] zKr ?_ ?_
 rotate_left
 · intro w' hB
   exact zRd
 refine Tx.eff 4 255 rfl zDk (fun K hK => ?_)
 refine step_append_sl rfl _ _ 22 rfl w1.heap.size 5 Tryz.underlying22 hii hz0 hz1 hz2 rfl u7 140 _ rfl (own_below ho7 (Below.refl _ _).drew) _ (u8s (nb 32 k)) rfl (mnf_key (k1.below hS_z)) (u8s_one _) ?c1 ?c2 hS_z.size ?_
 case c1 => rw [u8s_len, nb_len]; decide
 case c2 => rw [u8s_len, nb_len]; decide
 intro u8 wc ho8 hgc
 have hS_c := hS_z.grown hgc hS_z.size (own_block ho7)
 rw [u8s_len, nb_len, ← u8s_append] at ho8
 clear hgc ho7
 refine hK (fun w' => Below (w1).heap.size (w1) w') _ _ hS_c (fun _ h => h) ?_
 clear hK K
 try simp only [Act.put, zSa, zSz, zSs]
 refine Tx.eff 8 511 rfl zDk (fun K hK => ?_)
 refine step_append_sl rfl _ _ 22 rfl w1.heap.size 5 Tryz.underlying22 hii hz0 hz1 hz2 rfl u8 172 _ rfl ho8 _ (u8s (nb 32 R1 ++ nb 32 s1)) rfl (mnf_csig (k1.below hS_c)) (u8s_one _) ?c1 ?c2 hS_c.size ?_
 case c1 => simp only [u8s_len, List.length_append, nb_len]; decide
 case c2 => simp only [u8s_len, List.length_append, nb_len]; decide
 intro u9 wd ho9 hgd
 have hS_d := hS_c.grown hgd hS_c.size (own_block ho8)
 clear hgd ho8
 refine hK (fun w' => Below (w1).heap.size (w1) w') _ _ hS_d (fun _ h => h) ?_
 clear hK K
 try simp only [Act.put, zSa, zSz, zSs]
 refine Tx.seg (A := ?_) 0 2047 zKr (by exact hS_d) [9, 10] zKr ?_ ?_
 rotate_left
 · intro w' hB
   exact zRd
 refine Tx.done zKr ?_
 clear ho9
 go_wp2_with fail
 go_ret2
 exact ⟨u9, rfl, bel kb hS_d⟩
theorem extract_any (a d : Option Addr) (ca cd : Nat) (salt key : List UInt8) (w : World) (hs : Sl w (.slice a salt.length ca) (u8s salt)) (hk : Sl w (.slice d key.length cd) (u8s key)) :
 Calls Tryz.prog 115 #[.slice a salt.length ca, .slice d key.length cd] w fun e w' => e = .returned (.agg (bytn 32 (macN salt key)).toArray) ∧ Below w.heap.size w w' := by
 obtain ⟨N, hN⟩ : ∃ N, macN salt key = N := ⟨_, rfl⟩
 have cS := zH (fun (w : World) g (h1 : Sl w (.slice a salt.length ca) (u8s salt)) (h : Sls w (.slice (some ⟨g, 0, none⟩) 1 1) [key]) => show Calls Tryz.prog 170 #[.slice a salt.length ca, .slice (some ⟨g, 0, none⟩) 1 1] w fun e w' => e = .returned (.agg (bytn 32 N).toArray) ∧ Below w.heap.size w w' from by
  have q := macsum_any a (some ⟨g, 0, none⟩) ca 1 salt [key] (by simp) w h1 h
  rw [show [key].flatten = key by simp, hN] at q
  exact q)
 rw [hN]
 obtain ⟨n1, hn1⟩ : ∃ n, salt.length = n := ⟨_, rfl⟩
 obtain ⟨n2, hn2⟩ : ∃ n, key.length = n := ⟨_, rfl⟩
 rw [hn1] at cS hs
 rw [hn2] at hk
 rw [hn1, hn2]
 replace hs := zH hs
 replace hk := zH hk
 clear hN hn1 hn2
 go_enter Tryz.func115, Tryz.ntmps115
 go_upto_region 1 with fail
 refine wp_new1 (fun W hsz k2 kb => ?_)
 replace k2 : Arr W w.heap.size (bytn 32 0) := k2
 clear hsz
 have kb2 := below_alloc W (.cells #[.slice d n2 cd] 22)
 have h1 := zH (Sls.new1 (hk.out.below kb) 22)
 have h0 := zH ((hs.out.below kb).alloc (.cells #[.slice d n2 cd] 22))
 go_wp2_with fail
 refine (cS.out _ _ h0.out h1.out).mono ?_
 rintro e w1 ⟨rfl, hb⟩
 replace hb := bel kb2 hb
 replace k2 := k2.below hb
 replace kb := bel kb hb
 clear hb kb2 h1 h0 cS
 go_wp2_with (refine zSt ?_)
 exact bodyPost_ret (results_arr2 Tryz.results115 _ _ _ rfl zKr _ (by first | assumption | exact Arr.setRow zAm _) zLn) rfl ⟨rfl, below_setRow kb (Nat.le_refl _) _⟩
def wrapL : List UInt8 := [119, 114, 97, 112]
def wkN (e z : Nat) : Nat := keyN (macN (nb 32 e) (nb 32 z)) wrapL
theorem wkey_any (e z : Nat) (w : World) :
 Calls Tryz.prog 66 #[.agg (bytn 32 e).toArray, .agg (bytn 32 z).toArray] w fun r w' => r = .returned (.agg (bytn 32 (wkN e z)).toArray) ∧ Below w.heap.size w w' := by
 obtain ⟨M, hM⟩ : ∃ M, macN (nb 32 e) (nb 32 z) = M := ⟨_, rfl⟩
 obtain ⟨N, hN⟩ : ∃ N, wkN e z = N := ⟨_, rfl⟩
 have cK := zH (fun w => show Calls Tryz.prog 114 #[.agg (bytn 32 M).toArray, .string ⟨#[119, 114, 97, 112]⟩] w fun r w' => r = .returned (.agg (bytn 32 N).toArray) ∧ Below w.heap.size w w' from by rw [← hN, wkN, hM]; exact key_any M ⟨#[119, 114, 97, 112]⟩ zDc w)
 have cE := zH (fun (w : World) g g2 (h1 : Sl w (.slice (some ⟨g, 0, none⟩) 32 32) (u8s (nb 32 e))) (h2 : Sl w (.slice (some ⟨g2, 0, none⟩) 32 32) (u8s (nb 32 z))) => show Calls Tryz.prog 115 #[.slice (some ⟨g, 0, none⟩) 32 32, .slice (some ⟨g2, 0, none⟩) 32 32] w fun r w' => r = .returned (.agg (bytn 32 M).toArray) ∧ Below w.heap.size w w' from by
  have q := extract_any (some ⟨g, 0, none⟩) (some ⟨g2, 0, none⟩) 32 32 (nb 32 e) (nb 32 z) w (by rw [nb_len]; exact h1) (by rw [nb_len]; exact h2)
  rw [nb_len, nb_len, hM] at q
  exact q)
 rw [hN]
 clear hM hN
 go_enter Tryz.func66, Tryz.ntmps66
 go_upto_region 1 with fail
 refine wp_new3 (fun W hsz k2 k3 k4 kb => ?_)
 have h2 := zH (show Sl W (.slice (some ⟨w.heap.size, 0, none⟩) 32 32) (u8s (nb 32 e)) from Sl.ofArrN (by rw [← nb_u8s]; exact k2) (nb_len _ _) zDc)
 have h3 := zH (show Sl W (.slice (some ⟨w.heap.size + 1, 0, none⟩) 32 32) (u8s (nb 32 z)) from Sl.ofArrN (by rw [← nb_u8s]; exact k3) (nb_len _ _) zDc)
 have k4 : Arr W (w.heap.size + 1 + 1) (bytn 32 0) := k4
 clear hsz
 refine Tx.start (fun w' => Below (W).heap.size (W) w') 4 5 rfl zKr ?_
 have hS_1 : Below (W).heap.size (W) (World.drew W) := (Below.refl _ _).drew
 refine Tx.seg (A := ?_) 3 3 zKr (by exact hS_1) [0, 1] zKr ?_ ?_
 rotate_left
 · intro w' hB
   exact zRd
 refine Tx.eff 2 7 rfl zDk (fun K hK => ?_)
 go_simp
 refine (cE.out _ _ _ (h2.out.below hS_1) (h3.out.below hS_1)).mono ?_
 rintro e w_2 ⟨rfl, hb_2⟩
 have hS_2 := ext_trans hS_1 (Nat.le_refl _) hb_2
 refine hK (fun w' => Below (W).heap.size (W) w') _ _ hS_2 (fun _ h => h) ?_
 clear hK K hb_2 hS_1
 try simp only [Act.put, zSa, zSz, zSs]
 refine Tx.eff 3 15 rfl zDk (fun K hK => ?_)
 go_simp
 refine (cK.out _).mono ?_
 rintro e w_3 ⟨rfl, hb_3⟩
 have hS_3 := ext_trans hS_2 (Nat.le_refl _) hb_3
 refine hK (fun w' => Below (W).heap.size (W) w') _ _ hS_3 (fun _ h => h) ?_
 clear hK K hb_3 hS_2
 try simp only [Act.put, zSa, zSz, zSs]
 clear h2 h3
 have k4 := k4.below hS_3
 have kb := bel kb hS_3
 refine Tx.bar 31 rfl zDk (fun K hK => ?_)
 refine step_store_arr rfl _ _ _ rfl _ _ rfl rfl _ zAm zLn zLm zOn ?_
 refine hK (fun _ => True) 9999 _ _ ?_
 clear hK K
 try simp only [Act.put]
 try simp only [zSa, zSz, zSs]
 refine Tx.done zKr ?_
 refine then_row k4 (fun w_4 k4 hoth hbel => ?_)
 have kb := hbel _ _ zOm kb
 clear hoth hbel
 go_wp2_with fail
 exact bodyPost_ret (results_arr2 Tryz.results66 _ _ _ rfl zKr _ k4 (by rw [bytn_len]; kernel_rfl)) rfl ⟨rfl, kb⟩
theorem p_ne {a : Nat} (h : a % pN ≠ 0) : ¬ pN ∣ a := fun hd => h (Nat.mod_eq_zero_of_dvd hd)
theorem fermat_p {a : Nat} (h : a % pN ≠ 0) : a ^ (pN - 1) % pN = 1 := Nt.fermat pN_prime (p_ne h)
theorem mul_ne {a b : Nat} (ha : a < pN) (hb : b < pN) (a0 : a ≠ 0) (b0 : b ≠ 0) : a * b % pN ≠ 0 := by
 intro h
 rcases pN_prime.dvd_mul (Nat.dvd_of_mod_eq_zero h) with h1 | h1
 · exact a0 (Nat.eq_zero_of_dvd_of_lt h1 ha)
 · exact b0 (Nat.eq_zero_of_dvd_of_lt h1 hb)
theorem lmul_lt (k u : Nat) : lmulN k u < 256 ^ 32 := p_lt32 _
theorem lmul_nil {k u : Nat} (h : (ladT (u % 2 ^ 255 % pN) (clampN k) 255).b = 0) : lmulN k u = 0 := by
 rw [lmulN, h, Nat.zero_pow zDc, Nat.zero_mod, Nat.mul_zero, Nat.zero_mod]
theorem lmul_r {k u r : Nat} (hr : Hid (lmulN k u = r)) (hk : k < 256 ^ 32) (hu : u < 256 ^ 32) (w : World) :
 Calls Tryz.prog 67 #[.agg (byts k).toArray, .agg (byts u).toArray] w fun e w' => e = .returned (.agg (byts r).toArray) ∧ Below w.heap.size w w' := by
 rw [← hr.out]; exact lmul_any k u hk hu w
theorem lmul9_r {k r : Nat} (hr : Hid (lmulN k 9 = r)) (hk : k < 256 ^ 32) (w : World) :
 Calls Tryz.prog 67 #[.agg (byts k).toArray, .agg #[.int .u8 9, .int .u8 0, .int .u8 0, .int .u8 0, .int .u8 0, .int .u8 0, .int .u8 0, .int .u8 0, .int .u8 0, .int .u8 0, .int .u8 0, .int .u8 0, .int .u8 0, .int .u8 0, .int .u8 0, .int .u8 0, .int .u8 0, .int .u8 0, .int .u8 0, .int .u8 0, .int .u8 0, .int .u8 0, .int .u8 0, .int .u8 0, .int .u8 0, .int .u8 0, .int .u8 0, .int .u8 0, .int .u8 0, .int .u8 0, .int .u8 0, .int .u8 0]] w fun e w' => e = .returned (.agg (byts r).toArray) ∧ Below w.heap.size w w' := by
 have := lmul_any k 9 hk zDc w
 rw [byts_lit 9 zDc, hr.out] at this
 exact this
theorem lpublic_r {k r : Nat} (hr : Hid (lmulN k 9 = r)) (hk : k < 256 ^ 32) (w : World) :
 Calls Tryz.prog 24 #[.agg (byts k).toArray] w fun e w' => e = .returned (.agg (byts r).toArray) ∧ Below w.heap.size w w' := by
 have c1 := zH (fun w => lmul9_r hr hk w)
 go_enter Tryz.func24, Tryz.ntmps24
 go_upto_region 1 with fail
 refine wp_new2 (fun W hsz k1 k2 kb => ?_)
 have k2 : Arr W (w.heap.size + 1) (byts 0) := k2
 clear hsz
 go_upto_region 1 with (first | (refine zLd ?_) | (refine zSt ?_))
 go_wp2_with (first | (refine zLd ?_) | (refine zSt ?_))
 refine (c1.out _).mono ?_
 rintro e w_1 ⟨rfl, hb_1⟩
 have k2 := k2.below hb_1
 have kb := bel kb hb_1
 clear hb_1
 go_wp2_with (first | (refine zLd ?_) | (refine zSt ?_))
 exact bodyPost_ret (results_arr2 Tryz.results24 _ _ _ rfl zKr _ (by first | assumption | exact Arr.setRow zAm _) zLn) rfl ⟨rfl, below_setRow kb zOm _⟩
theorem lshared_r {k u r : Nat} (hr : Hid (lmulN k u = r)) (hk : k < 256 ^ 32) (hu : u < 256 ^ 32) {e0 : Int} (he : e0 = if r = 0 then 21 else 0) (w : World) :
 Calls Tryz.prog 64 #[.agg (byts k).toArray, .agg (byts u).toArray] w fun e w' => e = .returned (.tuple #[.agg (byts r).toArray, .int .i64 e0]) ∧ Below w.heap.size w w' := by
 have c1 := zH (fun w => lmul_r hr hk hu w)
 have lr : r < 256 ^ 32 := hr.out ▸ lmul_lt k u
 have b0 := zH byts_0
 by_cases hz : r = 0
 · have q := eq_num0 (b := true) (decide_eq_true hz) lr
   rw [if_pos hz] at he
   subst he
   have hr0 := zH hz
   clear hz hr
   go_enter Tryz.func64, Tryz.ntmps64
   go_upto_region 1 with fail
   refine wp_new3 (fun W hsz k2 k3 k4 kb => ?_)
   have k4 : Arr W (w.heap.size + 1 + 1) (byts 0) := k4
   clear hsz
   go_upto_region 1 with (first | (refine zLd ?_) | (refine zSt ?_))
   go_wp2_with (first | (refine zLd ?_) | (refine zSt ?_))
   refine (c1.out _).mono ?_
   rintro e w_2 ⟨rfl, hb_2⟩
   have k2 := k2.below hb_2
   have k3 := k3.below hb_2
   have k4 := k4.below hb_2
   have kb := bel kb hb_2
   clear hb_2
   go_upto_region 2 with (first | (refine zLd ?_) | (refine zSt ?_))
   have hg_k6_k2 := k2.lt
   have hg_k6_k3 := k3.lt
   have hg_k6_k4 := k4.lt
   refine code_new (fun w_3 k6 hnew => ?_)
   have k2 := k2.below hnew
   have k3 := k3.below hnew
   have k4 := k4.below hnew
   have kb := bel kb hnew
   clear hnew
   generalize (w_2).heap.size = g_k6 at k6 hg_k6_k2 hg_k6_k3 hg_k6_k4 ⊢
   go_wp2_with (first | (refine zLd ?_) | (refine wpList_store_arr rfl _ _ _ rfl _ (byts 0) rfl (by rw [b0.out]; rfl) _ k4 (by rw [byts_len]; kernel_rfl) rfl (byts_one _) ?_))
   exact bodyPost_ret (results_arr_tmp Tryz.results64 _ _ _ _ rfl Tryz.underlying25 rfl _ (k4.setRow _) (by rw [byts_len]; kernel_rfl) _ rfl) rfl ⟨by rw [hr0.out]; rfl, below_setRow kb zOm _⟩
 · have q := eq_num0 (b := false) (decide_eq_false hz) lr
   rw [if_neg hz] at he
   subst he
   replace hz := zH hz
   clear hr
   go_enter Tryz.func64, Tryz.ntmps64
   go_upto_region 1 with fail
   refine wp_new3 (fun W hsz k2 k3 k4 kb => ?_)
   have k4 : Arr W (w.heap.size + 1 + 1) (byts 0) := k4
   clear hsz
   go_upto_region 1 with (first | (refine zLd ?_) | (refine zSt ?_))
   go_wp2_with (first | (refine zLd ?_) | (refine zSt ?_))
   refine (c1.out _).mono ?_
   rintro e w_4 ⟨rfl, hb_4⟩
   have k2 := k2.below hb_4
   have k3 := k3.below hb_4
   have k4 := k4.below hb_4
   have kb := bel kb hb_4
   clear hb_4
   go_upto_region 2 with (first | (refine zLd ?_) | (refine zSt ?_))
   have hg_k6_k2 := k2.lt
   have hg_k6_k3 := k3.lt
   have hg_k6_k4 := k4.lt
   refine code_new (fun w_5 k6 hnew => ?_)
   have k2 := k2.below hnew
   have k3 := k3.below hnew
   have k4 := k4.below hnew
   have kb := bel kb hnew
   clear hnew
   generalize (w_4).heap.size = g_k6 at k6 hg_k6_k2 hg_k6_k3 hg_k6_k4 ⊢
   go_wp2_with (first | (refine zLd ?_) | (refine zSt ?_))
   exact bodyPost_ret (results_arr_tmp Tryz.results64 _ _ _ _ rfl Tryz.underlying25 rfl _ (k4.setRow _) (by rw [byts_len]; kernel_rfl) _ rfl) rfl ⟨rfl, below_setRow kb zOm _⟩
end Go.Proofs.YtncnlfpiondpnaaGreat
