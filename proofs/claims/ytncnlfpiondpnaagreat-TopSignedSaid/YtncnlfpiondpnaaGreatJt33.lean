/- TopSigned: part 33 of its proof: lemmas and contracts, each with its conditions in its own statement; the last part holds the law itself. -/
import Derived.Test.YtncnlfpiondpnaaGreatJt32
import Derived.Lib.SlBytesConst
import Derived.OwnWalk

set_option maxHeartbeats 4000000
set_option maxRecDepth 100000
namespace Go.Proofs.YtncnlfpiondpnaaGreat
open Go.RowKit
def otv (x : Option Addr) (r s : Nat) (c m : Int) : List Value   := .pointer x :: (bytn 32 r ++ (bytn 32 s ++ [.int .i64 c, .int .i64 m]))
theorem otv_r {fv : Option Addr} {r s : Nat} {c m : Int} {j : Nat} (hj : j < (bytn 32 r).length) : (otv fv r s c m)[1 + j]? = (bytn 32 r)[j]? := by
 rw [otv, Nat.add_comm 1 j, List.getElem?_cons_succ, List.getElem?_append_left hj]
theorem otv_s {fv : Option Addr} {r s : Nat} {c m : Int} {j : Nat} (hj : j < (bytn 32 s).length) : (otv fv r s c m)[33 + j]? = (bytn 32 s)[j]? := by
 rw [otv, show 33 + j = (32 + j) + 1 by omega, List.getElem?_cons_succ, List.getElem?_append_right (by rw [bytn_len]; omega), bytn_len, show 32 + j - 32 = j by omega, List.getElem?_append_left hj]
theorem otv_c (fv : Option Addr) (r s : Nat) (c m : Int) : (otv fv r s c m)[65]? = some (.int .i64 c) ∧ (otv fv r s c m)[66]? = some (.int .i64 m) := by
 constructor
 · rw [otv, show (65 : Nat) = 64 + 1 from rfl, List.getElem?_cons_succ, List.getElem?_append_right (by rw [bytn_len]; omega), bytn_len, List.getElem?_append_right (by rw [bytn_len]; omega), bytn_len]; rfl
 · rw [otv, show (66 : Nat) = 65 + 1 from rfl, List.getElem?_cons_succ, List.getElem?_append_right (by rw [bytn_len]; omega), bytn_len, List.getElem?_append_right (by rw [bytn_len]; omega), bytn_len]; rfl
theorem otv_set (fv : Option Addr) (r s : Nat) (c m c' : Int) : (otv fv r s c m).set 65 (.int .i64 c') = otv fv r s c' m := by
 rw [otv, otv, show (65 : Nat) = 64 + 1 from rfl, List.set_cons_succ, List.set_append_right _ _ (by rw [bytn_len]; omega), bytn_len, List.set_append_right _ _ (by rw [bytn_len]; omega), bytn_len]; rfl
theorem onew_any (fv : Option Addr) (r s n : Nat) (h0 : 0 < n) (hn : n ≤ 1000000) (w : World) :
 Calls Tryz.prog 13 #[.pointer fv, .agg (bytn 32 r).toArray, .agg (bytn 32 s).toArray, .int .i64 (n : Int)] w fun e w' => ∃ q, e = .returned (.pointer (some ⟨q, 0, none⟩)) ∧ w.heap.size ≤ q ∧ Arr w' q (otv fv r s 0 (n : Int)) ∧ Below w.heap.size w w' := by
 have n0 : (0 : Int) < (n : Int) := by omega
 have n1 : (n : Int) ≤ 1000000 := by omega
 obtain ⟨X, hX⟩ : ∃ X, otv fv r s 0 (n : Int) = X := ⟨_, rfl⟩
 rw [hX]
 replace hX := zH hX
 go_enter Tryz.func13, Tryz.ntmps13
 go_upto_region 1 with fail
 refine wp_new2 (fun W hsz k5 k6 kb => ?_)
 replace k5 : Arr W w.heap.size (bytn 32 r) := k5
 replace k6 : Arr W (w.heap.size + 1) (bytn 32 s) := k6
 clear hsz
 go_wp2_with (first | (refine wpList_load_arr2 rfl _ _ rfl _ rfl zDk _ k5 (by rw [bytn_len]; kernel_rfl) ?_) | (refine wpList_load_arr2 rfl _ _ rfl _ rfl zDk _ k6 (by rw [bytn_len]; kernel_rfl) ?_) | (refine wpList_builta rfl _ _ rfl (otv fv r s 0 (n : Int)).toArray zKr ?_; rw [hX.out]))
 go_ret
 exact ⟨_, rfl, kb.size, Arr.new _ _ _, bel kb (below_alloc _ _)⟩
theorem oroot_any (q : Nat) (fv : Option Addr) (r s : Nat) (c m : Int) (w : World) (k0 : Arr w q (otv fv r s c m)) :
 Calls Tryz.prog 50 #[.pointer (some ⟨q, 0, none⟩)] w fun e w' => e = .returned (.agg (bytn 32 r).toArray) ∧ Below w.heap.size w w' := by
 have hr : Hid (∀ w', Arr w' q (otv fv r s c m) → w'.rangeAt q 1 (bytn 32 r)) := zH (fun w' h => h.range (fun j hj => otv_r hj))
 go_enter Tryz.func50, Tryz.ntmps50
 go_upto_region 1 with fail
 refine wp_new1 (fun W hsz k2 kb => ?_)
 replace k2 : Arr W w.heap.size (bytn 32 0) := k2
 have hr1 := hr.out W (k0.below kb)
 clear hsz k0 hr
 go_wp2_with (first | (refine wpList_load_mid2 rfl _ _ rfl _ _ rfl zKr _ hr1 (by rw [bytn_len]; kernel_rfl) ?_) | (refine wpl_storeG rfl _ _ _ rfl _ (bytn 32 r) rfl rfl _ k2 (by rw [bytn_len]; kernel_rfl) (by rw [bytn_len, bytn_len]) (bytn_one _ _) (fun w9 k2 hg hsz => ?_)))
 have qb := below_gr kb hg (Nat.le_refl _) kb.size
 exact bodyPost_ret (results_arr2 Tryz.results50 _ _ _ rfl zKr _ k2 (by rw [bytn_len]; kernel_rfl)) rfl ⟨rfl, qb⟩
theorem osecret_any (q : Nat) (fv : Option Addr) (r s : Nat) (c m : Int) (w : World) (k0 : Arr w q (otv fv r s c m)) :
 Calls Tryz.prog 51 #[.pointer (some ⟨q, 0, none⟩)] w fun e w' => e = .returned (.agg (bytn 32 s).toArray) ∧ Below w.heap.size w w' := by
 have hr : Hid (∀ w', Arr w' q (otv fv r s c m) → w'.rangeAt q 33 (bytn 32 s)) := zH (fun w' h => h.range (fun j hj => otv_s hj))
 go_enter Tryz.func51, Tryz.ntmps51
 go_upto_region 1 with fail
 refine wp_new1 (fun W hsz k2 kb => ?_)
 replace k2 : Arr W w.heap.size (bytn 32 0) := k2
 have hr1 := hr.out W (k0.below kb)
 clear hsz k0 hr
 go_wp2_with (first | (refine wpList_load_mid2 rfl _ _ rfl _ _ rfl zKr _ hr1 (by rw [bytn_len]; kernel_rfl) ?_) | (refine wpl_storeG rfl _ _ _ rfl _ (bytn 32 s) rfl rfl _ k2 (by rw [bytn_len]; kernel_rfl) (by rw [bytn_len, bytn_len]) (bytn_one _ _) (fun w9 k2 hg hsz => ?_)))
 have qb := below_gr kb hg (Nat.le_refl _) kb.size
 exact bodyPost_ret (results_arr2 Tryz.results51 _ _ _ rfl zKr _ k2 (by rw [bytn_len]; kernel_rfl)) rfl ⟨rfl, qb⟩
theorem ocount_any (q : Nat) (fv : Option Addr) (r s : Nat) (c m : Int) (w : World) (k0 : Arr w q (otv fv r s c m)) :
 Calls Tryz.prog 17 #[.pointer (some ⟨q, 0, none⟩)] w fun e w' => e = .returned (.int .i64 c) ∧ w' = w := by
 have hc := k0.cell (otv_c fv r s c m).1
 clear k0
 go_enter Tryz.func17, Tryz.ntmps17
 go_wp2_with fail
 go_ret
 exact ⟨rfl, rfl⟩
theorem omost_any (q : Nat) (fv : Option Addr) (r s : Nat) (c m : Int) (w : World) (k0 : Arr w q (otv fv r s c m)) :
 Calls Tryz.prog 128 #[.pointer (some ⟨q, 0, none⟩)] w fun e w' => e = .returned (.int .i64 m) ∧ w' = w := by
 have hc := k0.cell (otv_c fv r s c m).2
 clear k0
 go_enter Tryz.func128, Tryz.ntmps128
 go_wp2_with fail
 go_ret
 exact ⟨rfl, rfl⟩
theorem ostep_never (q p g r s c m : Nat) (F : Fl) (w : World) (k0 : Arr w q (otv (some ⟨p, 0, none⟩) r s c m)) (kf : FlAt w p g F) (hop : F.op = -1) (hd : F.dead = false) (hcm : c < m) (hm : m ≤ 1000000) (hqp : q ≠ p) (hqg : q ≠ g) :
 Calls Tryz.prog 130 #[.pointer (some ⟨q, 0, none⟩)] w fun e w' => e = .returned (.int .i64 0) ∧ Arr w' q (otv (some ⟨p, 0, none⟩) r s ((c + 1 : Nat) : Int) m) ∧ FlAt w' p g F ∧ Ch [p, q] w w' := by
 obtain ⟨e1, e2⟩ := otv_c (some ⟨p, 0, none⟩) r s c m
 have e0 : (otv (some ⟨p, 0, none⟩) r s c m)[0]? = some (.pointer (some ⟨p, 0, none⟩)) := rfl
 replace e0 := zH e0
 replace e1 := zH e1
 replace e2 := zH e2
 have hset := zH (otv_set (some ⟨p, 0, none⟩) r s (c : Int) m ((c + 1 : Nat) : Int))
 have hne : ((c : Int) == (m : Int)) = false := by simp; omega
 have hc1 : (c : Int) < 1000000 := by omega
 have hc0 : (0 : Int) ≤ (c : Int) := by omega
 clear hcm hm
 replace hop := zH hop
 replace hd := zH hd
 go_enter Tryz.func130, Tryz.ntmps130
 go_upto_region 1 with fail
 refine Tx.start (fun w' => Below (w).heap.size (w) w') 9999 10 rfl zKr ?_
 have hS_1 : Below (w).heap.size (w) (World.drew w) := (Below.refl _ _).drew
 refine Tx.seg (A := ?_) 0 1023 zKr (by exact hS_1) [0, 1, 2, 3, 4, 5, 6, 7, 8, 9] zKr ?_ ?_
 rotate_left
 · intro w' hB
   have f1 := (k0.below hB).cell e1.out
   have f2 := (k0.below hB).cell e2.out
   exact zRd
 refine Tx.done zKr ?_
 have hch := Ch.of_below (M := [p, q]) hS_1
 replace k0 := k0.below hS_1
 replace kf := kf.below hS_1
 clear hS_1 hne e2
 obtain ⟨wq, hwq⟩ : ∃ wq : World, w.drew = wq := ⟨_, rfl⟩
 rw [hwq] at k0 kf hch ⊢
 clear hwq
 have c1 := zH (fturn_never p g F wq kf hop.out hd.out)
 have h0 := k0.cell e0.out
 go_wp2_with fail
 refine c1.out.mono ?_
 rintro e w1 ⟨rfl, kf1, hc⟩
 replace k0 := k0.ch hc (by simp; exact hqp)
 replace hch := hch.trans (hc.mono (by simp))
 clear c1 hc h0 kf
 have h1 := k0.cell e1.out
 have h2 := k0.frozen 65
 go_wp2_with fail
 go_ret
 have k1 := k0.set 65 (.int .i64 ((c + 1 : Nat) : Int))
 rw [hset.out] at k1
 have hc2 : Ch [p, q] w1 (w1.setCell ⟨q, 65, none⟩ (.int .i64 ((c + 1 : Nat) : Int))) := Ch.of_gr (gr_cell _ q 65 _) (by simp)
 exact ⟨rfl, k1, kf1.ch (Ch.of_gr (M := [q]) (gr_cell _ q 65 _) (by simp)) (by simp; exact Ne.symm hqp) (by simp; exact Ne.symm hqg), hch.trans hc2⟩
theorem Sl.newMk (w : World) (A : Array Value) (T : TypeId) (fr : Nat × Nat) (g : Nat) (hg : g = w.heap.size) (n : Nat) (hn : A.size = n) (hm : n ≤ maxLen) : Sl (w.alloc (.cells A T fr)) (.slice (some ⟨g, 0, none⟩) n n) A.toList := by
 have hl : A.toList.length = n := by rw [← hn]; simp
 refine ⟨some ⟨g, 0, none⟩, n, by rw [hl], by rw [hl]; exact Nat.le_refl _, hm, (fun h => by cases h), fun x hx j u hu => ?_⟩
 cases hx
 subst hg
 rw [Addr.add_lit, Nat.zero_add, World.cell?_alloc_mark]
 simpa using hu
theorem Arr.belowB {B : Nat} {w w' : World} {g : Nat} {xs : List Value} (h : Arr w g xs) (hb : Below B w w') (hg : g < B) : Arr w' g xs := by
 obtain ⟨T, h⟩ := h
 exact ⟨T, by rw [hb.block g hg]; exact h⟩
def pcb1 : List UInt8 := [80, 67, 66, 49]
def bankL : List UInt8 := [98, 97, 110, 107]
def recM (n : Int) (x : List UInt8) : List UInt8 := pcb1 ++ be8s [n, (x.length : Int)] ++ x
def recL (s : Nat) (n : Int) (x : List UInt8) : List UInt8 := recM n x ++ nb 32 (macN (nb 32 (keyN s bankL)) (recM n x))
theorem recM_len (n : Int) (x : List UInt8) : (recM n x).length = 20 + x.length := by simp [recM, pcb1, be8s_len]; omega
theorem recL_len (s : Nat) (n : Int) (x : List UInt8) : (recL s n x).length = 52 + x.length := by rw [recL, List.length_append, recM_len, nb_len]; omega
theorem record_any (s n : Nat) (a : Option Addr) (c : Nat) (x : List UInt8) (hn : n ≤ 1000000000) (hx : x.length ≤ 4096) (w : World) (hs : Sl w (.slice a x.length c) (u8s x)) :
 Calls Tryz.prog 176 #[.agg (bytn 32 s).toArray, .int .i64 (n : Int), .slice a x.length c] w fun e w' =>
  ∃ v, e = .returned (.tuple #[v, .int .i64 0]) ∧ w'.ownsRow w.heap.size 5 1 v (recL s n x).length (u8s (recL s n x)) ∧ Below w.heap.size w w' := by
 obtain ⟨R, hR⟩ : ∃ R, recL s n x = R := ⟨_, rfl⟩
 rw [hR]
 obtain ⟨M, hM⟩ : ∃ M, recM n x = M := ⟨_, rfl⟩
 obtain ⟨K, hK⟩ : ∃ K, keyN s bankL = K := ⟨_, rfl⟩
 have hMl : Hid (M.length = 20 + x.length) := zH (by rw [← hM]; exact recM_len _ _)
 have hR2 : Hid (R = M ++ nb 32 (macN (nb 32 K) M)) := zH (by rw [← hR, recL, hK, hM])
 have hM2 : Hid (pcb1 ++ be8s [(n : Int), (x.length : Int)] ++ x = M) := zH hM
 have ck := zH (show ∀ w, Calls Tryz.prog 114 #[.agg (bytn 32 s).toArray, .string ⟨#[98, 97, 110, 107]⟩] w fun e w' => e = .returned (.agg (bytn 32 K).toArray) ∧ Below w.heap.size w w' from fun w => by
  rw [← hK]
  exact key_any s ⟨#[98, 97, 110, 107]⟩ zDc w)
 have hcv := fun (w : World) (C : Array Value) (n c : Nat) => Lib.run_convert_bytes_const (P := Tryz.prog) w 22 5 C n c Tryz.underlying22 Tryz.underlying5
 obtain ⟨L, hL⟩ : ∃ L, x.length = L := ⟨_, rfl⟩
 rw [hL] at hx hs hM2 hMl ⊢
 have n0 : (0 : Int) ≤ (n : Int) := by omega
 have n1 : (n : Int) ≤ 1000000000 := by omega
 have l1 : (L : Int) ≤ 4096 := by omega
 replace hs := zH hs
 replace hL := zH hL
 have hx2 := zH hx
 clear hR hM hK hn hx
 obtain ⟨i, hi, hz0, hz1, hz2⟩ := info_parts info_u8
 replace hi := zH hi
 replace hz0 := zH hz0
 replace hz1 := zH hz1
 replace hz2 := zH hz2
 go_enter Tryz.func176, Tryz.ntmps176
 go_upto_region 1 with fail
 refine wp_new1 (fun W hsz k3 kb => ?_)
 replace k3 : Arr W w.heap.size (bytn 32 s) := k3
 obtain ⟨g3, hg3⟩ : ∃ g, w.heap.size = g := ⟨_, rfl⟩
 rw [hg3] at k3 ⊢
 have hW0 : g3 + 1 ≤ W.heap.size := by omega
 replace hg3 := zH hg3
 clear hsz
 go_wp2_with fail
 have n1' : Sl (W.alloc (.cells #[.int .u8 80, .int .u8 67, .int .u8 66, .int .u8 49] 5 (4, 5))) (.slice (some ⟨W.heap.size, 0, none⟩) 4 4) (u8s pcb1) := Sl.newMk _ _ _ _ _ rfl _ rfl zDc
 have n2 := n1'.alloc (.cells #[.int .i64 (n : Int), .int .i64 (L : Int)] 3)
 have n3 : Sl ((W.alloc (.cells #[.int .u8 80, .int .u8 67, .int .u8 66, .int .u8 49] 5 (4, 5))).alloc (.cells #[.int .i64 (n : Int), .int .i64 (L : Int)] 3)) (.slice (some ⟨W.heap.size + 1, 0, none⟩) 2 2) (([(n : Int), (L : Int)] : List Int).map (.int .i64)) := Sl.newMk _ _ _ _ _ (by simp) _ rfl zDc
 refine (packInt_any _ _ pcb1 [(n : Int), (L : Int)] _ n2 n3 (by simp [pcb1])).mono ?_
 rintro e w2 ⟨v2, rfl, o2, hb2⟩
 have hb3 := bel ((below_alloc W (.cells #[.int .u8 80, .int .u8 67, .int .u8 66, .int .u8 49] 5 (4, 5))).alloc (by simp) (.cells #[.int .i64 (n : Int), .int .i64 (L : Int)] 3)) hb2
 have hbW := hb3
 replace k3 := k3.below hb3
 have hsW := hs.out.below kb
 have hs2 := zH (hsW.below hb3)
 replace kb := bel kb hb3
 have hsz2 : g3 + 1 ≤ w2.heap.size := by have := hb3.size; omega
 have o2' := own_mono (base' := g3 + 1) o2 (by simp; omega)
 clear n1' n2 n3 hb2 hb3 o2 hsW hbW
 obtain ⟨P, hP⟩ : ∃ P, pcb1 ++ be8s [(n : Int), (L : Int)] = P := ⟨_, rfl⟩
 rw [hP] at o2' hM2
 have hPl : Hid (P.length = 20) := zH (by rw [← hP]; simp [pcb1, be8s_len])
 clear hP
 go_upto_region 6 with (at_builtin; refine wpList_append_sl rfl _ _ 22 rfl (g3 + 1) 5 Tryz.underlying22 hi.out hz0.out hz1.out hz2.out rfl _ _ _ rfl o2' _ (u8s x) rfl hs2.out (u8s_one x) ?c2 ?c3 hsz2 (fun v8 w3 hown hg => ?_))
 case c2 => rw [hPl.out, u8s_len, hL.out]; have := hx2.out; unfold maxLen; omega
 case c3 => rw [hPl.out, u8s_len, hL.out]; have := hx2.out; omega
 have hb4 : Below (g3 + 1) w2 w3 := below_grown (Below.refl _ _) o2' hsz2 hg
 replace k3 := k3.belowB hb4 (Nat.lt_succ_self _)
 replace kb := kb.trans (hb4.mono (by have := hg3.out; omega))
 have hsz3 : g3 + 1 ≤ w3.heap.size := by have := hb4.size; omega
 rw [u8s_len, ← List.length_append, ← u8s_append, hM2.out] at hown
 obtain ⟨a8, c8, he8, -⟩ := Sl.of_own hown
 rw [u8s_len] at he8
 subst he8
 have o8 := zH hown
 clear hown hg hb4 o2' hs2 hsz2 hM2 hPl
 go_wp2_with (refine wpList_load_arr2 rfl _ _ rfl _ rfl zDk _ k3 (by rw [bytn_len]; kernel_rfl) ?_)
 refine (ck.out _).mono ?_
 rintro e w4 ⟨rfl, hb⟩
 replace kb := bel kb hb
 have hsz4 : g3 + 1 ≤ w4.heap.size := by have := hb.size; omega
 have o9 := zH (own_below o8.out hb)
 clear hb k3 o8 hsz3 ck
 go_upto_region 7 with (refine wpl_storeG rfl _ _ _ rfl _ (bytn 32 K) rfl rfl _ (Arr.new _ _ _) (by rw [bytn_len]; kernel_rfl) (by rw [bytn_len]; rfl) (bytn_one _ _) (fun w5 k9 hg hsz => ?_))
 have hb := below_fresh hg
 replace kb := bel kb hb
 have hsz5 : g3 + 1 ≤ w5.heap.size := by have := hb.size; omega
 have o10 := zH (own_below o9.out hb)
 obtain ⟨g9, hg9⟩ : ∃ g, w4.heap.size = g := ⟨_, rfl⟩
 rw [hg9] at k9 ⊢
 clear hb hsz hg hg9 o9 hsz4
 rw [nb_u8s] at k9
 have h9 := Sl.ofArrN k9 (nb_len 32 K) zDc
 have hS8 := Sl.of_own o10.out
 have hSs : Sls (w5.alloc (.cells #[.slice a8 M.length c8] 22)) (.slice (some ⟨w5.heap.size, 0, none⟩) 1 1) [M] := Sls.new1 hS8 _
 obtain ⟨N, hN⟩ : ∃ N, macN (nb 32 K) M = N := ⟨_, rfl⟩
 have cm := macsum_any (some ⟨g9, 0, none⟩) (some ⟨w5.heap.size, 0, none⟩) 32 1 (nb 32 K) [M] (by simp) _ (by rw [nb_len]; exact h9.alloc _) hSs
 rw [nb_len, show [M].flatten = M by simp, hN, show [M].length = 1 from rfl] at cm
 replace cm := zH cm
 have hR3 : Hid (R = M ++ nb 32 N) := zH (by rw [hR2.out, hN])
 clear hSs hS8 h9 k9 hN hR2
 go_wp2_with fail
 refine cm.out.mono ?_
 rintro e w6 ⟨rfl, hb0⟩
 have hb := bel (below_alloc w5 (.cells #[.slice a8 M.length c8] 22)) hb0
 replace kb := bel kb hb
 have hsz6 : g3 + 1 ≤ w6.heap.size := by have := hb.size; omega
 have o11 := zH (own_below o10.out hb)
 clear hb0 hb o10 cm hsz5
 go_upto_region 8 with (refine wpl_storeG rfl _ _ _ rfl _ (bytn 32 N) rfl rfl _ (Arr.new _ _ _) (by rw [bytn_len]; kernel_rfl) (by rw [bytn_len]; rfl) (bytn_one _ _) (fun w7 k10 hg hsz => ?_))
 have hb := below_fresh hg
 replace kb := bel kb hb
 have hsz7 : g3 + 1 ≤ w7.heap.size := by have := hb.size; omega
 have o12 := zH (own_below o11.out hb)
 obtain ⟨g10, hg10⟩ : ∃ g, w6.heap.size = g := ⟨_, rfl⟩
 rw [hg10] at k10 ⊢
 clear hb hsz hg hg10 o11 hsz6
 rw [nb_u8s] at k10
 have h10 := zH (Sl.ofArrN k10 (nb_len 32 N) zDc)
 clear k10
 go_wp2_with (at_builtin; refine wpList_append_sl rfl _ _ 22 rfl (g3 + 1) 5 Tryz.underlying22 hi.out hz0.out hz1.out hz2.out rfl _ _ _ rfl o12.out _ (u8s (nb 32 N)) rfl h10.out (u8s_one _) ?c2 ?c3 hsz7 (fun v9 w8 hown hg => ?_))
 case c2 => rw [hMl.out, u8s_len, nb_len]; have := hx2.out; unfold maxLen; omega
 case c3 => rw [hMl.out, u8s_len, nb_len]; have := hx2.out; omega
 have hb4 : Below (g3 + 1) w7 w8 := below_grown (Below.refl _ _) o12.out hsz7 hg
 replace kb := kb.trans (hb4.mono (by have := hg3.out; omega))
 rw [u8s_len, ← List.length_append, ← u8s_append, ← hR3.out] at hown
 go_wp2_with fail
 go_ret2
 exact ⟨v9, rfl, own_mono hown (by have := hg3.out; omega), kb⟩
theorem strBk {w : World} {v : Value} {bs : List UInt8} (h : Sl w v (u8s bs)) : (convert 22 9 v).run Tryz.prog w = .ok (.string ⟨bs.toArray⟩) w :=
 run_string_sl h _ _ _ Tryz.underlying22 Tryz.underlying5 Tryz.underlying9
def hJ (w : World) (a' : Act) (w' : World) : Prop := a'.defers = [] ∧ a'.tmps.size = 84 ∧ Below w.heap.size w w'
theorem half_fresh (p g s k : Nat) (F : Fl) (w : World) (k0 : FlAt w p g F) (hd : F.dead = false) (hlen : 16384 ≤ F.b.length) (hk : k < 2) (hf : (F.b.drop (8192 * k)).take 4 = [255, 255, 255, 255]) :
 Calls Tryz.prog 174 #[.pointer (some ⟨p, 0, none⟩), .agg (bytn 32 s).toArray, .int .i64 (k : Int)] w fun e w' => e = .returned (.tuple #[.int .i64 0, .slice none 0 0, .bool false]) ∧ Below w.heap.size w w' := by
 have hl := k0.len
 obtain ⟨o, ho⟩ : ∃ o, 8192 * k = o := ⟨_, rfl⟩
 rw [ho] at hf
 have cR := zH (show ∀ w', Below w.heap.size w w' → Calls Tryz.prog 206 #[.pointer (some ⟨p, 0, none⟩), .int .i64 (o : Int), .int .i64 4148] w' _ from fun w' hb => fread_any p g o 4148 F w' (k0.below hb) hd zOm zOm)
 have cD := zH (show ∀ w', Below w.heap.size w w' → Calls Tryz.prog 52 #[.pointer (some ⟨p, 0, none⟩)] w' (fun e w2 => e = .returned (.bool false) ∧ w2 = w') from fun w' hb => by have := fdead_any p g F w' (k0.below hb); rwa [hd] at this)
 obtain ⟨q, hq⟩ : ∃ q, F.b.length / 256 = q := ⟨_, rfl⟩
 have hq64 : (64 : Int) ≤ (q : Int) := by omega
 have cS := zH (show ∀ w', Below w.heap.size w w' → Calls Tryz.prog 44 #[.pointer (some ⟨p, 0, none⟩)] w' (fun e w2 => e = .returned (.int .i64 (q : Int)) ∧ w2 = w') from fun w' hb => by have := fsize_any p g F w' (k0.below hb); rwa [hq] at this)
 have hbl : ((F.b.drop o).take 4148).length = 4148 := by rw [List.length_take, List.length_drop]; omega
 obtain ⟨B, hB⟩ : ∃ B, (F.b.drop o).take 4148 = B := ⟨_, rfl⟩
 have hB4 : Hid (B.take 4 = [255, 255, 255, 255]) := zH (by rw [← hB, List.take_take]; exact hf)
 rw [hB] at cR hbl
 replace hbl := zH hbl
 have k1 : (k : Int) < 2 := by omega
 have k00 : (0 : Int) ≤ (k : Int) := by omega
 have hoI : (k : Int) * 32 * 256 = (o : Int) := by omega
 clear hf hB hq hl ho hlen hd k0
 go_enter Tryz.func174, Tryz.ntmps174
 go_wp2_with fail
 refine wp_scope_jumps 0 (hJ w) (fun _ _ => 0) rfl ?_ ?_
 rotate_left
 · rintro ⟨T, D⟩ wr ⟨hD, hT, kb⟩
   have hTe : T = (slta T 0 :: slta T 1 :: slta T 2 :: slta T 3 :: slta T 4 :: slta T 5 :: slta T 6 :: slta T 7 :: slta T 8 :: slta T 9 :: slta T 10 :: slta T 11 :: slta T 12 :: slta T 13 :: slta T 14 :: slta T 15 :: slta T 16 :: slta T 17 :: slta T 18 :: slta T 19 :: slta T 20 :: slta T 21 :: slta T 22 :: slta T 23 :: slta T 24 :: slta T 25 :: slta T 26 :: slta T 27 :: slta T 28 :: slta T 29 :: slta T 30 :: slta T 31 :: slta T 32 :: slta T 33 :: slta T 34 :: slta T 35 :: slta T 36 :: slta T 37 :: slta T 38 :: slta T 39 :: slta T 40 :: slta T 41 :: slta T 42 :: slta T 43 :: slta T 44 :: slta T 45 :: slta T 46 :: slta T 47 :: slta T 48 :: slta T 49 :: slta T 50 :: slta T 51 :: slta T 52 :: slta T 53 :: slta T 54 :: slta T 55 :: slta T 56 :: slta T 57 :: slta T 58 :: slta T 59 :: slta T 60 :: slta T 61 :: slta T 62 :: slta T 63 :: slta T 64 :: slta T 65 :: slta T 66 :: slta T 67 :: slta T 68 :: slta T 69 :: slta T 70 :: slta T 71 :: slta T 72 :: slta T 73 :: slta T 74 :: slta T 75 :: slta T 76 :: slta T 77 :: slta T 78 :: slta T 79 :: slta T 80 :: slta T 81 :: slta T 82 :: slta T 83 :: []).toArray := (framea T 84 hT).trans zKr
   simp only at hD
   subst hD
   rw [hTe]
   clear hTe hT
   go_wp2_with fail
   simp only [Exit.jump]
   go_ret3
   exact ⟨rfl, kb⟩
 go_wp2_with fail
 have kb := below_alloc w (.cells (bytn 32 s).toArray 25)
 refine (cD.out _ kb).mono ?_
 rintro e w1 ⟨rfl, hw⟩
 subst hw
 go_wp2_with fail
 refine (cS.out _ kb).mono ?_
 rintro e w2 ⟨rfl, hw⟩
 subst hw
 go_wp2_with fail
 refine (cR.out _ kb).mono ?_
 rintro e w3 ⟨v3, rfl, o3, hb3⟩
 replace kb := bel kb hb3
 have hS3 := Sl.of_own o3
 obtain ⟨a3, c3, e3, -⟩ := id hS3
 rw [u8s_len, hbl.out] at e3
 subst e3
 have cN := zH (packNew_any _ B w3 hS3 (by rw [hbl.out]; decide))
 clear hb3 o3 cR cS cD hS3
 go_wp2_with fail
 refine cN.out.mono ?_
 rintro e w4 ⟨gc, rfl, hgc, kc, hb4⟩
 have hgc2 : w.heap.size ≤ gc := by have := kb.size; omega
 replace kb := bel kb hb4
 have cW := zH (raw_any gc B false 4 w4 kc (by rw [hbl.out]; decide))
 clear hgc hb4 cN kc
 go_wp2_with fail
 refine cW.out.mono ?_
 rintro e w5 ⟨v5, rfl, o5, hg5, kc⟩
 have hb5 := below_gr kb hg5 hgc2 kb.size
 have hr : (rawS B false 4).1 = [255, 255, 255, 255] := by
  have h1 : ¬ ((B.length : Int) < 4) := by rw [hbl.out]; decide
  simp only [rawS, Bool.false_eq_true, if_false, h1, or_false, show ¬ (4 : Int) < 0 by decide]
  exact hB4.out
 have hst := strBk (Sl.of_own o5)
 rw [hr] at hst
 replace hr := zH hr
 clear o5 hg5 kc cW kb
 go_wp2_with fail
 go_step3
 exact ⟨rfl, rfl, rfl, hb5⟩
def bkv (p q : Nat) (kept : Value) (half : Int) (dead : Bool) : List Value := [.pointer (some ⟨p, 0, none⟩), .pointer (some ⟨q, 0, none⟩), kept, .int .i64 half, .bool dead]
def Unmarked (F : Fl) : Prop := ∀ k, k < 2 → (F.b.drop (8192 * k)).take 4 = [255, 255, 255, 255]
theorem has_none (b p q g r s : Nat) (c m num : Int) (kept : Value) (half : Int) (dead : Bool) (F : Fl) (w : World) (kb0 : Arr w b (bkv p q kept half dead)) (ko : Arr w q (otv (some ⟨p, 0, none⟩) r s c m)) (kf : FlAt w p g F) (hd : F.dead = false) (hlen : 16384 ≤ F.b.length) (hf : Unmarked F) :
 Calls Tryz.prog 129 #[.pointer (some ⟨b, 0, none⟩), .int .i64 num] w fun e w' => e = .returned (.bool false) ∧ Below w.heap.size w w' := by
 have cS := zH (fun w' (hb : Below w.heap.size w w') => osecret_any q (some ⟨p, 0, none⟩) r s c m w' (ko.below hb))
 have cH := zH (fun w' k (hk : k < 2) (hb : Below w.heap.size w w') => half_fresh p g s k F w' (kf.below hb) hd hlen hk (hf k hk))
 have c0 : Hid (∀ w', Below w.heap.size w w' → w'.cell? ⟨b, 0, none⟩ = some (.pointer (some ⟨p, 0, none⟩)) ∧ w'.cell? ⟨b, 1, none⟩ = some (.pointer (some ⟨q, 0, none⟩))) := zH (fun w' hb => ⟨(kb0.below hb).cell (j := 0) rfl, (kb0.below hb).cell (j := 1) rfl⟩)
 have kb := Below.refl w.heap.size w
 clear kb0 ko kf hd hlen hf
 go_enter Tryz.func129, Tryz.ntmps129
 go_wp2_with fail
 go_loopw [9] (fun iv wr => ∃ i : Nat, i ≤ 2 ∧ iv = .int .i64 i ∧ Below w.heap.size w wr) (fun iv _ => 2 - (intOf iv).toNat)
 case atStart => exact ⟨0, by omega, rfl, kb⟩
 case round =>
 clear kb
 obtain ⟨i, hi, rfl, kb⟩ := hrel
 have hi0 : (0 : Int) ≤ (i : Int) := by omega
 by_cases hin : i < 2
 · have hi1 : (i : Int) < 2 := by omega
   have cHi := zH (fun w' hb => cH.out w' i hin hb)
   go_upto_region 4 with fail
   obtain ⟨wq, rfl⟩ : ∃ wq : World, wq = wr := ⟨_, rfl⟩
   refine Tx.start (fun w' => Below (wq).heap.size (wq) w') 9999 18 rfl zKr ?_
   have hS_1 : Below (wq).heap.size (wq) (World.drew wq) := (Below.refl _ _).drew
   refine Tx.seg (A := ?_) 9 767 zKr (by exact hS_1) [0, 1, 2, 3, 4, 5, 6, 7, 9] zKr ?_ ?_
   rotate_left
   · intro w' hB
     obtain ⟨f0, f1⟩ := c0.out w' (bel kb hB)
     exact zRd
   refine Tx.eff 8 1023 rfl zDk (fun K hK => ?_)
   go_simp
   refine (cS.out _ (bel kb hS_1)).mono ?_
   rintro e w_2 ⟨rfl, hb_2⟩
   have hS_2 := ext_trans hS_1 (Nat.le_refl _) hb_2
   refine hK (fun w' => Below (wq).heap.size (wq) w') _ _ hS_2 (fun _ h => h) ?_
   clear hK K hb_2 hS_1
   try simp only [Act.put, zSa, zSz, zSs]
   refine Tx.eff 10 2047 rfl zDk (fun K hK => ?_)
   go_simp
   refine (cHi.out _ (bel kb hS_2)).mono ?_
   rintro e w_3 ⟨rfl, hb_3⟩
   have hS_3 := ext_trans hS_2 (Nat.le_refl _) hb_3
   refine hK (fun w' => Below (wq).heap.size (wq) w') _ _ hS_3 (fun _ h => h) ?_
   clear hK K hb_3 hS_2
   try simp only [Act.put, zSa, zSz, zSs]
   refine Tx.seg (A := ?_) 0 262143 zKr (by exact hS_3) [11, 12, 13, 14, 15, 16, 17] zKr ?_ ?_
   rotate_left
   · intro w' hB
     exact zRd
   refine Tx.done zKr ?_
   replace kb := bel kb hS_3
   go_wp2_with fail
   exact ⟨⟨i + 1, by omega, by go_num, kb⟩, by simp [intOf]; omega⟩
 · have dj : decide ((i : Int) < 2) = false := decide_eq_false zOm
   go_wp2_with fail
   go_ret
   exact ⟨rfl, kb⟩
end Go.Proofs.YtncnlfpiondpnaaGreat
