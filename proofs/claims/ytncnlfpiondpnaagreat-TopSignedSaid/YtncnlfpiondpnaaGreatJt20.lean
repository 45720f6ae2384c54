/- TopSigned: part 20 of its proof: lemmas and contracts, each with its conditions in its own statement; the last part holds the law itself. -/
import Derived.Test.YtncnlfpiondpnaaGreatJt19

set_option maxHeartbeats 4000000
set_option maxRecDepth 100000
namespace Go.Proofs.YtncnlfpiondpnaaGreat
open Go.RowKit
theorem pcs_len (P : Pn) : P.cs.length = 16 := ptL_len _ _ _ _
theorem pcs_one (P : Pn) : ∀ v ∈ P.cs, v.oneCell' = true := ptL_one _ _ _ _
def bxN : Nat := 15112221349535400772501151409588531511454012693041857206046113283949847762202
def byN : Nat := 46316835694926478169428394003475163141307993866256225615783033603165251855960
def bP : Pn := ⟨bxN, byN, 1, bxN * byN % pN⟩
theorem bP_ok : bP.ok := ⟨by decide +kernel, by decide +kernel, by decide +kernel, by decide +kernel⟩
def nP : Pn := ⟨0, 1, 1, 0⟩
theorem nP_ok : nP.ok := ⟨by decide +kernel, by decide +kernel, by decide +kernel, by decide +kernel⟩
def tmsP (P : Pn) (n : Nat) : Nat → Pn
 | 0 => nP
 | m + 1 => if n / 2 ^ (255 - m) % 2 = 1 then addP (addP (tmsP P n m) (tmsP P n m)) P else addP (tmsP P n m) (tmsP P n m)
theorem tmsP_ok (P : Pn) (n : Nat) : ∀ m, (tmsP P n m).ok
 | 0 => nP_ok
 | m + 1 => by
  rw [tmsP]
  split <;> exact addP_ok _ _
theorem pbase_any (w : World) : Calls Tryz.prog 35 #[] w fun e w' => e = .returned (.agg bP.cs.toArray) ∧ Below w.heap.size w w' := by
 have c1 := zH (fun w => times_any bxN byN zDc zDc w)
 go_enter Tryz.func35, Tryz.ntmps35
 go_upto_region 1 with fail
 refine wp_new1 (fun W hsz k0 kb => ?_)
 have k0 : Arr W w.heap.size (ptL 0 0 0 0) := k0
 clear hsz
 go_upto_region 2 with (first | (refine wpList_builta rfl _ _ rfl (lims 4 bxN).toArray zKr ?_) | (refine zLd ?_) | (refine zSt ?_))
 have hg_k1_k0 := k0.lt
 refine code_new (fun w_1 k1 hnew => ?_)
 have k0 := k0.below hnew
 have kb := bel kb hnew
 clear hnew
 generalize (W).heap.size = g_k1 at k1 hg_k1_k0 ⊢
 go_upto_region 3 with (first | (refine wpList_builta rfl _ _ rfl (lims 4 byN).toArray zKr ?_) | (refine zLd ?_) | (refine zSt ?_))
 have hg_k2_k0 := k0.lt
 have hg_k2_k1 := k1.lt
 refine code_new (fun w_2 k2 hnew => ?_)
 have k0 := k0.below hnew
 have k1 := k1.below hnew
 have kb := bel kb hnew
 clear hnew
 generalize (w_1).heap.size = g_k2 at k2 hg_k2_k0 hg_k2_k1 ⊢
 go_upto_region 3 with (first | (refine zLd ?_) | (refine zSt ?_))
 refine Tx.start (fun w' => Below (w_2).heap.size (w_2) w') 7 8 rfl zKr ?_
 have hS_3 : Below (w_2).heap.size (w_2) (World.drew w_2) := (Below.refl _ _).drew
 refine Tx.seg2 (A := ?_) 3 31 zKr (by exact hS_3) [0, 1, 2, 3, 4] zKr ?_ ?_
 rotate_left
 · intro w' hB
   have y1 := k1.below hB
   have y2 := k2.below hB
   exact zRd
 refine Tx.eff 5 63 rfl zDk (fun K hK => ?_)
 go_simp
 refine (c1.out _).mono ?_
 rintro e w_4 ⟨rfl, hb_4⟩
 have hS_4 := ext_trans hS_3 (Nat.le_refl _) hb_4
 refine hK (fun w' => Below (w_2).heap.size (w_2) w') _ _ hS_4 (fun _ h => h) ?_
 clear hK K hb_4 hS_3
 try simp only [Act.put, zSa, zSz, zSs]
 refine Tx.seg2 (A := ?_) 1 127 zKr (by exact hS_4) [6] zKr ?_ ?_
 rotate_left
 · intro w' hB
   iterate 1 (first | (refine rd_skip rfl rfl ?_; simp only [Act.put, zSa, zSz, zSs]) | (refine rd_load_arr rfl rfl _ _ rfl _ rfl zDk _ zAm zLn ?_; simp only [Act.put, zSa, zSz, zSs]) | (refine rd_builta rfl rfl _ _ rfl (bP.cs).toArray zKr ?_; simp only [Act.put, zSa, zSz, zSs]) | (refine rd_take (v := ?_) rfl rfl ?_ ?_; rotate_left; (focus (go_simp; try (with_reducible rfl))); simp only [Act.put, zSa, zSz, zSs]))
   exact rd_nil
 have k0 := k0.below hS_4
 have kb := bel kb hS_4
 refine Tx.bar 255 rfl zDk (fun K hK => ?_)
 refine step_store_arr rfl _ _ _ rfl _ _ rfl rfl _ zAm zLn zLm zOn ?_
 refine hK (fun _ => True) 9999 _ _ ?_
 clear hK K
 try simp only [Act.put]
 try simp only [zSa, zSz, zSs]
 refine Tx.done zKr ?_
 first | refine then_row k0 (fun w_5 k0 hoth hbel => ?_) | refine inb_row k0 (fun w_5 k0 hoth hbel => ?_)
 have kb := hbel _ _ zOm kb
 clear hoth hbel
 go_wp2_with fail
 exact bodyPost_ret (results_arr2 Tryz.results35 _ _ _ rfl zKr _ k0 (by rw [pcs_len]; kernel_rfl)) rfl ⟨rfl, kb⟩
theorem ptimes_any (P : Pn) (n : Nat) (hP : P.ok) (hn : n < 256 ^ 32) (w : World) :
 Calls Tryz.prog 36 #[.agg P.cs.toArray, .agg (byts n).toArray] w fun e w' => e = .returned (.agg (tmsP P n 256).cs.toArray) ∧ Below w.heap.size w w' := by
 have c1 := zH (fun w => limOf_any n hn w)
 obtain ⟨L, hL⟩ : ∃ L : Nat → Pn, tmsP P n = L := ⟨_, rfl⟩
 have hL0 : Hid (L 0 = nP) := zH (by rw [← hL]; rfl)
 have hLs : Hid (∀ m, L (m + 1) = if n / 2 ^ (255 - m) % 2 = 1 then addP (addP (L m) (L m)) P else addP (L m) (L m)) := zH (fun m => by rw [← hL]; rfl)
 have hLo : Hid (∀ m, (L m).ok) := zH (fun m => by rw [← hL]; exact tmsP_ok P n m)
 rw [hL]
 replace hP := zH hP
 clear hL hn
 go_enter Tryz.func36, Tryz.ntmps36
 go_upto_region 1 with fail
 refine wp_new3 (fun W hsz k2 k3 k4 kb => ?_)
 have k2 : Arr W w.heap.size P.cs := k2
 have k4 : Arr W (w.heap.size + 1 + 1) (ptL 0 0 0 0) := k4
 clear hsz
 go_upto_region 1 with (first | (refine zLd ?_) | (refine zSt ?_))
 go_wp2_with (first | (refine zLd ?_) | (refine zSt ?_))
 refine (c1.out _).mono ?_
 rintro e w_6 ⟨rfl, hb_6⟩
 have k2 := k2.below hb_6
 have k3 := k3.below hb_6
 have k4 := k4.below hb_6
 have kb := bel kb hb_6
 clear hb_6
 go_upto_region 2 with (first | (refine zLd ?_) | (refine zSt ?_))
 have hg_k5_k2 := k2.lt
 have hg_k5_k3 := k3.lt
 have hg_k5_k4 := k4.lt
 refine code_new (fun w_7 k5 hnew => ?_)
 have k2 := k2.below hnew
 have k3 := k3.below hnew
 have k4 := k4.below hnew
 have kb := bel kb hnew
 clear hnew
 generalize (w_6).heap.size = g_k5 at k5 hg_k5_k2 hg_k5_k3 hg_k5_k4 ⊢
 go_upto_region 2 with (first | (refine zLd ?_) | (refine zSt ?_))
 go_wp2_with (first | (refine zLd ?_) | (refine zSt ?_))
 refine (pnone_any _).mono ?_
 rintro e w_8 ⟨rfl, hb_8⟩
 have k2 := k2.below hb_8
 have k4 := k4.below hb_8
 have k5 := k5.below hb_8
 have kb := bel kb hb_8
 clear hb_8
 go_upto_region 3 with (first | (refine zLd ?_) | (refine zSt ?_))
 have hg_k6_k2 := k2.lt
 have hg_k6_k4 := k4.lt
 have hg_k6_k5 := k5.lt
 refine code_new (fun w_9 k6 hnew => ?_)
 have k2 := k2.below hnew
 have k4 := k4.below hnew
 have k5 := k5.below hnew
 have kb := bel kb hnew
 clear hnew
 generalize (w_8).heap.size = g_k6 at k6 hg_k6_k2 hg_k6_k4 hg_k6_k5 ⊢
 have k6 : Arr w_9 g_k6 (L 0).cs := by rw [hL0.out]; exact k6
 clear k3 c1
 go_wp2_with fail
 go_loopw [7] (fun kv wr => ∃ j : Nat, j ≤ 256 ∧ kv = .int .i64 ((j : Int) - 1) ∧ Arr wr w.heap.size P.cs ∧ Arr wr (w.heap.size + 1 + 1) (ptL 0 0 0 0) ∧ Arr wr g_k5 (lims 4 n) ∧ Arr wr g_k6 (L (256 - j)).cs ∧ Below w.heap.size w wr) (fun kv _ => (intOf kv + 1).toNat)
 case atStart => exact ⟨256, Nat.le_refl _, rfl, k2, k4, k5, k6, kb⟩
 case round =>
  clear k2 k4 k5 k6 kb
  obtain ⟨j, hj, rfl, k2, k4, k5, k6, kb⟩ := hrel
  rcases Nat.eq_zero_or_pos j with rfl | hj0
  · have e : ((0 : Nat) : Int) - 1 = -1 := rfl
    rw [e]
    clear e
    have k6 : Arr wr g_k6 (L 256).cs := k6
    go_wp2_with (first | (refine zLd ?_) | (refine zSt ?_))
    exact bodyPost_ret (results_arr2 Tryz.results36 _ _ _ rfl zKr _ (by first | assumption | exact Arr.setRow zAm _) zLn) rfl ⟨rfl, below_setRow kb zOm _⟩
  · obtain ⟨m, rfl⟩ : ∃ m, j = m + 1 := ⟨j - 1, by omega⟩
    have e : ((m + 1 : Nat) : Int) - 1 = (m : Int) := by omega
    rw [e]
    clear e
    have e1 : 256 - (m + 1) = 255 - m := by omega
    rw [e1] at k6
    obtain ⟨t, ht⟩ : ∃ t, n / 2 ^ m % 2 = t := ⟨_, rfl⟩
    have d0 := fun w => limBit_any n m zOm w
    rw [ht] at d0
    have hs := hLs.out (255 - m)
    rw [show 255 - (255 - m) = m by omega, ht, show 255 - m + 1 = 256 - m by omega] at hs
    have hok := hLo.out (255 - m)
    obtain ⟨A, hA⟩ : ∃ A, L (255 - m) = A := ⟨_, rfl⟩
    rw [hA] at k6 hs hok
    have cA := zH (fun w => padd_any A A hok hok w)
    have cB := zH (fun w => padd_any (addP A A) P (addP_ok _ _) hP.out w)
    obtain ⟨B, hB⟩ : ∃ B, addP A A = B := ⟨_, rfl⟩
    rw [hB] at cA cB hs
    replace d0 := zH d0
    have ht1 : t = 0 ∨ t = 1 := by omega
    have m0 : (0 : Int) ≤ (m : Int) := by omega
    replace hs := zH hs
    clear hA hB hok e1 ht
    go_upto_region 6 with (first | (refine zLd ?_) | (refine zSt ?_))
    go_wp2_with (first | (refine zLd ?_) | (refine zSt ?_))
    refine (cA.out _).mono ?_
    rintro e w_10 ⟨rfl, hb_10⟩
    have k2 := k2.below hb_10
    have k4 := k4.below hb_10
    have k5 := k5.below hb_10
    have k6 := k6.below hb_10
    have kb := bel kb hb_10
    clear hb_10
    go_upto_region 7 with (first | (refine zLd ?_) | (refine zSt ?_))
    refine code_row k6 (fun w_11 k6 hoth hbel => ?_)
    have k2 := hoth _ _ zOm k2
    have k4 := hoth _ _ zOm k4
    have k5 := hoth _ _ zOm k5
    have kb := hbel _ _ zOm kb
    clear hoth hbel
    go_upto_region 7 with (first | (refine zLd ?_) | (refine zSt ?_))
    go_wp2_with (first | (refine zLd ?_) | (refine zSt ?_))
    refine (d0.out _).mono ?_
    rintro e w_12 ⟨rfl, hb_12⟩
    have k2 := k2.below hb_12
    have k4 := k4.below hb_12
    have k5 := k5.below hb_12
    have k6 := k6.below hb_12
    have kb := bel kb hb_12
    clear hb_12
    rcases ht1 with rfl | rfl
    · skip
      replace hs := hs.out
      rw [if_neg zDc] at hs
      rw [← hs] at k6
      clear hs
      go_wp2_with fail
      exact ⟨⟨m, by omega, rfl, k2, k4, k5, k6, kb⟩, by simp [intOf]⟩
    · skip
      replace hs := hs.out
      rw [if_pos rfl] at hs
      replace hs := zH hs
      go_upto_region 8 with (first | (refine zLd ?_) | (refine zSt ?_))
      go_wp2_with (first | (refine zLd ?_) | (refine zSt ?_))
      refine (cB.out _).mono ?_
      rintro e w_13 ⟨rfl, hb_13⟩
      have k2 := k2.below hb_13
      have k4 := k4.below hb_13
      have k5 := k5.below hb_13
      have k6 := k6.below hb_13
      have kb := bel kb hb_13
      clear hb_13
      go_upto_region 5 with (first | (refine zLd ?_) | (refine zSt ?_))
      refine code_row k6 (fun w_14 k6 hoth hbel => ?_)
      have k2 := hoth _ _ zOm k2
      have k4 := hoth _ _ zOm k4
      have k5 := hoth _ _ zOm k5
      have kb := hbel _ _ zOm kb
      clear hoth hbel
      rw [← hs.out] at k6
      go_wp2_with fail
      exact ⟨⟨m, by omega, rfl, k2, k4, k5, k6, kb⟩, by simp [intOf]⟩
def encP (P : Pn) : Nat := P.y * (P.z ^ (pN - 2) % pN) % pN + 2 ^ 255 * (P.x * (P.z ^ (pN - 2) % pN) % pN % 2)
theorem encP_lt (P : Pn) : encP P < 256 ^ 32 := by
 have h1 : P.y * (P.z ^ (pN - 2) % pN) % pN < pN := Nat.mod_lt _ pN_pos
 have h2 : pN < 2 ^ 255 := by decide
 have h3 : P.x * (P.z ^ (pN - 2) % pN) % pN % 2 < 2 := Nat.mod_lt _ zDc
 unfold encP
 omega
theorem or_128 : ∀ x : Nat, x < 128 → bits .or .u8 (x : Int) 128 = ((x + 128 : Nat) : Int) := by decide +kernel
theorem or_0 : ∀ x : Nat, x < 128 → bits .or .u8 (x : Int) 0 = (x : Int) := by decide +kernel
theorem pbytes_any (P : Pn) (hP : P.ok) (w : World) :
 Calls Tryz.prog 37 #[.agg P.cs.toArray] w fun e w' => e = .returned (.agg (byts (encP P)).toArray) ∧ Below w.heap.size w w' := by
 have hp4 : pN < 18446744073709551616 ^ 4 := by decide
 have lim : ∀ {n : Nat}, n < pN → n < 18446744073709551616 ^ 4 := fun h => Nat.lt_trans h hp4
 obtain ⟨hx, hy, hz, -⟩ := hP
 obtain ⟨i, hi⟩ : ∃ i, P.z ^ (pN - 2) % pN = i := ⟨_, rfl⟩
 have cI := fun w => inverse_any P.z (lim hz) w
 rw [hi] at cI
 have li : i < pN := hi ▸ Nat.mod_lt _ pN_pos
 have cY := fun w => times_any P.y i (lim hy) (lim li) w
 have cX := fun w => times_any P.x i (lim hx) (lim li) w
 obtain ⟨y, hy'⟩ : ∃ y, P.y * i % pN = y := ⟨_, rfl⟩
 obtain ⟨x, hx'⟩ : ∃ x, P.x * i % pN = x := ⟨_, rfl⟩
 have ly : y < pN := hy' ▸ Nat.mod_lt _ pN_pos
 rw [hy'] at cY
 rw [hx'] at cX
 have hE : encP P = y + 2 ^ 255 * (x % 2) := by rw [encP, hi, hy', hx']
 obtain ⟨r, hr⟩ : ∃ r, y + 2 ^ 255 * (x % 2) = r := ⟨_, rfl⟩
 rw [hE, hr]
 replace hr := zH hr
 have cN := zH (fun w => limNum_any y w)
 have cB := fun w => show Calls Tryz.prog 80 #[.agg (lims 4 x).toArray, .int .i64 0] w _ from limBit_any x 0 zDc w
 rw [Nat.pow_zero, Nat.div_one] at cB
 have hy255 : y < 2 ^ 255 := Nat.lt_trans ly zDc
 have hy31 : y / 256 ^ 31 < 128 := by omega
 have g31 := byts_get y 31 zDc
 have sA : (byts y).set 31 (.int .u8 ((y / 256 ^ 31 : Nat) : Int)) = byts (y + 2 ^ 255 * 0) := byts_set zDc zOm zOm zOm
 have sB : (byts y).set 31 (.int .u8 ((y / 256 ^ 31 + 128 : Nat) : Int)) = byts (y + 2 ^ 255 * 1) := byts_set zDc zOm zOm zOm
 obtain ⟨d, hd⟩ : ∃ d, y / 256 ^ 31 = d := ⟨_, rfl⟩
 rw [hd] at hy31 sA sB g31
 rw [Nat.mod_eq_of_lt zOm] at g31
 have oA : bits .or .u8 (d : Int) (IntKind.u8.wrap (IntKind.u8.wrap 0 * 128)) = (d : Int) := or_0 d hy31
 have oB : bits .or .u8 (d : Int) (IntKind.u8.wrap (IntKind.u8.wrap 1 * 128)) = ((d + 128 : Nat) : Int) := or_128 d hy31
 replace cI := zH cI
 replace cY := zH cY
 replace cX := zH cX
 replace g31 := zH g31
 have hx2 : x % 2 = 0 ∨ x % 2 = 1 := by omega
 clear hp4 lim hx hy hz hi li hy' hx' ly hE hy255 hd hy31
 go_enter Tryz.func37, Tryz.ntmps37
 go_upto_region 1 with fail
 refine wp_new2 (fun W hsz k1 k2 kb => ?_)
 have k1 : Arr W w.heap.size (ptL P.x P.y P.z P.t) := k1
 have k2 : Arr W (w.heap.size + 1) (byts 0) := k2
 clear hsz
 have hz := ptL_z k1
 go_wp2_with (refine wpList_load_mid2 rfl _ _ rfl _ _ rfl zKr _ hz zLn ?_)
 clear hz
 refine (cI.out _).mono ?_
 rintro e w_1 ⟨rfl, hb_1⟩
 have k1 := k1.below hb_1
 have k2 := k2.below hb_1
 have kb := bel kb hb_1
 clear hb_1
 go_upto_region 2 with (first | (refine zLd ?_) | (refine zSt ?_))
 have hg_k3_k1 := k1.lt
 have hg_k3_k2 := k2.lt
 refine code_new (fun w_2 k3 hnew => ?_)
 have k1 := k1.below hnew
 have k2 := k2.below hnew
 have kb := bel kb hnew
 clear hnew
 generalize (w_1).heap.size = g_k3 at k3 hg_k3_k1 hg_k3_k2 ⊢
 have hy := ptL_y k1
 go_wp2_with (first | (refine wpList_load_mid2 rfl _ _ rfl _ _ rfl zKr _ hy zLn ?_) | (refine zLd ?_))
 clear hy
 refine (cY.out _).mono ?_
 rintro e w_3 ⟨rfl, hb_3⟩
 have k1 := k1.below hb_3
 have k2 := k2.below hb_3
 have k3 := k3.below hb_3
 have kb := bel kb hb_3
 clear hb_3
 go_wp2_with fail
 refine (cN.out _).mono ?_
 rintro e w_4 ⟨rfl, hb_4⟩
 have k1 := k1.below hb_4
 have k2 := k2.below hb_4
 have k3 := k3.below hb_4
 have kb := bel kb hb_4
 clear hb_4
 go_upto_region 3 with (first | (refine zLd ?_) | (refine zSt ?_))
 have hg_k4_k1 := k1.lt
 have hg_k4_k2 := k2.lt
 have hg_k4_k3 := k3.lt
 refine code_new (fun w_5 k4 hnew => ?_)
 have k1 := k1.below hnew
 have k2 := k2.below hnew
 have k3 := k3.below hnew
 have kb := bel kb hnew
 clear hnew
 generalize (w_4).heap.size = g_k4 at k4 hg_k4_k1 hg_k4_k2 hg_k4_k3 ⊢
 rcases hx2 with hs | hs
 · skip
   rw [hs] at cB
   replace sA : Hid ((byts y).set 31 (.int .u8 (d : Int)) = byts r) := zH (by rw [← hr.out, hs]; exact sA)
   clear sB oB
   replace cB := zH cB
   have hs := zH hs
   go_upto_region 3 with (first | (refine zLd ?_) | (refine zSt ?_))
   refine Tx.start (fun w' => Below (w_5).heap.size (w_5) w') 11 12 rfl zKr ?_
   have hS_6 : Below (w_5).heap.size (w_5) (World.drew w_5) := (Below.refl _ _).drew
   refine Tx.seg2 (A := ?_) 7 31 zKr (by exact hS_6) [0, 1, 2, 3, 4] zKr ?_ ?_
   rotate_left
   · intro w' hB
     have hx := ptL_x (k1.below hB)
     have y3 := k3.below hB
     have y4 := (k4.below hB).cell g31.out
     exact zRm
   refine Tx.eff 5 63 rfl zDk (fun K hK => ?_)
   go_simp
   refine (cX.out _).mono ?_
   rintro e w_7 ⟨rfl, hb_7⟩
   have hS_7 := ext_trans hS_6 (Nat.le_refl _) hb_7
   refine hK (fun w' => Below (w_5).heap.size (w_5) w') _ _ hS_7 (fun _ h => h) ?_
   clear hK K hb_7 hS_6
   try simp only [Act.put, zSa, zSz, zSs]
   refine Tx.eff 6 127 rfl zDk (fun K hK => ?_)
   go_simp
   refine (cB.out _).mono ?_
   rintro e w_8 ⟨rfl, hb_8⟩
   have hS_8 := ext_trans hS_7 (Nat.le_refl _) hb_8
   refine hK (fun w' => Below (w_5).heap.size (w_5) w') _ _ hS_8 (fun _ h => h) ?_
   clear hK K hb_8 hS_7
   try simp only [Act.put, zSa, zSz, zSs]
   refine Tx.seg2 (A := ?_) 1 2047 zKr (by exact hS_8) [7, 8, 9, 10] zKr ?_ ?_
   rotate_left
   · intro w' hB
     exact zRd
   have k1 := k1.below hS_8
   have k2 := k2.below hS_8
   have k3 := k3.below hS_8
   have k4 := k4.below hS_8
   have kb := bel kb hS_8
   have hcel := k4.cell g31.out
   have hfro := k4.frozen 31
   refine Tx.bar 4095 rfl zDk (fun K hK => ?_)
   go_simp
   refine hK (fun _ => True) 9999 _ _ ?_
   clear hK K
   try simp only [Act.put]
   try simp only [zSa, zSz, zSs]
   refine Tx.done zKr ?_
   clear hcel hfro
   have kb := kb.setCell (p := ⟨g_k4, 31, none⟩) (by simp; omega) (.int .u8 (d : Int))
   have k2 := k2.other (a := ⟨g_k4, 31, none⟩) (by simp; omega) (.int .u8 (d : Int))
   have k4 := k4.set 31 (.int .u8 (d : Int))
   rw [sA.out] at k4
   generalize World.setCell _ ⟨g_k4, 31, none⟩ (.int .u8 (d : Int)) = w9 at *
   clear k1 k3
   go_wp2_with (first | (refine zLd ?_) | (refine zSt ?_))
   exact bodyPost_ret (results_arr2 Tryz.results37 _ _ _ rfl zKr _ (by first | assumption | exact Arr.setRow zAm _) zLn) rfl ⟨rfl, below_setRow kb zOm _⟩
 · skip
   rw [hs] at cB
   replace sB : Hid ((byts y).set 31 (.int .u8 ((d : Int) + 128)) = byts r) := zH (by rw [← hr.out, hs]; rw [show ((d + 128 : Nat) : Int) = (d : Int) + 128 by omega] at sB; exact sB)
   clear sA oA
   replace cB := zH cB
   have hs := zH hs
   go_upto_region 3 with (first | (refine zLd ?_) | (refine zSt ?_))
   refine Tx.start (fun w' => Below (w_5).heap.size (w_5) w') 11 12 rfl zKr ?_
   have hS_9 : Below (w_5).heap.size (w_5) (World.drew w_5) := (Below.refl _ _).drew
   refine Tx.seg2 (A := ?_) 7 31 zKr (by exact hS_9) [0, 1, 2, 3, 4] zKr ?_ ?_
   rotate_left
   · intro w' hB
     have hx := ptL_x (k1.below hB)
     have y3 := k3.below hB
     have y4 := (k4.below hB).cell g31.out
     exact zRm
   refine Tx.eff 5 63 rfl zDk (fun K hK => ?_)
   go_simp
   refine (cX.out _).mono ?_
   rintro e w_10 ⟨rfl, hb_10⟩
   have hS_10 := ext_trans hS_9 (Nat.le_refl _) hb_10
   refine hK (fun w' => Below (w_5).heap.size (w_5) w') _ _ hS_10 (fun _ h => h) ?_
   clear hK K hb_10 hS_9
   try simp only [Act.put, zSa, zSz, zSs]
   refine Tx.eff 6 127 rfl zDk (fun K hK => ?_)
   go_simp
   refine (cB.out _).mono ?_
   rintro e w_11 ⟨rfl, hb_11⟩
   have hS_11 := ext_trans hS_10 (Nat.le_refl _) hb_11
   refine hK (fun w' => Below (w_5).heap.size (w_5) w') _ _ hS_11 (fun _ h => h) ?_
   clear hK K hb_11 hS_10
   try simp only [Act.put, zSa, zSz, zSs]
   refine Tx.seg2 (A := ?_) 1 2047 zKr (by exact hS_11) [7, 8, 9, 10] zKr ?_ ?_
   rotate_left
   · intro w' hB
     exact zRd
   have k1 := k1.below hS_11
   have k2 := k2.below hS_11
   have k3 := k3.below hS_11
   have k4 := k4.below hS_11
   have kb := bel kb hS_11
   have hcel := k4.cell g31.out
   have hfro := k4.frozen 31
   refine Tx.bar 4095 rfl zDk (fun K hK => ?_)
   go_simp
   refine hK (fun _ => True) 9999 _ _ ?_
   clear hK K
   try simp only [Act.put]
   try simp only [zSa, zSz, zSs]
   refine Tx.done zKr ?_
   clear hcel hfro
   have kb := kb.setCell (p := ⟨g_k4, 31, none⟩) (by simp; omega) (.int .u8 ((d : Int) + 128))
   have k2 := k2.other (a := ⟨g_k4, 31, none⟩) (by simp; omega) (.int .u8 ((d : Int) + 128))
   have k4 := k4.set 31 (.int .u8 ((d : Int) + 128))
   rw [sB.out] at k4
   generalize World.setCell _ ⟨g_k4, 31, none⟩ (.int .u8 ((d : Int) + 128)) = w9 at *
   clear k1 k3
   go_wp2_with (first | (refine zLd ?_) | (refine zSt ?_))
   exact bodyPost_ret (results_arr2 Tryz.results37 _ _ _ rfl zKr _ (by first | assumption | exact Arr.setRow zAm _) zLn) rfl ⟨rfl, below_setRow kb zOm _⟩
end Go.Proofs.YtncnlfpiondpnaaGreat
