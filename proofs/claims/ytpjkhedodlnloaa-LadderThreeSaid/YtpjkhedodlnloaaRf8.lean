/- Reference of the field: pow, most, inv, Pow, Inv. -/
import Derived.Test.YtpjkhedodlnloaaRf7
namespace Go.Proofs.Ytpjkhedodlnloaa
open Go.RowKit

theorem and_u8_one (x : Nat) (hx : x < 256) : bits .and .u8 (x : Int) 1 = ((x % 2 : Nat) : Int) := by
  have h1 : (BitVec.ofInt 8 (x : Int)).toNat = x := by
    rw [BitVec.ofInt_natCast, BitVec.toNat_ofNat]; exact Nat.mod_eq_of_lt (by omega)
  have h2 : (BitVec.ofInt 8 1).toNat = 1 := rfl
  show IntKind.u8.wrap ((BitVec.ofInt 8 (x : Int) &&& BitVec.ofInt 8 1).toNat : Int) = _
  rw [BitVec.toNat_and, h1, h2, Nat.and_one_is_mod]
  simp [IntKind.wrap, IntKind.bits, IntKind.signed]
  omega

def powL (xs : List Int) (e : Nat) : Nat → List Int
  | 0 => 1 :: List.replicate 15 0
  | m + 1 => if e / 2 ^ (255 - m) % 2 = 1 then mulL (mulL (powL xs e m) (powL xs e m)) xs else mulL (powL xs e m) (powL xs e m)

theorem El.one : El 1 (1 :: List.replicate 15 0) := by
  refine ⟨by simp, ?_, by decide, by decide⟩
  intro x hx
  rcases List.mem_cons.1 hx with rfl | h
  · decide
  · rw [List.mem_replicate] at h; omega

theorem El.pow {a : Int} {xs : List Int} (hx : El a xs) (e : Nat) (he : e < 2 ^ 256) : ∀ m, m ≤ 256 → El (a ^ (e / 2 ^ (256 - m))) (powL xs e m)
  | 0, _ => by rw [Nat.div_eq_of_lt he, Int.pow_zero]; exact El.one
  | m + 1, h => by
    have ih := El.pow hx e he m (by omega)
    have e1 : e / 2 ^ (256 - m) = e / 2 ^ (255 - m) / 2 := by rw [show 256 - m = (255 - m) + 1 by omega, Nat.pow_succ, Nat.div_div_eq_div_mul]
    rw [show 256 - (m + 1) = 255 - m by omega, powL]
    rw [e1] at ih
    generalize e / 2 ^ (255 - m) = u at *
    have e2 : ∀ k : Nat, a ^ k * a ^ k = a ^ (2 * k) := fun k => by rw [← Int.pow_add, Nat.two_mul]
    split
    · have h1 := (ih.mul ih).mul hx
      rw [e2, ← Int.pow_succ, show (2 * (u / 2)).succ = u by omega] at h1
      exact h1
    · have h1 := ih.mul ih
      rw [e2, show 2 * (u / 2) = u by omega] at h1
      exact h1

theorem powL_step (xs : List Int) (e m t : Nat) (hm : m ≤ 255) (ht : e / 2 ^ m % 2 = t) : powL xs e (256 - m) = if t = 1 then mulL (mulL (powL xs e (255 - m)) (powL xs e (255 - m))) xs else mulL (powL xs e (255 - m)) (powL xs e (255 - m)) := by
  rw [show 256 - m = (255 - m) + 1 by omega, powL, show 255 - (255 - m) = m by omega, ht]

theorem byte_bit (n k : Nat) : n / 256 ^ (k / 8) % 256 / 2 ^ (k % 8) % 2 = n / 2 ^ k % 2 := by
  have hr : k % 8 < 8 := Nat.mod_lt _ (by decide)
  have hk : k = 8 * (k / 8) + k % 8 := by omega
  have e1 : (256 : Nat) ^ (k / 8) = 2 ^ (8 * (k / 8)) := by rw [Nat.pow_mul]
  have e2 : (2 : Nat) ^ k = 256 ^ (k / 8) * 2 ^ (k % 8) := by rw [e1, ← Nat.pow_add, ← hk]
  rw [e2, ← Nat.div_div_eq_div_mul]
  generalize n / 256 ^ (k / 8) = x
  have h8 : k % 8 = 0 ∨ k % 8 = 1 ∨ k % 8 = 2 ∨ k % 8 = 3 ∨ k % 8 = 4 ∨ k % 8 = 5 ∨ k % 8 = 6 ∨ k % 8 = 7 := by omega
  rcases h8 with h | h | h | h | h | h | h | h <;> rw [h] <;> omega

set_option maxHeartbeats 4000000 in
set_option maxRecDepth 100000 in
theorem rpow_el {a : Int} {xs : List Int} (hx : El a xs) (x : Nat) (hx256 : x < 256 ^ 32) (w : World) :
    Calls Try.prog 39 #[.agg (el xs).toArray, .agg (byts x).toArray] w fun e w' => e = .returned (.agg (el (powL xs x 256)).toArray) ∧ Below w.heap.size w w' := by
  have hE := El.pow hx x (Nat.lt_of_lt_of_le hx256 (by decide))
  have c0 := Lib.hid (fun w => rone_any 1 w)
  have hlx := Lib.hid hx.len
  obtain ⟨R, hR⟩ : ∃ R, ∀ n, n = 256 → powL xs x n = R := ⟨powL xs x 256, by rintro n rfl; rfl⟩
  rw [hR 256 rfl]
  replace hE := Lib.hid hE
  replace hR := Lib.hid hR
  go_enter Try.func39, Try.ntmps39
  go_upto_region 1 with fail
  refine wp_new3 (fun W hsz k1 k2 k3 kb => ?_)
  have k3 : Arr W (w.heap.size + 1 + 1) (el (List.replicate 16 0)) := k3
  clear hsz
  go_upto_region 1 with (first | (refine wpList_load_arr2 rfl _ _ rfl _ rfl (by decide +kernel) _ (by assumption) (by first | (rw [lims_len]; kernel_rfl) | (rw [el_rep]; kernel_rfl) | (rw [el_len]; kernel_rfl) | (rw [byts_len]; kernel_rfl) | (rw [us_len]; kernel_rfl) | (rw [bytn_len]; kernel_rfl) | (rw [ens_len, digs_len]; kernel_rfl) | kernel_rfl) ?_) | (refine wpList_store_arr rfl _ _ _ rfl _ _ rfl rfl _ (by first | assumption | exact Arr.new _ _ _) (by first | (rw [lims_len]; kernel_rfl) | (rw [el_rep]; kernel_rfl) | (rw [el_len]; kernel_rfl) | (rw [byts_len]; kernel_rfl) | (rw [us_len]; kernel_rfl) | (rw [bytn_len]; kernel_rfl) | (rw [ens_len, digs_len]; kernel_rfl) | kernel_rfl) (by first | (rw [lims_len, lims_len]) | (rw [el_rep, el_rep]) | (rw [el_rep, el_len]; rfl) | (rw [el_len, el_rep]; rfl) | (rw [el_len, el_len]; rfl) | (rw [byts_len, byts_len]) | (rw [lims_len]; rfl) | (rw [byts_len]; rfl) | (rw [us_len, us_len]; rfl) | (rw [bytn_len, bytn_len]) | (rw [bytn_len]; rfl) | (rw [ens_len, ens_len, digs_len, digs_len]) | rfl) (by first | exact lims_one _ _ | exact el_one _ | exact byts_one _ | exact us_one _ | exact bytn_one _ _ | exact ens_one _ | (intro v hv; simp at hv; rcases hv with rfl | rfl | rfl | rfl <;> rfl)) ?_))
  go_wp2_with (first | (refine wpList_load_arr2 rfl _ _ rfl _ rfl (by decide +kernel) _ (by assumption) (by first | (rw [lims_len]; kernel_rfl) | (rw [el_rep]; kernel_rfl) | (rw [el_len]; kernel_rfl) | (rw [byts_len]; kernel_rfl) | (rw [us_len]; kernel_rfl) | (rw [bytn_len]; kernel_rfl) | (rw [ens_len, digs_len]; kernel_rfl) | kernel_rfl) ?_) | (refine wpList_store_arr rfl _ _ _ rfl _ _ rfl rfl _ (by first | assumption | exact Arr.new _ _ _) (by first | (rw [lims_len]; kernel_rfl) | (rw [el_rep]; kernel_rfl) | (rw [el_len]; kernel_rfl) | (rw [byts_len]; kernel_rfl) | (rw [us_len]; kernel_rfl) | (rw [bytn_len]; kernel_rfl) | (rw [ens_len, digs_len]; kernel_rfl) | kernel_rfl) (by first | (rw [lims_len, lims_len]) | (rw [el_rep, el_rep]) | (rw [el_rep, el_len]; rfl) | (rw [el_len, el_rep]; rfl) | (rw [el_len, el_len]; rfl) | (rw [byts_len, byts_len]) | (rw [lims_len]; rfl) | (rw [byts_len]; rfl) | (rw [us_len, us_len]; rfl) | (rw [bytn_len, bytn_len]) | (rw [bytn_len]; rfl) | (rw [ens_len, ens_len, digs_len, digs_len]) | rfl) (by first | exact lims_one _ _ | exact el_one _ | exact byts_one _ | exact us_one _ | exact bytn_one _ _ | exact ens_one _ | (intro v hv; simp at hv; rcases hv with rfl | rfl | rfl | rfl <;> rfl)) ?_))
  refine (c0.out _).mono ?_
  rintro e w_1 ⟨rfl, hb_1⟩
  have k1 := k1.below hb_1
  have k2 := k2.below hb_1
  have k3 := k3.below hb_1
  have kb := bel kb hb_1
  clear hb_1
  go_upto_region 2 with (first | (refine wpList_load_arr2 rfl _ _ rfl _ rfl (by decide +kernel) _ (by assumption) (by first | (rw [lims_len]; kernel_rfl) | (rw [el_rep]; kernel_rfl) | (rw [el_len]; kernel_rfl) | (rw [byts_len]; kernel_rfl) | (rw [us_len]; kernel_rfl) | (rw [bytn_len]; kernel_rfl) | (rw [ens_len, digs_len]; kernel_rfl) | kernel_rfl) ?_) | (refine wpList_store_arr rfl _ _ _ rfl _ _ rfl rfl _ (by first | assumption | exact Arr.new _ _ _) (by first | (rw [lims_len]; kernel_rfl) | (rw [el_rep]; kernel_rfl) | (rw [el_len]; kernel_rfl) | (rw [byts_len]; kernel_rfl) | (rw [us_len]; kernel_rfl) | (rw [bytn_len]; kernel_rfl) | (rw [ens_len, digs_len]; kernel_rfl) | kernel_rfl) (by first | (rw [lims_len, lims_len]) | (rw [el_rep, el_rep]) | (rw [el_rep, el_len]; rfl) | (rw [el_len, el_rep]; rfl) | (rw [el_len, el_len]; rfl) | (rw [byts_len, byts_len]) | (rw [lims_len]; rfl) | (rw [byts_len]; rfl) | (rw [us_len, us_len]; rfl) | (rw [bytn_len, bytn_len]) | (rw [bytn_len]; rfl) | (rw [ens_len, ens_len, digs_len, digs_len]) | rfl) (by first | exact lims_one _ _ | exact el_one _ | exact byts_one _ | exact us_one _ | exact bytn_one _ _ | exact ens_one _ | (intro v hv; simp at hv; rcases hv with rfl | rfl | rfl | rfl <;> rfl)) ?_))
  have hg_k5_k1 := k1.lt
  have hg_k5_k2 := k2.lt
  have hg_k5_k3 := k3.lt
  refine code_new (fun w_2 k5 hnew => ?_)
  have k1 := k1.below hnew
  have k2 := k2.below hnew
  have k3 := k3.below hnew
  have kb := bel kb hnew
  clear hnew
  generalize (w_1).heap.size = g_k5 at k5 hg_k5_k1 hg_k5_k2 hg_k5_k3 ⊢
  have k5 : Arr w_2 g_k5 (el (powL xs x (256 - 256))) := k5
  clear c0
  go_wp2_with fail
  go_loopw [6] (fun kv wr => ∃ j : Nat, j ≤ 256 ∧ kv = .int .i64 ((j : Int) - 1) ∧ Arr wr w.heap.size (el xs) ∧ Arr wr (w.heap.size + 1) (byts x) ∧ Arr wr (w.heap.size + 1 + 1) (el (List.replicate 16 0)) ∧ Arr wr g_k5 (el (powL xs x (256 - j))) ∧ Below w.heap.size w wr) (fun kv _ => (intOf kv + 1).toNat)
  case atStart => exact ⟨256, Nat.le_refl _, rfl, k1, k2, k3, k5, kb⟩
  case round =>
    clear k1 k2 k3 k5 kb
    obtain ⟨j, hj, rfl, k1, k2, k3, k5, kb⟩ := hrel
    rcases Nat.eq_zero_or_pos j with rfl | hj0
    · have e : ((0 : Nat) : Int) - 1 = -1 := rfl
      rw [e]
      rw [hR.out (256 - 0) rfl] at k5
      have hlR : (el R).length = 16 := by
        have := (hE.out 256 (Nat.le_refl _)).len
        rwa [hR.out 256 rfl] at this
      clear hE hR e
      replace hlR := Lib.hid hlR
      go_wp2_with (first | (refine wpList_load_arr2 rfl _ _ rfl _ rfl (by kernel_rfl) _ k5 (by rw [hlR.out]; kernel_rfl) ?_) | (refine wpList_store_arr rfl _ _ _ rfl _ _ rfl rfl _ k3 (by rw [hlR.out]; kernel_rfl) (by rw [el_len, hlR.out]; rfl) (el_one _) ?_))
      exact bodyPost_ret (results_arr2 Try.results39 _ _ _ rfl (by kernel_rfl) _ (k3.setRow _) (by rw [hlR.out]; kernel_rfl)) rfl ⟨rfl, below_setRow kb (by omega) _⟩
    · obtain ⟨m, rfl⟩ : ∃ m, j = m + 1 := ⟨j - 1, by omega⟩
      have e : ((m + 1 : Nat) : Int) - 1 = (m : Int) := by omega
      rw [e]
      clear e
      obtain ⟨t, ht⟩ : ∃ t, x / 2 ^ m % 2 = t := ⟨_, rfl⟩
      have ht2 : t < 2 := by omega
      have hstep := powL_step xs x m t (by omega) ht
      have hEq := hE.out (255 - m) (by omega)
      have hmr : 256 - (m + 1) = 255 - m := by omega
      rw [hmr] at k5
      obtain ⟨Q, hQ⟩ : ∃ Q, powL xs x (255 - m) = Q := ⟨_, rfl⟩
      rw [hQ] at hstep hEq k5
      have hbb := byte_bit x m
      rw [ht] at hbb
      obtain ⟨b, hb⟩ : ∃ b, x / 256 ^ (m / 8) % 256 = b := ⟨_, rfl⟩
      have hbl : b < 256 := hb ▸ Nat.mod_lt _ (by decide)
      rw [hb] at hbb
      have gb := byts_get x (m / 8) (by omega)
      rw [hb] at gb
      have hand : bits BinOp.and IntKind.u8 ((b : Int) / 2 ^ (m % 8)) 1 = (t : Int) := by
        have h1 := and_u8_one (b / 2 ^ (m % 8)) (by have := Nat.div_le_self b (2 ^ (m % 8)); omega)
        rw [hbb] at h1
        rw [← h1]
        simp
      have c1 := Lib.hid (fun w => rmul_el hEq hEq w)
      have c2 := Lib.hid (fun w => rmul_el (hEq.mul hEq) hx w)
      have hlQ := hEq.len
      have hlQ2 := (hEq.mul hEq).len
      have hlQ3 := ((hEq.mul hEq).mul hx).len
      have im0 : (0 : Int) ≤ (m : Int) / 8 := by omega
      have im1 : (m : Int) / 8 < 32 := by omega
      have im3 : ((m : Int) / 8).toNat = m / 8 := by omega
      have im6 : (0 : Int) ≤ (m : Int) % 8 := by omega
      have im8 : (m : Int) % 8 < 8 := by omega
      have im7 : ((m : Int) % 8).toNat = m % 8 := by omega
      have hs1 : t = 1 → powL xs x (256 - m) = mulL (mulL Q Q) xs := fun h => by rw [hstep, if_pos h]
      have hs0 : t ≠ 1 → powL xs x (256 - m) = mulL Q Q := fun h => by rw [hstep, if_neg h]
      generalize mulL (mulL Q Q) xs = Q3 at c2 hlQ3 hs1
      generalize mulL Q Q = Q2 at c1 c2 hlQ2 hs0
      replace hstep := Lib.hid hstep
      replace hs1 := Lib.hid hs1
      replace hs0 := Lib.hid hs0
      replace hQ := Lib.hid hQ
      replace hb := Lib.hid hb
      replace hlQ := Lib.hid hlQ
      replace hlQ2 := Lib.hid hlQ2
      replace hlQ3 := Lib.hid hlQ3
      clear hbb hmr ht
      go_wp2_with (refine wpList_load_arr2 rfl _ _ rfl _ rfl (by kernel_rfl) _ k5 (by rw [hlQ.out]; kernel_rfl) ?_)
      refine (c1.out _).mono ?_
      rintro e w_3 ⟨rfl, hb_3⟩
      have k1 := k1.below hb_3
      have k2 := k2.below hb_3
      have k3 := k3.below hb_3
      have k5 := k5.below hb_3
      have kb := bel kb hb_3
      clear hb_3
      go_upto_region 6 with (refine wpList_store_arr rfl _ _ _ rfl _ _ rfl rfl _ k5 (by rw [hlQ2.out]; kernel_rfl) (by rw [hlQ.out, hlQ2.out]) (el_one _) ?_)
      refine code_row k5 (fun w_4 k5 hoth hbel => ?_)
      have k1 := hoth _ _ (by omega) k1
      have k2 := hoth _ _ (by omega) k2
      have k3 := hoth _ _ (by omega) k3
      have kb := hbel _ _ (by omega) kb
      clear hoth hbel
      have hcel := k2.cell gb
      replace gb := Lib.hid gb
      by_cases h1 : t = 1
      · have hs1' := Lib.hid (hs1.out h1)
        subst h1
        go_wp2_with (first | (refine wpList_load_arr2 rfl _ _ rfl _ rfl (by kernel_rfl) _ k5 (by rw [hlQ2.out]; kernel_rfl) ?_) | (refine wpList_load_arr2 rfl _ _ rfl _ rfl (by kernel_rfl) _ k1 (by rw [hlx.out]; kernel_rfl) ?_))
        refine (c2.out _).mono ?_
        rintro e w_5 ⟨rfl, hb_5⟩
        have k1 := k1.below hb_5
        have k2 := k2.below hb_5
        have k3 := k3.below hb_5
        have k5 := k5.below hb_5
        have kb := bel kb hb_5
        clear hb_5
        go_wp2_with (refine wpList_store_arr rfl _ _ _ rfl _ _ rfl rfl _ k5 (by rw [hlQ3.out]; kernel_rfl) (by rw [hlQ2.out, hlQ3.out]) (el_one _) ?_)
        refine ⟨⟨m, by omega, by go_num, k1.row_other (by omega) _, k2.row_other (by omega) _, k3.row_other (by omega) _, ?_, below_setRow kb (by omega) _⟩, by simp [intOf]⟩
        rw [hs1'.out]
        exact k5.setRow _
      · have hs0' := Lib.hid (hs0.out h1)
        obtain rfl : t = 0 := by omega
        go_wp2_with fail
        refine ⟨⟨m, by omega, by go_num, k1, k2, k3, ?_, kb⟩, by simp [intOf]⟩
        rw [hs0'.out]
        exact k5

set_option maxHeartbeats 4000000 in
set_option maxRecDepth 100000 in
theorem rmost_any (n : Nat) (hn : n ≤ 255) (h1 : 1 ≤ n) (w : World) :
    Calls Try.prog 40 #[.int .i64 n] w fun e w' => e = .returned (.agg (byts (2 ^ 255 - n)).toArray) ∧ Below w.heap.size w w' := by
  have s1 : (byts (256 ^ 32 - 1)).set 31 (.int .u8 127) = byts (2 ^ 255 - 1) := byts_set (v := 127) (by decide) (by decide) (by decide) (by decide)
  have s2 : (byts (2 ^ 255 - 1)).set 0 (.int .u8 ((256 - n : Nat) : Int)) = byts (2 ^ 255 - n) := byts_set (v := 256 - n) (by decide) (by decide) (by omega) (by
    have : (2 ^ 255 - 1) / 256 ^ 0 % 256 = 255 := by decide
    rw [this]; omega)
  have e1 : (256 : Int) - (n : Int) = ((256 - n : Nat) : Int) := by omega
  have hl : 256 - n < 256 := by omega
  obtain ⟨v, hv⟩ : ∃ v, 256 - n = v := ⟨_, rfl⟩
  rw [hv] at e1 s2 hl
  obtain ⟨R, hR⟩ : ∃ R, 2 ^ 255 - n = R := ⟨_, rfl⟩
  rw [hR] at s2 ⊢
  replace e1 := Lib.hid e1
  replace s1 := Lib.hid s1
  replace s2 := Lib.hid s2
  clear hR hv
  go_enter Try.func40, Try.ntmps40
  go_upto_region 1 with fail
  refine wp_new1 (fun W hsz k1 kb => ?_)
  have k1 : Arr W w.heap.size (byts 0) := k1
  have lt1 := k1.lt
  clear hsz
  go_upto_region 2 with fail
  refine wp_new1 (fun w9 hsz9 k2 hb9 => ?_)
  have k1 := k1.below hb9
  have kb := bel kb hb9
  generalize W.heap.size = g at k2 lt1 ⊢
  have k2 : Arr w9 g (byts (256 ^ 0 - 1)) := k2
  clear hsz9 hb9
  go_wp2_with fail
  go_loopw [4] (fun kv wr => ∃ k : Nat, k ≤ 32 ∧ kv = .int .i64 k ∧ Arr wr w.heap.size (byts 0) ∧ Arr wr g (byts (256 ^ k - 1)) ∧ Below w.heap.size w wr) (fun kv _ => 32 - (intOf kv).toNat)
  case atStart => exact ⟨0, Nat.zero_le _, rfl, k1, k2, kb⟩
  case round =>
    clear k1 k2 kb
    obtain ⟨k, hk, rfl, k1, k2, kb⟩ := hrel
    by_cases hlt : k < 32
    · have hcell := k2.cell (byts_get _ k hlt)
      have hfr := k2.frozen k
      go_wp2_with fail
      refine ⟨⟨k + 1, by omega, by go_num, k1.other (by simp; omega) _, ?_, kb.setCell (by simp; omega) _⟩, by simp [intOf]; omega⟩
      rw [← byts_fill k hlt]
      exact k2.set k _
    obtain rfl : k = 32 := by omega
    have hcell := k2.cell (byts_get _ 31 (by decide))
    have hfr := k2.frozen 31
    go_upto_region 7 with fail
    refine code_cell k2 (fun w6 k2 hoth hbel => ?_)
    rw [s1.out] at k2
    have k1 := hoth _ _ (by omega) k1
    have kb := hbel _ _ (by omega) kb
    clear hoth hbel hcell hfr
    have hcell := k2.cell (byts_get _ 0 (by decide))
    have hfr := k2.frozen 0
    go_upto_region 8 with fail
    rw [e1.out]
    refine code_cell k2 (fun w6 k2 hoth hbel => ?_)
    have k1 := hoth _ _ (by omega) k1
    have kb := hbel _ _ (by omega) kb
    try rw [show ((v : Int)) % 256 = (v : Int) by omega] at k2
    rw [s2.out] at k2
    clear hoth hbel hcell hfr
    go_wp2_with (first | (refine wpList_load_arr2 rfl _ _ rfl _ rfl (by decide +kernel) _ (by assumption) (by first | (rw [lims_len]; kernel_rfl) | (rw [el_rep]; kernel_rfl) | (rw [el_len]; kernel_rfl) | (rw [byts_len]; kernel_rfl) | (rw [us_len]; kernel_rfl) | (rw [bytn_len]; kernel_rfl) | (rw [ens_len, digs_len]; kernel_rfl) | kernel_rfl) ?_) | (refine wpList_store_arr rfl _ _ _ rfl _ _ rfl rfl _ (by first | assumption | exact Arr.new _ _ _) (by first | (rw [lims_len]; kernel_rfl) | (rw [el_rep]; kernel_rfl) | (rw [el_len]; kernel_rfl) | (rw [byts_len]; kernel_rfl) | (rw [us_len]; kernel_rfl) | (rw [bytn_len]; kernel_rfl) | (rw [ens_len, digs_len]; kernel_rfl) | kernel_rfl) (by first | (rw [lims_len, lims_len]) | (rw [el_rep, el_rep]) | (rw [el_rep, el_len]; rfl) | (rw [el_len, el_rep]; rfl) | (rw [el_len, el_len]; rfl) | (rw [byts_len, byts_len]) | (rw [lims_len]; rfl) | (rw [byts_len]; rfl) | (rw [us_len, us_len]; rfl) | (rw [bytn_len, bytn_len]) | (rw [bytn_len]; rfl) | (rw [ens_len, ens_len, digs_len, digs_len]) | rfl) (by first | exact lims_one _ _ | exact el_one _ | exact byts_one _ | exact us_one _ | exact bytn_one _ _ | exact ens_one _ | (intro v hv; simp at hv; rcases hv with rfl | rfl | rfl | rfl <;> rfl)) ?_))
    exact bodyPost_ret (results_arr2 Try.results40 _ _ _ rfl (by kernel_rfl) _ (by first | assumption | exact Arr.setRow (by assumption) _) (by first | (rw [lims_len]; kernel_rfl) | (rw [el_rep]; kernel_rfl) | (rw [el_len]; kernel_rfl) | (rw [byts_len]; kernel_rfl) | (rw [us_len]; kernel_rfl) | (rw [bytn_len]; kernel_rfl) | (rw [ens_len, digs_len]; kernel_rfl) | kernel_rfl)) rfl ⟨rfl, below_setRow kb (by omega) _⟩

theorem p_most : 2 ^ 255 - 21 = pN - 2 := by decide

/-- The same, where the digits are as carry leaves them. -/
def mulU (U V : Int) : Int := fv (mulZ (rep U) (rep V))
def powU (U : Int) (e : Nat) : Nat → Int
  | 0 => 1
  | m + 1 => if e / 2 ^ (255 - m) % 2 = 1 then mulU (mulU (powU U e m) (powU U e m)) U else mulU (powU U e m) (powU U e m)
theorem rep_one : rep 1 = 1 :: List.replicate 15 0 := by decide
theorem rep_zero : rep 0 = List.replicate 16 0 := by decide
theorem powL_rep (U : Int) (e : Nat) : ∀ m, powL (rep U) e m = rep (powU U e m)
  | 0 => rep_one.symm
  | m + 1 => by
    rw [powL, powU, powL_rep U e m]
    split <;> rfl
def EU (n U : Int) : Prop := El n (rep U)
theorem EU.add {a b U V : Int} (hx : EU a U) (hy : EU b V) : EU (a + b) (fv U + fv V) := by
  have := El.add hx hy
  rw [addL, valZ_rep, valZ_rep] at this; exact this
theorem EU.sub {a b U V : Int} (hx : EU a U) (hy : EU b V) : EU (a - b) (fv U - fv V) := by
  have := El.sub hx hy
  rw [subL, valZ_rep, valZ_rep] at this; exact this
theorem EU.mul {a b U V : Int} (hx : EU a U) (hy : EU b V) : EU (a * b) (mulU U V) := El.mul hx hy
theorem EU.of {n : Nat} (hn : n < 256 ^ 32) : EU n n := El.of hn
theorem EU.pow {a U : Int} (hx : EU a U) {e : Nat} (he : e < 256 ^ 32) : EU (a ^ e) (powU U e 256) := by
  have := El.pow hx e (Nat.lt_of_lt_of_le he (by decide)) 256 (Nat.le_refl _)
  rw [powL_rep, show 256 - 256 = 0 from rfl, Nat.pow_zero, Nat.div_one] at this
  exact this

theorem radd_u {a b U V R : Int} (hx : EU a U) (hy : EU b V) (hR : Hid (fv U + fv V = R)) (w : World) :
    Calls Try.prog 24 #[.agg (el (rep U)).toArray, .agg (el (rep V)).toArray] w fun e w' => e = .returned (.agg (el (rep R)).toArray) ∧ Below w.heap.size w w' := by
  have := radd_el hx hy w
  rw [addL, valZ_rep, valZ_rep, hR.out] at this; exact this
theorem rsub_u {a b U V R : Int} (hx : EU a U) (hy : EU b V) (hR : Hid (fv U - fv V = R)) (w : World) :
    Calls Try.prog 26 #[.agg (el (rep U)).toArray, .agg (el (rep V)).toArray] w fun e w' => e = .returned (.agg (el (rep R)).toArray) ∧ Below w.heap.size w w' := by
  have := rsub_el hx hy w
  rw [subL, valZ_rep, valZ_rep, hR.out] at this; exact this
theorem rmul_u {a b U V R : Int} (hx : EU a U) (hy : EU b V) (hR : Hid (mulU U V = R)) (w : World) :
    Calls Try.prog 25 #[.agg (el (rep U)).toArray, .agg (el (rep V)).toArray] w fun e w' => e = .returned (.agg (el (rep R)).toArray) ∧ Below w.heap.size w w' := by
  rw [← hR.out]; exact rmul_el hx hy w
theorem rpow_u {a U R : Int} {x : Nat} (hx : EU a U) (he : x < 256 ^ 32) (hR : Hid (powU U x 256 = R)) (w : World) :
    Calls Try.prog 39 #[.agg (el (rep U)).toArray, .agg (byts x).toArray] w fun e w' => e = .returned (.agg (el (rep R)).toArray) ∧ Below w.heap.size w w' := by
  have := rpow_el hx x he w
  rw [powL_rep, hR.out] at this; exact this
theorem rone_u (w : World) :
    Calls Try.prog 23 #[.int .i64 1] w fun e w' => e = .returned (.agg (el (rep 1)).toArray) ∧ Below w.heap.size w w' := by
  rw [rep_one]; exact rone_any 1 w

set_option maxHeartbeats 4000000 in
set_option maxRecDepth 100000 in
theorem rinv_u {a U R : Int} (hx : EU a U) (hR : Hid (powU U (pN - 2) 256 = R)) (w : World) :
    Calls Try.prog 28 #[.agg (el (rep U)).toArray] w fun e w' => e = .returned (.agg (el (rep R)).toArray) ∧ Below w.heap.size w w' := by
  have c0 := fun w => rmost_any 21 (by decide) (by decide) w
  rw [p_most] at c0
  have c1 := fun w => rpow_u hx (by decide) hR w
  obtain ⟨E, hE⟩ : ∃ E, pN - 2 = E := ⟨_, rfl⟩
  rw [hE] at c0 c1
  replace c0 := Lib.hid c0
  replace c1 := Lib.hid c1
  clear hE hR
  go_enter Try.func28, Try.ntmps28
  go_upto_region 1 with fail
  refine wp_new2 (fun W hsz k1 k2 kb => ?_)
  have k2 : Arr W (w.heap.size + 1) (el (rep 0)) := k2
  clear hsz
  go_upto_region 1 with (first | (refine wpList_load_arr2 rfl _ _ rfl _ rfl (by decide +kernel) _ (by assumption) (by first | (rw [lims_len]; kernel_rfl) | (rw [el_rep]; kernel_rfl) | (rw [el_len]; kernel_rfl) | (rw [byts_len]; kernel_rfl) | (rw [us_len]; kernel_rfl) | (rw [bytn_len]; kernel_rfl) | (rw [ens_len, digs_len]; kernel_rfl) | kernel_rfl) ?_) | (refine wpList_store_arr rfl _ _ _ rfl _ _ rfl rfl _ (by first | assumption | exact Arr.new _ _ _) (by first | (rw [lims_len]; kernel_rfl) | (rw [el_rep]; kernel_rfl) | (rw [el_len]; kernel_rfl) | (rw [byts_len]; kernel_rfl) | (rw [us_len]; kernel_rfl) | (rw [bytn_len]; kernel_rfl) | (rw [ens_len, digs_len]; kernel_rfl) | kernel_rfl) (by first | (rw [lims_len, lims_len]) | (rw [el_rep, el_rep]) | (rw [el_rep, el_len]; rfl) | (rw [el_len, el_rep]; rfl) | (rw [el_len, el_len]; rfl) | (rw [byts_len, byts_len]) | (rw [lims_len]; rfl) | (rw [byts_len]; rfl) | (rw [us_len, us_len]; rfl) | (rw [bytn_len, bytn_len]) | (rw [bytn_len]; rfl) | (rw [ens_len, ens_len, digs_len, digs_len]) | rfl) (by first | exact lims_one _ _ | exact el_one _ | exact byts_one _ | exact us_one _ | exact bytn_one _ _ | exact ens_one _ | (intro v hv; simp at hv; rcases hv with rfl | rfl | rfl | rfl <;> rfl)) ?_))
  refine Tx.start (fun w' => Below (W).heap.size (W) w') 3 4 rfl (by kernel_rfl) ?_
  have hS_6 : Below (W).heap.size (W) (World.drew W) := (Below.refl _ _).drew
  refine Tx.seg (A := ?_) 3 1 (by kernel_rfl) (by exact hS_6) [0] (by kernel_rfl) ?_ ?_
  rotate_left
  · intro w' hB
    have e0 := k1.below hB
    have e1 := k2.below hB
    iterate 1 (first | (refine rd_skip rfl rfl ?_; simp only [Act.put, List.setIfInBounds_toArray, List.set_cons_zero, List.set_cons_succ]) | (refine rd_load_arr rfl rfl _ _ rfl _ rfl (by decide +kernel) _ (by assumption) (by first | (rw [lims_len]; kernel_rfl) | (rw [el_rep]; kernel_rfl) | (rw [el_len]; kernel_rfl) | (rw [byts_len]; kernel_rfl) | (rw [us_len]; kernel_rfl) | (rw [bytn_len]; kernel_rfl) | (rw [ens_len, digs_len]; kernel_rfl) | kernel_rfl) ?_; simp only [Act.put, List.setIfInBounds_toArray, List.set_cons_zero, List.set_cons_succ]) | (refine rd_take (v := ?_) rfl rfl ?_ ?_; rotate_left; (focus (go_simp; try (with_reducible rfl))); simp only [Act.put, List.setIfInBounds_toArray, List.set_cons_zero, List.set_cons_succ]) | (refine rd_take (v := ?_) rfl rfl ?_ ?_; rotate_left; (focus (try go_simp); fail)))
    exact rd_nil
  refine Tx.eff 1 3 rfl (by decide +kernel) (fun K hK => ?_)
  go_simp
  refine (c0.out _).mono ?_
  rintro e w_7 ⟨rfl, hb_7⟩
  have hS_7 := ext_trans hS_6 (Nat.le_refl _) hb_7
  refine hK (fun w' => Below (W).heap.size (W) w') _ _ hS_7 (fun _ h => h) ?_
  clear hK K hb_7 hS_6
  try simp only [Act.put, List.setIfInBounds_toArray, List.set_cons_zero, List.set_cons_succ]
  refine Tx.eff 2 7 rfl (by decide +kernel) (fun K hK => ?_)
  go_simp
  refine (c1.out _).mono ?_
  rintro e w_8 ⟨rfl, hb_8⟩
  have hS_8 := ext_trans hS_7 (Nat.le_refl _) hb_8
  refine hK (fun w' => Below (W).heap.size (W) w') _ _ hS_8 (fun _ h => h) ?_
  clear hK K hb_8 hS_7
  try simp only [Act.put, List.setIfInBounds_toArray, List.set_cons_zero, List.set_cons_succ]
  have k1 := k1.below hS_8
  have k2 := k2.below hS_8
  have kb := bel kb hS_8
  refine Tx.bar 15 rfl (by decide +kernel) (fun K hK => ?_)
  refine step_store_arr rfl _ _ _ rfl _ _ rfl rfl _ (by assumption) (by first | (rw [lims_len]; kernel_rfl) | (rw [el_rep]; kernel_rfl) | (rw [el_len]; kernel_rfl) | (rw [byts_len]; kernel_rfl) | (rw [us_len]; kernel_rfl) | (rw [bytn_len]; kernel_rfl) | (rw [ens_len, digs_len]; kernel_rfl) | kernel_rfl) (by first | (rw [lims_len, lims_len]) | (rw [el_rep, el_rep]) | (rw [el_rep, el_len]; rfl) | (rw [el_len, el_rep]; rfl) | (rw [el_len, el_len]; rfl) | (rw [byts_len, byts_len]) | (rw [lims_len]; rfl) | (rw [byts_len]; rfl) | (rw [us_len, us_len]; rfl) | (rw [bytn_len, bytn_len]) | (rw [bytn_len]; rfl) | (rw [ens_len, ens_len, digs_len, digs_len]) | rfl) (by first | exact lims_one _ _ | exact el_one _ | exact byts_one _ | exact us_one _ | exact bytn_one _ _ | exact ens_one _ | (intro v hv; simp at hv; rcases hv with rfl | rfl | rfl | rfl <;> rfl)) ?_
  refine hK (fun _ => True) 9999 _ _ ?_
  clear hK K
  try simp only [Act.put]
  try simp only [List.setIfInBounds_toArray, List.set_cons_zero, List.set_cons_succ]
  refine Tx.done (by kernel_rfl) ?_
  refine then_row k2 (fun w_9 k2 hoth hbel => ?_)
  have k1 := hoth _ _ (by omega) k1
  have kb := hbel _ _ (by omega) kb
  clear hoth hbel
  go_wp2_with (first | (refine wpList_load_arr2 rfl _ _ rfl _ rfl (by decide +kernel) _ (by assumption) (by first | (rw [lims_len]; kernel_rfl) | (rw [el_rep]; kernel_rfl) | (rw [el_len]; kernel_rfl) | (rw [byts_len]; kernel_rfl) | (rw [us_len]; kernel_rfl) | (rw [bytn_len]; kernel_rfl) | (rw [ens_len, digs_len]; kernel_rfl) | kernel_rfl) ?_) | (refine wpList_store_arr rfl _ _ _ rfl _ _ rfl rfl _ (by first | assumption | exact Arr.new _ _ _) (by first | (rw [lims_len]; kernel_rfl) | (rw [el_rep]; kernel_rfl) | (rw [el_len]; kernel_rfl) | (rw [byts_len]; kernel_rfl) | (rw [us_len]; kernel_rfl) | (rw [bytn_len]; kernel_rfl) | (rw [ens_len, digs_len]; kernel_rfl) | kernel_rfl) (by first | (rw [lims_len, lims_len]) | (rw [el_rep, el_rep]) | (rw [el_rep, el_len]; rfl) | (rw [el_len, el_rep]; rfl) | (rw [el_len, el_len]; rfl) | (rw [byts_len, byts_len]) | (rw [lims_len]; rfl) | (rw [byts_len]; rfl) | (rw [us_len, us_len]; rfl) | (rw [bytn_len, bytn_len]) | (rw [bytn_len]; rfl) | (rw [ens_len, ens_len, digs_len, digs_len]) | rfl) (by first | exact lims_one _ _ | exact el_one _ | exact byts_one _ | exact us_one _ | exact bytn_one _ _ | exact ens_one _ | (intro v hv; simp at hv; rcases hv with rfl | rfl | rfl | rfl <;> rfl)) ?_))
  exact bodyPost_ret (results_arr2 Try.results28 _ _ _ rfl (by kernel_rfl) _ (by first | assumption | exact Arr.setRow (by assumption) _) (by first | (rw [lims_len]; kernel_rfl) | (rw [el_rep]; kernel_rfl) | (rw [el_len]; kernel_rfl) | (rw [byts_len]; kernel_rfl) | (rw [us_len]; kernel_rfl) | (rw [bytn_len]; kernel_rfl) | (rw [ens_len, digs_len]; kernel_rfl) | kernel_rfl)) rfl ⟨rfl, kb⟩

end Go.Proofs.Ytpjkhedodlnloaa
