/- Reference of the field: one, out. -/
import Derived.Test.YtpjkhedodlnloaaRf3
import Derived.Test.YtpjkhedodlnloaaBy
namespace Go.Proofs.Ytpjkhedodlnloaa
open Go.RowKit

theorem valZ_bd {B : Int} (hB : 0 ≤ B) : ∀ (xs : List Int), Bd B xs → -(B * (2 * 65536 ^ xs.length - 1)) ≤ valZ xs ∧ valZ xs ≤ B * (2 * 65536 ^ xs.length - 1)
  | [], _ => by simp [valZ]; omega
  | x :: xs, h => by
    have ih := valZ_bd hB xs (fun z hz => h z (List.mem_cons_of_mem _ hz))
    have hx := h x (by simp)
    rw [valZ, List.length_cons, Int.pow_succ]
    have e1 : B * (2 * 65536 ^ xs.length - 1) = 2 * (B * 65536 ^ xs.length) - B := by rw [Int.mul_sub, Int.mul_left_comm, Int.mul_one]
    have e2 : B * (2 * (65536 ^ xs.length * 65536) - 1) = 131072 * (B * 65536 ^ xs.length) - B := by
      rw [Int.mul_sub, Int.mul_one, ← Int.mul_assoc 2, ← Int.mul_assoc, Int.mul_left_comm B 2]; omega
    rw [e1] at ih
    rw [e2]
    generalize B * 65536 ^ xs.length = m at *
    omega

/-- What carry makes of a number, twice: it stands among the canonical ones. -/
theorem fv_twice {V : Int} (h0 : -(2 ^ 62 * 65536 ^ 16) ≤ V) (h1 : V < 2 ^ 62 * 65536 ^ 16) : 0 ≤ fv (fv V) ∧ fv (fv V) < 65536 ^ 16 := by
  have hb := fv_bd (K := 2 ^ 62) (V := V) (by omega) (by omega)
  generalize fv V = U at *
  have h2 := Int.mul_ediv_add_emod U (65536 ^ 16)
  have h3 := Int.emod_nonneg U (b := 65536 ^ 16) (by decide)
  have h4 := Int.emod_lt_of_pos U (b := 65536 ^ 16) (by decide)
  unfold fv
  constructor <;> omega

theorem sub_digit (N D P R : Int) (i : Nat) (h : R + 65536 * (N / 65536 ^ (i + 1) - P / 65536 ^ (i + 1)) = D / 65536 ^ i) :
    (N / 65536 ^ (i + 1) % 65536 - P / 65536 ^ (i + 1) % 65536 + R / 65536) + 65536 * (N / 65536 ^ (i + 1 + 1) - P / 65536 ^ (i + 1 + 1)) = D / 65536 ^ (i + 1) ∧ R % 65536 = D / 65536 ^ i % 65536 := by
  have e1 : ∀ X : Int, X / 65536 ^ (i + 1 + 1) = X / 65536 ^ (i + 1) / 65536 := fun X => by rw [Int.pow_succ _ (i + 1), ← Int.ediv_ediv_of_nonneg (Int.pow_nonneg (by decide))]
  have e2 : D / 65536 ^ (i + 1) = D / 65536 ^ i / 65536 := by rw [Int.pow_succ, ← Int.ediv_ediv_of_nonneg (Int.pow_nonneg (by decide))]
  rw [e1, e1, e2, ← h]
  constructor <;> omega

theorem p_dig0 : (pN : Int) % 65536 = 65517 := by decide
theorem p_digs' : ∀ i, i < 15 → 1 ≤ i → (pN : Int) / 65536 ^ i % 65536 = 65535 := by decide
theorem p_digs (i : Nat) (h1 : 1 ≤ i) (h2 : i < 15) : (pN : Int) / 65536 ^ i % 65536 = 65535 := p_digs' i h2 h1
theorem p_dig15 : (pN : Int) / 65536 ^ 15 % 65536 = 32767 := by decide
theorem p_dig16 : (pN : Int) / 65536 ^ 16 = 0 := by decide

theorem digsZ_set_snoc (i : Nat) (D R : Int) (t : List Int) (h : R % 65536 = D / 65536 ^ i % 65536) : digsZ i D ++ R % 65536 :: t = digsZ (i + 1) D ++ t := by
  rw [digsZ_snoc, h, List.append_assoc]; rfl

set_option maxHeartbeats 2000000 in
set_option maxRecDepth 100000 in
theorem rone_any (n : Int) (w : World) :
    Calls Try.prog 23 #[.int .i64 n] w fun e w' => e = .returned (.agg (el (n :: List.replicate 15 0)).toArray) ∧ Below w.heap.size w w' := by
  go_enter Try.func23, Try.ntmps23
  go_upto_region 1 with fail
  refine wp_new1 (fun W hsz k1 kb => ?_)
  have k1 : Arr W w.heap.size (el (List.replicate 16 0)) := k1
  have lt1 := k1.lt
  clear hsz
  go_upto_region 2 with fail
  refine wp_new1 (fun w9 hsz9 k2 hb9 => ?_)
  have k1 := k1.below hb9
  have kb := bel kb hb9
  generalize W.heap.size = g at k2 lt1 ⊢
  have k2 : Arr w9 g (el (0 :: List.replicate 15 0)) := k2
  clear hsz9 hb9
  have hcell := k2.cell (j := 0) rfl
  have hfr := k2.frozen 0
  go_upto_region 3 with fail
  refine code_cell k2 (fun w_1 k2 hoth hbel => ?_)
  have k1 := hoth _ _ (by omega) k1
  have kb := hbel _ _ (by omega) kb
  clear hoth hbel
  rw [el_set] at k2
  have k2 : Arr w_1 g (el (n :: List.replicate 15 0)) := k2
  clear hcell hfr
  go_wp2_with (first | (refine wpList_load_arr2 rfl _ _ rfl _ rfl (by decide +kernel) _ (by assumption) (by first | (rw [lims_len]; kernel_rfl) | (rw [el_rep]; kernel_rfl) | (rw [el_len]; kernel_rfl) | (rw [byts_len]; kernel_rfl) | (rw [us_len]; kernel_rfl) | (rw [bytn_len]; kernel_rfl) | (rw [ens_len, digs_len]; kernel_rfl) | kernel_rfl) ?_) | (refine wpList_store_arr rfl _ _ _ rfl _ _ rfl rfl _ (by first | assumption | exact Arr.new _ _ _) (by first | (rw [lims_len]; kernel_rfl) | (rw [el_rep]; kernel_rfl) | (rw [el_len]; kernel_rfl) | (rw [byts_len]; kernel_rfl) | (rw [us_len]; kernel_rfl) | (rw [bytn_len]; kernel_rfl) | (rw [ens_len, digs_len]; kernel_rfl) | kernel_rfl) (by first | (rw [lims_len, lims_len]) | (rw [el_rep, el_rep]) | (rw [el_rep, el_len]; rfl) | (rw [el_len, el_rep]; rfl) | (rw [el_len, el_len]; rfl) | (rw [byts_len, byts_len]) | (rw [lims_len]; rfl) | (rw [byts_len]; rfl) | (rw [us_len, us_len]; rfl) | (rw [bytn_len, bytn_len]) | (rw [bytn_len]; rfl) | (rw [ens_len, ens_len, digs_len, digs_len]) | rfl) (by first | exact lims_one _ _ | exact el_one _ | exact byts_one _ | exact us_one _ | exact bytn_one _ _ | exact ens_one _ | (intro v hv; simp at hv; rcases hv with rfl | rfl | rfl | rfl <;> rfl)) ?_))
  exact bodyPost_ret (results_arr2 Try.results23 _ _ _ rfl (by kernel_rfl) _ (by first | assumption | exact Arr.setRow (by assumption) _) (by first | (rw [lims_len]; kernel_rfl) | (rw [el_rep]; kernel_rfl) | (rw [el_len]; kernel_rfl) | (rw [byts_len]; kernel_rfl) | (rw [us_len]; kernel_rfl) | (rw [bytn_len]; kernel_rfl) | (rw [ens_len, digs_len]; kernel_rfl) | kernel_rfl)) rfl ⟨rfl, below_setRow kb (by omega) _⟩

theorem bd_rep {U : Int} {K : Int} (h0 : -(65536 ^ 16 * K) ≤ U) (h1 : U < 65536 ^ 16 * K) (hK : K ≤ 4398046511104) : Bd 288230376151711744 (rep U) := by
  intro x hx
  have := rep_bd h0 h1 x hx
  constructor <;> omega
theorem Bd.mono {A B : Int} {xs : List Int} (h : Bd A xs) (hAB : A ≤ B) : Bd B xs := fun x hx => by have := h x hx; constructor <;> omega

theorem sub_less {N : Nat} {k : Nat} (hk : k < 3) (h : N < pN + pN * (2 - k)) (D : Int) (hD : D = (N : Int) - pN) : 0 ≤ D → ∃ M : Nat, D = (M : Int) ∧ M < pN + pN * (2 - (k + 1)) ∧ M % pN = N % pN ∧ M < 65536 ^ 16 := by
  intro h0
  refine ⟨N - pN, by omega, ?_, ?_, ?_⟩
  · obtain ⟨d, hd⟩ : ∃ d, 2 - k = d := ⟨_, rfl⟩
    rw [hd] at h
    rw [show 2 - (k + 1) = d - 1 by omega]
    rcases d with _ | d
    · simp at h; omega
    · rw [Nat.mul_add] at h; simp; omega
  · rw [Nat.mod_eq_sub_mod (a := N) (by omega)]
  · have : pN + pN * (2 - k) ≤ pN + pN * 2 := Nat.add_le_add_left (Nat.mul_le_mul_left _ (by omega)) _
    have h3 : 3 * pN < 65536 ^ 16 + pN := by decide
    omega

set_option maxHeartbeats 8000000 in
set_option maxRecDepth 100000 in
theorem rout_any (xs : List Int) (hx : xs.length = 16) (bx : Bd 1099511627776 xs) (w : World) :
    Calls Try.prog 27 #[.agg (el xs).toArray] w fun e w' => e = .returned (.agg (byts ((valZ xs % pN).toNat)).toArray) ∧ Below w.heap.size w w' := by
  have hvb := valZ_bd (by decide) xs bx
  rw [hx] at hvb
  obtain ⟨V, hV⟩ : ∃ V, valZ xs = V := ⟨_, rfl⟩
  rw [hV] at hvb ⊢
  have hvb1 : -(65536 ^ 16 * 2199023255552) ≤ V := by omega
  have hvb2 : V < 65536 ^ 16 * 2199023255552 := by omega
  have b0 := bd_rep hvb1 hvb2 (by decide)
  have hf1 := fv_bd hvb1 hvb2
  have hr2 := fv_twice (V := V) (by omega) (by omega)
  have b1 : Bd 288230376151711744 (rep (fv V)) := bd_rep (K := 2) (by omega) (by omega) (by decide)
  have b2 : Bd 288230376151711744 (rep (fv (fv V))) := bd_rep (K := 2) (by omega) (by omega) (by decide)
  obtain ⟨N, hN⟩ : ∃ N : Nat, fv (fv V) = (N : Int) := ⟨(fv (fv V)).toNat, by omega⟩
  have hNl : N < 65536 ^ 16 := by
    have h2 : ((65536 ^ 16 : Nat) : Int) = 65536 ^ 16 := by decide
    omega
  have hNm : (N : Int) % pN = V % pN := by rw [← hN, fv_mod, fv_mod]
  have c1 := carry_any xs hx (bx.mono (by decide))
  have c2 := carry_any (rep V) (rep_len V) (b0.mono (by decide))
  have c3 := carry_any (rep (fv V)) (rep_len _) (b1.mono (by decide))
  have c4 := carry_any (rep (fv (fv V))) (rep_len _) (b2.mono (by decide))
  rw [hV] at c1
  rw [valZ_rep] at c2 c3 c4
  rw [fv_small hr2.1 hr2.2] at c4
  rw [hN] at c3 c4
  rw [rep_small (V := (N : Int)) (by omega) (by have h2 : ((65536 ^ 16 : Nat) : Int) = 65536 ^ 16 := by decide
                                                omega)] at c3 c4
  have hres : (V % pN).toNat = N % pN := by rw [← hNm]; omega
  rw [hres]
  have hNk : N < pN + pN * (2 - 0) := by
    have : 65536 ^ 16 < pN + pN * 2 := by decide
    omega
  have hlx : (el xs).length = 16 := by rw [el_len, hx]
  have hl1 : (el (rep V)).length = 16 := el_rep V
  have hl2 : (el (rep (fv V))).length = 16 := el_rep _
  have hl3 : (el (digsZ 16 (N : Int))).length = 16 := by rw [el_len, digsZ_len]
  replace c1 := Lib.hid c1
  replace c2 := Lib.hid c2
  replace c3 := Lib.hid c3
  replace c4 := Lib.hid c4
  replace hNl := Lib.hid hNl
  replace hNk := Lib.hid hNk
  replace hlx := Lib.hid hlx
  replace hl3 := Lib.hid hl3
  clear hvb hvb1 hvb2 b0 hf1 hr2 b1 b2 hN hNm hres hx bx hV hl1 hl2
  go_enter Try.func27, Try.ntmps27
  go_upto_region 1 with fail
  refine wp_new2 (fun W hsz k1 k2 kb => ?_)
  have k2 : Arr W (w.heap.size + 1) (byts 0) := k2
  clear hsz
  go_wp2_with (refine wpList_load_arr2 rfl _ _ rfl _ rfl (by kernel_rfl) _ k1 (by rw [hlx.out]; kernel_rfl) ?_)
  refine (c1.out _).mono ?_
  rintro e w_2 ⟨rfl, hb_2⟩
  have k1 := k1.below hb_2
  have k2 := k2.below hb_2
  have kb := bel kb hb_2
  clear hb_2
  go_wp2_with fail
  refine (c2.out _).mono ?_
  rintro e w_3 ⟨rfl, hb_3⟩
  have k1 := k1.below hb_3
  have k2 := k2.below hb_3
  have kb := bel kb hb_3
  clear hb_3
  go_wp2_with fail
  refine (c3.out _).mono ?_
  rintro e w_4 ⟨rfl, hb_4⟩
  have k1 := k1.below hb_4
  have k2 := k2.below hb_4
  have kb := bel kb hb_4
  clear hb_4
  go_wp2_with fail
  refine (c4.out _).mono ?_
  rintro e w_5 ⟨rfl, hb_5⟩
  have k1 := k1.below hb_5
  have k2 := k2.below hb_5
  have kb := bel kb hb_5
  clear hb_5
  go_upto_region 2 with (refine wpList_store_arr rfl _ _ _ rfl _ _ rfl rfl _ k1 (by rw [hl3.out]; kernel_rfl) (by rw [hlx.out, hl3.out]) (el_one _) ?_)
  refine code_row k1 (fun w_6 k1 hoth hbel => ?_)
  have k2 := hoth _ _ (by omega) k2
  have kb := hbel _ _ (by omega) kb
  clear hoth hbel
  clear c1 c2 c3 c4
  go_wp2_with fail
  go_loopw [3] (fun kv wr => ∃ k M : Nat, k ≤ 3 ∧ kv = .int .i64 k ∧ M % pN = N % pN ∧ M < pN + pN * (2 - k) ∧ M < 65536 ^ 16 ∧ Arr wr w.heap.size (el (digsZ 16 M)) ∧ Arr wr (w.heap.size + 1) (byts 0) ∧ Below w.heap.size w wr) (fun kv _ => 3 - (intOf kv).toNat)
  case atStart => exact ⟨0, N, by omega, rfl, rfl, hNk.out, hNl.out, k1, k2, kb⟩
  case round =>
    clear k1 k2 kb hNk hNl hlx hl3
    obtain ⟨k, M, hk, rfl, hM, hMk, hMl, k1, k2, kb⟩ := hrel
    replace hM := Lib.hid hM
    replace hMk := Lib.hid hMk
    replace hMl := Lib.hid hMl
    by_cases hlt : k < 3
    · obtain ⟨D, hD⟩ : ∃ D, (M : Int) - pN = D := ⟨_, rfl⟩
      replace hD := Lib.hid hD
      have lt1 := k1.lt
      have lt2 := k2.lt
      go_upto_region 6 with fail
      refine wp_new1 (fun w9 hsz9 k4 hb9 => ?_)
      have k1 := k1.below hb9
      have k2 := k2.below hb9
      have kb := bel kb hb9
      generalize wr.heap.size = g at k4 lt1 lt2 ⊢
      have k4 : Arr w9 g (el (0 :: List.replicate 15 0)) := k4
      clear hsz9 hb9
      have hcel := k1.cell (el_get (digsZ_get 16 M 0 (by decide)))
      rw [Int.pow_zero, Int.ediv_one] at hcel
      have hcel4 := k4.cell (j := 0) rfl
      have hfro := k4.frozen 0
      have hx1 : 0 ≤ (M : Int) % 65536 := Int.emod_nonneg _ (by decide)
      have hx2 : (M : Int) % 65536 < 65536 := Int.emod_lt_of_pos _ (by decide)
      go_upto_region 7 with fail
      refine code_cell k4 (fun w_7 k4 hoth hbel => ?_)
      have k1 := hoth _ _ (by omega) k1
      have k2 := hoth _ _ (by omega) k2
      have kb := hbel _ _ (by omega) kb
      clear hoth hbel
      rw [el_set] at k4
      clear hcel hcel4 hfro
      have hR0 : ((M : Int) % 65536 - 65517) + 65536 * ((M : Int) / 65536 ^ (0 + 1) - pN / 65536 ^ (0 + 1)) = D / 65536 ^ 0 := by
        have h0 := p_dig0
        rw [Int.pow_zero, Int.ediv_one, ← hD.out]
        simp only [Nat.zero_add, Int.pow_one]
        omega
      replace hR0 := Lib.hid hR0
      go_wp2_with fail
      go_loopw [5] (fun kv wr => ∃ (j : Nat) (R : Int), j ≤ 14 ∧ kv = .int .i64 ((j + 1 : Nat) : Int) ∧ R + 65536 * ((M : Int) / 65536 ^ (j + 1) - pN / 65536 ^ (j + 1)) = D / 65536 ^ j ∧ -65536 ≤ R ∧ R ≤ 65535 ∧ Arr wr w.heap.size (el (digsZ 16 M)) ∧ Arr wr (w.heap.size + 1) (byts 0) ∧ Arr wr g (el (digsZ j D ++ R :: 0 :: List.replicate (14 - j) 0)) ∧ Below w.heap.size w wr) (fun kv _ => 16 - (intOf kv).toNat)
      case atStart => exact ⟨0, _, by omega, rfl, hR0.out, by omega, by omega, k1, k2, k4, kb⟩
      case round =>
        clear k1 k2 k4 kb hR0 hx1 hx2
        obtain ⟨j, R, hj, rfl, hR, hR1, hR2, k1, k2, k4, kb⟩ := hrel
        obtain ⟨hS, hmask⟩ := sub_digit _ _ _ _ _ hR
        obtain ⟨x, hx⟩ : ∃ x, (M : Int) / 65536 ^ (j + 1) % 65536 = x := ⟨_, rfl⟩
        rw [hx] at hS
        have hx1 : 0 ≤ x := hx ▸ Int.emod_nonneg _ (by decide)
        have hx2 : x < 65536 := hx ▸ Int.emod_lt_of_pos _ (by decide)
        obtain ⟨b, hb⟩ : ∃ b, bits BinOp.and IntKind.i64 (R / 65536) 1 = b := ⟨_, rfl⟩
        have hb' : b = -(R / 65536) := by rw [← hb, and_one]; omega
        have ga := el_get (digsZ_get 16 M (j + 1) (by omega))
        rw [hx] at ga
        have gR := el_get (mid_get (digsZ_len j D) R (0 :: List.replicate (14 - j) 0))
        have gz := el_get (show (digsZ j D ++ R :: 0 :: List.replicate (14 - j) 0)[j + 1]? = some 0 by
          have := mid_get (a := digsZ j D ++ [R]) (i := j + 1) (by rw [List.length_append, digsZ_len]; rfl) 0 (List.replicate (14 - j) (0 : Int))
          rw [List.append_assoc] at this
          exact this)
        have hset : ∀ y : Int, (digsZ j D ++ R :: 0 :: List.replicate (14 - j) 0).set (j + 1) y = digsZ j D ++ R :: y :: List.replicate (14 - j) 0 := by
          intro y
          have := mid_set (a := digsZ j D ++ [R]) (i := j + 1) (by rw [List.length_append, digsZ_len]; rfl) 0 y (List.replicate (14 - j) (0 : Int))
          rw [List.append_assoc, List.append_assoc] at this
          exact this
        have hR65 : -1 ≤ R / 65536 ∧ R / 65536 ≤ 0 := by omega
        have hb0 : 0 ≤ b := by omega
        have hb1 : b ≤ 1 := by omega
        have iwb : IntKind.i64.wrap (R / 65536) = R / 65536 := i64_in (by omega)
        replace hS := Lib.hid hS
        replace hmask := Lib.hid hmask
        replace hx := Lib.hid hx
        replace hset := Lib.hid hset
        replace ga := Lib.hid ga
        replace gR := Lib.hid gR
        replace gz := Lib.hid gz
        replace hR := Lib.hid hR
        by_cases hlt14 : j < 14
        · have iw1 : IntKind.i64.wrap (x - 65535) = x - 65535 := i64_in (by omega)
          have iw2 : IntKind.i64.wrap (x - 65535 - b) = x - 65535 - b := i64_in (by omega)
          have iw5 : (0 : Int) ≤ (j : Int) + 1 := by omega
          have iw6 : (j : Int) + 1 < 16 := by omega
          have iw7 : (j : Int) < 16 := by omega
          have iw4 : IntKind.i64.wrap (j : Int) = (j : Int) := i64_in (by omega)
          have iw3 : IntKind.i64.wrap ((j : Int) + 1 - 1) = (j : Int) := by rw [show (j : Int) + 1 - 1 = j by omega]; exact i64_in (by omega)
          replace hb := Lib.hid hb
          replace hb' := Lib.hid hb'
          go_upto_region 10 with (first | (refine wpList_load_arr2 rfl _ _ rfl _ rfl (by decide +kernel) _ (by assumption) (by first | (rw [lims_len]; kernel_rfl) | (rw [el_rep]; kernel_rfl) | (rw [el_len]; kernel_rfl) | (rw [byts_len]; kernel_rfl) | (rw [us_len]; kernel_rfl) | (rw [bytn_len]; kernel_rfl) | (rw [ens_len, digs_len]; kernel_rfl) | kernel_rfl) ?_) | (refine wpList_store_arr rfl _ _ _ rfl _ _ rfl rfl _ (by first | assumption | exact Arr.new _ _ _) (by first | (rw [lims_len]; kernel_rfl) | (rw [el_rep]; kernel_rfl) | (rw [el_len]; kernel_rfl) | (rw [byts_len]; kernel_rfl) | (rw [us_len]; kernel_rfl) | (rw [bytn_len]; kernel_rfl) | (rw [ens_len, digs_len]; kernel_rfl) | kernel_rfl) (by first | (rw [lims_len, lims_len]) | (rw [el_rep, el_rep]) | (rw [el_rep, el_len]; rfl) | (rw [el_len, el_rep]; rfl) | (rw [el_len, el_len]; rfl) | (rw [byts_len, byts_len]) | (rw [lims_len]; rfl) | (rw [byts_len]; rfl) | (rw [us_len, us_len]; rfl) | (rw [bytn_len, bytn_len]) | (rw [bytn_len]; rfl) | (rw [ens_len, ens_len, digs_len, digs_len]) | rfl) (by first | exact lims_one _ _ | exact el_one _ | exact byts_one _ | exact us_one _ | exact bytn_one _ _ | exact ens_one _ | (intro v hv; simp at hv; rcases hv with rfl | rfl | rfl | rfl <;> rfl)) ?_))
          refine Tx.start (fun w' => Below (wr).heap.size (wr) w') 13 14 rfl (by kernel_rfl) ?_
          have hS_8 : Below (wr).heap.size (wr) (World.drew wr) := (Below.refl _ _).drew
          refine Tx.seg (A := ?_) 1 8191 (by kernel_rfl) (by exact hS_8) [0, 1, 2, 3, 4, 5, 6, 7, 8, 9, 10, 11, 12] (by kernel_rfl) ?_ ?_
          rotate_left
          · intro w' hB
            have e0 := k1.below hB
            have e1 := k2.below hB
            have e2 := k4.below hB
            have c1 := (k1.below hB).cell ga.out
            have c2 := (k4.below hB).cell gR.out
            have c3 := hb.out
            iterate 13 (first | (refine rd_skip rfl rfl ?_; simp only [Act.put, List.setIfInBounds_toArray, List.set_cons_zero, List.set_cons_succ]) | (refine rd_load_arr rfl rfl _ _ rfl _ rfl (by decide +kernel) _ (by assumption) (by first | (rw [lims_len]; kernel_rfl) | (rw [el_rep]; kernel_rfl) | (rw [el_len]; kernel_rfl) | (rw [byts_len]; kernel_rfl) | (rw [us_len]; kernel_rfl) | (rw [bytn_len]; kernel_rfl) | (rw [ens_len, digs_len]; kernel_rfl) | kernel_rfl) ?_; simp only [Act.put, List.setIfInBounds_toArray, List.set_cons_zero, List.set_cons_succ]) | (refine rd_take (v := ?_) rfl rfl ?_ ?_; rotate_left; (focus (go_simp; try (with_reducible rfl))); simp only [Act.put, List.setIfInBounds_toArray, List.set_cons_zero, List.set_cons_succ]) | (refine rd_take (v := ?_) rfl rfl ?_ ?_; rotate_left; (focus (try go_simp); fail)))
            exact rd_nil
          have k1 := k1.below hS_8
          have k2 := k2.below hS_8
          have k4 := k4.below hS_8
          have kb := bel kb hS_8
          have hcel := k4.cell gz.out
          have hfro := fun j => k4.frozen j
          refine Tx.bar 16383 rfl (by decide +kernel) (fun K hK => ?_)
          go_simp
          refine hK (fun _ => True) 9999 _ _ ?_
          clear hK K
          try simp only [Act.put]
          try simp only [List.setIfInBounds_toArray, List.set_cons_zero, List.set_cons_succ]
          refine Tx.done (by kernel_rfl) ?_
          first | refine then_cellD k4 (fun w_9 k4 hoth hbel => ?_) | refine inb_cellD k4 (fun w_9 k4 hoth hbel => ?_)
          have k1 := hoth _ _ (by omega) k1
          have k2 := hoth _ _ (by omega) k2
          have kb := hbel _ _ (by omega) kb
          clear hoth hbel
          clear hcel hfro
          obtain ⟨y, hy⟩ : ∃ y, x - 65535 - b = y := ⟨_, rfl⟩
          rw [hy, el_set, hset.out] at k4
          rw [hy]
          have hyb : -65536 ≤ y ∧ y ≤ 65535 := by have := hb'.out; omega
          obtain ⟨t, ht⟩ : ∃ t, 14 - j = t + 1 := ⟨14 - j - 1, by omega⟩
          have hSy : y + 65536 * ((M : Int) / 65536 ^ (j + 1 + 1) - pN / 65536 ^ (j + 1 + 1)) = D / 65536 ^ (j + 1) := by
            rw [← hS.out, p_digs (j + 1) (by omega) (by omega), ← hy, hb'.out]; omega
          have hcel := k4.cell (el_get (mid_get (digsZ_len j D) R (y :: List.replicate (14 - j) 0)))
          have hfro := k4.frozen j
          have hand := and_65535 R
          replace hSy := Lib.hid hSy
          replace hy := Lib.hid hy
          replace ht := Lib.hid ht
          clear iw1 iw2
          go_upto_region 9 with fail
          refine code_cell k4 (fun w_10 k4 hoth hbel => ?_)
          have k1 := hoth _ _ (by omega) k1
          have k2 := hoth _ _ (by omega) k2
          have kb := hbel _ _ (by omega) kb
          clear hoth hbel
          rw [el_set, mid_set (digsZ_len j D), digsZ_set_snoc j D R _ hmask.out, ht.out, List.replicate_succ] at k4
          clear hcel hfro hand
          go_wp2_with fail
          exact ⟨⟨j + 1, y, by omega, by go_num, hSy.out, hyb.1, hyb.2, k1, k2, by rw [show 14 - (j + 1) = t by have := ht.out; omega]; exact k4, kb⟩, by simp [intOf]; omega⟩
        · obtain rfl : j = 14 := by omega
          obtain ⟨y, hy⟩ : ∃ y, x - 32767 - b = y := ⟨_, rfl⟩
          have hSy : y = D / 65536 ^ 15 := by
            have h1 := hS.out
            have h2 : (M : Int) / 65536 ^ 16 = 0 := Int.ediv_eq_zero_of_lt (by omega) (by
              have h2 : ((65536 ^ 16 : Nat) : Int) = 65536 ^ 16 := by decide
              have := hMl.out
              omega)
            rw [show 14 + 1 + 1 = 16 by decide, h2, p_dig16, show 14 + 1 = 15 by decide, p_dig15] at h1
            rw [← h1, ← hy, hb']; omega
          have hcel := k1.cell ga.out
          have hcR := k4.cell gR.out
          have hcz := k4.cell gz.out
          have hfro := k4.frozen 15
          replace hSy := Lib.hid hSy
          replace hy := Lib.hid hy
          replace hb' := Lib.hid hb'
          go_upto_region 13 with fail
          rw [hy.out]
          refine code_cell k4 (fun w_11 k4 hoth hbel => ?_)
          have k1 := hoth _ _ (by omega) k1
          have k2 := hoth _ _ (by omega) k2
          have kb := hbel _ _ (by omega) kb
          clear hoth hbel
          rw [el_set, hset.out] at k4
          have k4 : Arr w_11 g (el (digsZ 14 D ++ R :: [y])) := k4
          clear hcel hcR hcz hfro
          have hcel := k4.cell (el_get (mid_get (digsZ_len 14 D) R [y]))
          have hfro := k4.frozen 14
          have hand := and_65535 R
          go_upto_region 14 with fail
          refine code_cell k4 (fun w_12 k4 hoth hbel => ?_)
          have k1 := hoth _ _ (by omega) k1
          have k2 := hoth _ _ (by omega) k2
          have kb := hbel _ _ (by omega) kb
          clear hoth hbel
          rw [el_set, mid_set (digsZ_len 14 D), digsZ_set_snoc 14 D R _ hmask.out] at k4
          clear hcel hfro hand
          have hcel := k4.cell (el_get (mid_get (digsZ_len 15 D) y []))
          by_cases hy0 : 0 ≤ y
          · have hD0 : 0 ≤ D := by
              have h1 := hSy.out
              have h2 := Int.mul_ediv_add_emod D (65536 ^ 15)
              have h3 := Int.emod_nonneg D (b := 65536 ^ 15) (by decide)
              rw [← h1] at h2
              omega
            obtain ⟨M', hM', hMk', hMm, hMl'⟩ := sub_less hlt hMk.out D hD.out.symm hD0
            have e : digsZ (14 + 1) D ++ [y] = digsZ 16 (M' : Int) := by
              rw [show 14 + 1 = 15 by decide, digsZ_snoc 15, ← hM', hSy.out]
              congr 2
              refine (Int.emod_eq_of_lt (by rw [← hSy.out]; exact hy0) (Int.ediv_lt_of_lt_mul (by decide) ?_)).symm
              have h2 : ((65536 ^ 16 : Nat) : Int) = 65536 ^ 16 := by decide
              omega
            rw [e] at k4
            have hml : (el (digsZ 16 (M' : Int))).length = 16 := by rw [el_len, digsZ_len]
            have hml0 : (el (digsZ 16 (M : Int))).length = 16 := by rw [el_len, digsZ_len]
            replace hM' := Lib.hid hM'
            replace hMk' := Lib.hid hMk'
            replace hMl' := Lib.hid hMl'
            replace hMm := Lib.hid hMm
            replace hml := Lib.hid hml
            replace hml0 := Lib.hid hml0
            replace e := Lib.hid e
            clear hD0
            go_wp2_with (first | (refine wpList_load_arr2 rfl _ _ rfl _ rfl (by kernel_rfl) _ k4 (by rw [hml.out]; kernel_rfl) ?_) | (refine wpList_store_arr rfl _ _ _ rfl _ _ rfl rfl _ k1 (by rw [hml.out]; kernel_rfl) (by rw [hml.out, hml0.out]) (el_one _) ?_))
            exact ⟨⟨k + 1, M', by omega, by go_num, by rw [hMm.out, hM.out], hMk'.out, hMl'.out, k1.setRow _, k2.row_other (by omega) _, below_setRow kb (by omega) _⟩, by simp [intOf]; omega⟩
          · have hMp : M < pN := by
              have h1 := hSy.out
              have h2 := hD.out
              have h3 : D < 0 := by
                by_cases hd : D < 0
                · exact hd
                · exfalso
                  have := Int.ediv_nonneg (a := D) (b := 65536 ^ 15) (by omega) (by decide)
                  omega
              omega
            replace hMp := Lib.hid hMp
            go_wp2_with fail
            exact ⟨⟨k + 1, M, by omega, by go_num, hM.out, Nat.lt_of_lt_of_le hMp.out (Nat.le_add_right _ _), hMl.out, k1, k2, kb⟩, by simp [intOf]; omega⟩
    · obtain rfl : k = 3 := by omega
      have hMN : N % pN = M := by
        rw [← hM.out]
        have := hMk.out
        exact Nat.mod_eq_of_lt (by omega)
      have hM256 : M < 256 ^ 32 := by
        have := hMl.out
        have h2 : (65536 : Nat) ^ 16 = 256 ^ 32 := by decide
        omega
      have lt1 := k1.lt
      have lt2 := k2.lt
      replace hM256 := Lib.hid hM256
      replace hMN := Lib.hid hMN
      clear hM hMk hMl
      go_upto_region 17 with fail
      refine wp_new1 (fun w9 hsz9 k6 hb9 => ?_)
      have k1 := k1.below hb9
      have k2 := k2.below hb9
      have kb := bel kb hb9
      generalize wr.heap.size = g at k6 lt1 lt2 ⊢
      have k6 : Arr w9 g (byts (M % 65536 ^ 0)) := by rw [Nat.pow_zero, Nat.mod_one]; exact k6
      clear hsz9 hb9
      go_wp2_with fail
      go_loopw [7] (fun kv wr => ∃ i : Nat, i ≤ 16 ∧ kv = .int .i64 i ∧ Arr wr w.heap.size (el (digsZ 16 M)) ∧ Arr wr (w.heap.size + 1) (byts 0) ∧ Arr wr g (byts (M % 65536 ^ i)) ∧ Below w.heap.size w wr) (fun kv _ => 16 - (intOf kv).toNat)
      case atStart => exact ⟨0, by omega, rfl, k1, k2, k6, kb⟩
      case round =>
        clear k1 k2 k6 kb
        obtain ⟨i, hi, rfl, k1, k2, k6, kb⟩ := hrel
        by_cases hlt16 : i < 16
        · obtain ⟨d, hd⟩ : ∃ d, (M : Int) / 65536 ^ i % 65536 = d := ⟨_, rfl⟩
          obtain ⟨d0, hd0⟩ : ∃ b, M / 256 ^ (2 * i) % 256 = b := ⟨_, rfl⟩
          obtain ⟨d1, hd1⟩ : ∃ b, M / 256 ^ (2 * i + 1) % 256 = b := ⟨_, rfl⟩
          have hdd := dig_two M i
          rw [hd, hd0, hd1] at hdd
          have l0 : d0 < 256 := hd0 ▸ Nat.mod_lt _ (by decide)
          have l1 : d1 < 256 := hd1 ▸ Nat.mod_lt _ (by decide)
          have a0 : bits .and .i64 d 255 = (d0 : Int) := by rw [and_255]; omega
          have a1 : bits .and .i64 (d / 256) 255 = (d1 : Int) := by rw [and_255]; omega
          have hdl : 0 ≤ d ∧ d < 65536 := by omega
          obtain ⟨hdl1, hdl2⟩ := hdl
          have ga := el_get (digsZ_get 16 M i hlt16)
          rw [hd] at ga
          have hcel := k1.cell ga
          obtain ⟨m0, hm0⟩ : ∃ m, M % 65536 ^ i = m := ⟨_, rfl⟩
          have e16 : (65536 : Nat) ^ i = 256 ^ (2 * i) := by rw [Nat.pow_mul]
          have hm0l : m0 < 256 ^ (2 * i) := by rw [← hm0, e16]; exact Nat.mod_lt _ (Nat.pow_pos (by decide))
          have hp32 : 256 ^ (2 * i + 1) ≤ 256 ^ 32 := Nat.pow_le_pow_right (by decide) (by omega)
          have hp33 : 256 ^ (2 * i) ≤ 256 ^ (2 * i + 1) := Nat.pow_le_pow_right (by decide) (by omega)
          have s0 : (byts m0).set (2 * i) (.int .u8 (d0 : Int)) = byts (m0 + 256 ^ (2 * i) * d0) := byts_set (by omega) (by omega) l0 (by rw [Nat.div_eq_of_lt hm0l]; rfl)
          have hm1 : m0 + 256 ^ (2 * i) * d0 = M % 256 ^ (2 * i + 1) := by rw [mod_pow_succ', ← e16, hm0, e16, hd0]
          have hm1l : m0 + 256 ^ (2 * i) * d0 < 256 ^ (2 * i + 1) := by rw [hm1]; exact Nat.mod_lt _ (Nat.pow_pos (by decide))
          have s1 : (byts (m0 + 256 ^ (2 * i) * d0)).set (2 * i + 1) (.int .u8 (d1 : Int)) = byts (M % 65536 ^ (i + 1)) := byts_set (by omega) (by omega) l1 (by
            rw [Nat.div_eq_of_lt hm1l, hm1, show (65536 : Nat) ^ (i + 1) = 256 ^ (2 * i + 1 + 1) by rw [show 2 * i + 1 + 1 = 2 * (i + 1) by omega, Nat.pow_mul], mod_pow_succ' 256 (2 * i + 1), hd1]
            omega)
          rw [hm0] at k6
          have hc0 := k6.cell (byts_get m0 (2 * i) (by omega))
          have hfro := fun j => k6.frozen j
          replace s0 := Lib.hid s0
          replace s1 := Lib.hid s1
          replace hd := Lib.hid hd
          clear hd0 hd1 hdd hm0 e16 hm0l hp32 hp33 hm1 hm1l ga
          go_upto_region 21 with fail
          refine code_cell k6 (fun w_13 k6 hoth hbel => ?_)
          have k1 := hoth _ _ (by omega) k1
          have k2 := hoth _ _ (by omega) k2
          have kb := hbel _ _ (by omega) kb
          clear hoth hbel
          rw [s0.out] at k6
          clear hcel hc0 hfro
          have hcel := k1.cell (el_get (digsZ_get 16 M i hlt16))
          rw [hd.out] at hcel
          have hc1 := k6.cell (byts_get (m0 + 256 ^ (2 * i) * d0) (2 * i + 1) (by omega))
          have hfro := fun j => k6.frozen j
          go_wp2_with fail
          refine ⟨⟨i + 1, by omega, by go_num, k1.other (by simp; omega) _, k2.other (by simp; omega) _, ?_, kb.setCell (by simp; omega) _⟩, by simp [intOf]; omega⟩
          rw [← s1.out]
          exact k6.set _ _
        · obtain rfl : i = 16 := by omega
          have e : M % 65536 ^ 16 = M := Nat.mod_eq_of_lt (by
            have h2 : (65536 : Nat) ^ 16 = 256 ^ 32 := by decide
            have := hM256.out
            omega)
          rw [e] at k6
          clear e
          go_wp2_with (first | (refine wpList_load_arr2 rfl _ _ rfl _ rfl (by decide +kernel) _ (by assumption) (by first | (rw [lims_len]; kernel_rfl) | (rw [el_rep]; kernel_rfl) | (rw [el_len]; kernel_rfl) | (rw [byts_len]; kernel_rfl) | (rw [us_len]; kernel_rfl) | (rw [bytn_len]; kernel_rfl) | (rw [ens_len, digs_len]; kernel_rfl) | kernel_rfl) ?_) | (refine wpList_store_arr rfl _ _ _ rfl _ _ rfl rfl _ (by first | assumption | exact Arr.new _ _ _) (by first | (rw [lims_len]; kernel_rfl) | (rw [el_rep]; kernel_rfl) | (rw [el_len]; kernel_rfl) | (rw [byts_len]; kernel_rfl) | (rw [us_len]; kernel_rfl) | (rw [bytn_len]; kernel_rfl) | (rw [ens_len, digs_len]; kernel_rfl) | kernel_rfl) (by first | (rw [lims_len, lims_len]) | (rw [el_rep, el_rep]) | (rw [el_rep, el_len]; rfl) | (rw [el_len, el_rep]; rfl) | (rw [el_len, el_len]; rfl) | (rw [byts_len, byts_len]) | (rw [lims_len]; rfl) | (rw [byts_len]; rfl) | (rw [us_len, us_len]; rfl) | (rw [bytn_len, bytn_len]) | (rw [bytn_len]; rfl) | (rw [ens_len, ens_len, digs_len, digs_len]) | rfl) (by first | exact lims_one _ _ | exact el_one _ | exact byts_one _ | exact us_one _ | exact bytn_one _ _ | exact ens_one _ | (intro v hv; simp at hv; rcases hv with rfl | rfl | rfl | rfl <;> rfl)) ?_))
          exact bodyPost_ret (results_arr2 Try.results27 _ _ _ rfl (by kernel_rfl) _ (by first | assumption | exact Arr.setRow (by assumption) _) (by first | (rw [lims_len]; kernel_rfl) | (rw [el_rep]; kernel_rfl) | (rw [el_len]; kernel_rfl) | (rw [byts_len]; kernel_rfl) | (rw [us_len]; kernel_rfl) | (rw [bytn_len]; kernel_rfl) | (rw [ens_len, digs_len]; kernel_rfl) | kernel_rfl)) rfl ⟨by rw [hMN.out], below_setRow kb (by omega) _⟩

end Go.Proofs.Ytpjkhedodlnloaa
