/- poly: prime, fold, clamped. -/
import Derived.Test.YtfljonglibpgcaaPm
import Derived.Test.YtfljonglibpgcaaMd
import Derived.Laws.Bits64
namespace Go.Proofs.Ytfljonglibpgcaa
open Go.RowKit

theorem lims_p13 : (lims 4 p13).toArray = #[.int .u64 18446744073709551611, .int .u64 18446744073709551615, .int .u64 3, .int .u64 0] := by kernel_rfl

theorem pprime_any (w : World) : Calls Try.prog 20 #[] w fun e w' => e = .returned (.agg (lims 4 p13).toArray) ∧ Below w.heap.size w w' := by
  go_enter Try.func20, Try.ntmps20
  go_wp2_with fail
  refine bodyPost_ret (v := .agg (lims 4 p13).toArray) (by rw [lims_p13]; simp [results, Try.results20, go_sem]) rfl ⟨rfl, ?_⟩
  exact ((below_alloc _ _))

/-- Four limbs. -/
theorem lims_mk {x0 x1 x2 x3 : Nat} (h0 : x0 < 18446744073709551616) (h1 : x1 < 18446744073709551616) (h2 : x2 < 18446744073709551616) (h3 : x3 < 18446744073709551616) :
    lims 4 (x0 + 18446744073709551616 * x1 + 18446744073709551616 ^ 2 * x2 + 18446744073709551616 ^ 3 * x3) = [.int .u64 (x0 : Int), .int .u64 (x1 : Int), .int .u64 (x2 : Int), .int .u64 (x3 : Int)] := by
  have e0 : (x0 + 18446744073709551616 * x1 + 18446744073709551616 ^ 2 * x2 + 18446744073709551616 ^ 3 * x3) / 18446744073709551616 ^ 0 % 18446744073709551616 = x0 := by omega
  have e1 : (x0 + 18446744073709551616 * x1 + 18446744073709551616 ^ 2 * x2 + 18446744073709551616 ^ 3 * x3) / 18446744073709551616 ^ 1 % 18446744073709551616 = x1 := by omega
  have e2 : (x0 + 18446744073709551616 * x1 + 18446744073709551616 ^ 2 * x2 + 18446744073709551616 ^ 3 * x3) / 18446744073709551616 ^ 2 % 18446744073709551616 = x2 := by omega
  have e3 : (x0 + 18446744073709551616 * x1 + 18446744073709551616 ^ 2 * x2 + 18446744073709551616 ^ 3 * x3) / 18446744073709551616 ^ 3 % 18446744073709551616 = x3 := by omega
  unfold lims digs
  rw [show List.range 4 = [0, 1, 2, 3] from rfl]
  simp only [List.map_cons, List.map_nil, e0, e1, e2, e3]
theorem limbs_of {n : Nat} (h : n < 18446744073709551616 ^ 4) : ∃ x0 x1 x2 x3 : Nat, x0 < 18446744073709551616 ∧ x1 < 18446744073709551616 ∧ x2 < 18446744073709551616 ∧ x3 < 18446744073709551616 ∧
    n = x0 + 18446744073709551616 * x1 + 18446744073709551616 ^ 2 * x2 + 18446744073709551616 ^ 3 * x3 :=
  ⟨n % 18446744073709551616, n / 18446744073709551616 % 18446744073709551616, n / 18446744073709551616 ^ 2 % 18446744073709551616, n / 18446744073709551616 ^ 3, by omega, by omega, by omega, by omega, by omega⟩

theorem and_u64_3 (x : Nat) (hx : x < 18446744073709551616) : bits .and .u64 (x : Int) 3 = ((x % 4 : Nat) : Int) := by
  have h := bits_and_u64_nat x 3 hx (by omega)
  have e : x &&& 3 = x % 4 := Nat.and_two_pow_sub_one_eq_mod x 2
  rw [e] at h
  exact h
theorem or_shift (x y : Nat) (hx : x < 4611686018427387904) (hy : y < 4) : bits .or .u64 (x : Int) ((4611686018427387904 * y : Nat) : Int) = ((x + 4611686018427387904 * y : Nat) : Int) := by
  rw [u64_or_nat _ _ (by omega) (by omega)]
  congr 1
  have := Nat.two_pow_add_eq_or_of_lt (i := 62) (b := x) hx y
  rw [Nat.or_comm, Nat.add_comm]
  exact this.symm

set_option maxHeartbeats 1000000 in
set_option maxRecDepth 100000 in
theorem pfold_any (n : Nat) (hn : n < 18446744073709551616 ^ 4) (w : World) :
    Calls Try.prog 18 #[.agg (lims 4 n).toArray] w fun e w' => e = .returned (.agg (lims 4 (fold13 n)).toArray) ∧ Below w.heap.size w w' := by
  obtain ⟨x0, x1, x2, x3, h0, h1, h2, h3, rfl⟩ := limbs_of hn
  have e1 := lims_mk h0 h1 h2 h3
  obtain ⟨n, hne⟩ : ∃ n, x0 + 18446744073709551616 * x1 + 18446744073709551616 ^ 2 * x2 + 18446744073709551616 ^ 3 * x3 = n := ⟨_, rfl⟩
  have hlow : n % 2 ^ 130 = x0 + 18446744073709551616 * x1 + 18446744073709551616 ^ 2 * (x2 % 4) + 18446744073709551616 ^ 3 * 0 := by omega
  have hhi : n / 2 ^ 130 = (x2 / 4 + 4611686018427387904 * (x3 % 4)) + 18446744073709551616 * (x3 / 4) := by omega
  obtain ⟨a, ha⟩ : ∃ a, x2 / 4 + 4611686018427387904 * (x3 % 4) = a := ⟨_, rfl⟩
  obtain ⟨b, hb⟩ : ∃ b, x3 / 4 = b := ⟨_, rfl⟩
  have hal : a < 18446744073709551616 := by omega
  have hbl : b < 18446744073709551616 := by omega
  have m1 := fun w => mul64 a 5 hal (by decide) w
  have m2 := fun w => mul64 b 5 hbl (by decide) w
  have m3 := fun w => add64z (b * 5 % 18446744073709551616) (a * 5 / 18446744073709551616) w
  obtain ⟨y0, hy0⟩ : ∃ y, a * 5 % 18446744073709551616 = y := ⟨_, rfl⟩
  obtain ⟨c, hc⟩ : ∃ y, a * 5 / 18446744073709551616 = y := ⟨_, rfl⟩
  obtain ⟨d0, hd0⟩ : ∃ y, b * 5 % 18446744073709551616 = y := ⟨_, rfl⟩
  obtain ⟨d1, hd1⟩ : ∃ y, b * 5 / 18446744073709551616 = y := ⟨_, rfl⟩
  rw [hy0, hc] at m1
  rw [hd0, hd1] at m2
  rw [hd0, hc] at m3
  obtain ⟨y1, hy1⟩ : ∃ y, (d0 + c) % 18446744073709551616 = y := ⟨_, rfl⟩
  obtain ⟨z, hz⟩ : ∃ y, (d0 + c) / 18446744073709551616 = y := ⟨_, rfl⟩
  rw [hy1, hz] at m3
  have hdz : d1 + z < 18446744073709551616 := by omega
  have e2 := lims_mk h0 h1 (show x2 % 4 < 18446744073709551616 by omega) (show 0 < 18446744073709551616 by decide)
  rw [← hlow] at e2
  have hfive : 5 * (n / 2 ^ 130) = y0 + 18446744073709551616 * y1 + 18446744073709551616 ^ 2 * (d1 + z) + 18446744073709551616 ^ 3 * 0 := by
    rw [hhi, ha, hb]; omega
  have e3 := lims_mk (show y0 < 18446744073709551616 by omega) (show y1 < 18446744073709551616 by omega) hdz (show 0 < 18446744073709551616 by decide)
  rw [← hfive] at e3
  have a1 := fun w => limAdd_any (n % 2 ^ 130) (5 * (n / 2 ^ 130)) w
  rw [show n % 2 ^ 130 + 5 * (n / 2 ^ 130) = fold13 n from rfl, e3] at a1
  have b1 := and_u64_3 x2 h2
  have b2 : bits .or .u64 ((x2 : Int) / 4) (IntKind.u64.wrap ((x3 : Int) * 4611686018427387904)) = (a : Int) := by
    have h5 : IntKind.u64.wrap ((x3 : Int) * 4611686018427387904) = ((4611686018427387904 * (x3 % 4) : Nat) : Int) := by rw [IntKind.wrap_u64]; omega
    rw [h5, show (x2 : Int) / 4 = ((x2 / 4 : Nat) : Int) by omega, or_shift _ _ (by omega) (by omega), ha]
  have b3 : (x3 : Int) / 4 = (b : Int) := by omega
  have b4 : IntKind.u64.wrap ((d1 : Int) + (z : Int)) = (d1 : Int) + (z : Int) := by rw [IntKind.wrap_u64]; omega
  have b5 : ((d1 + z : Nat) : Int) = (d1 : Int) + (z : Int) := by omega
  rw [b5] at a1
  rw [hne] at e1 ⊢
  have c0 : (lims 4 n)[0]? = some (.int .u64 (x0 : Int)) := by rw [e1]; rfl
  have c1 : (lims 4 n)[1]? = some (.int .u64 (x1 : Int)) := by rw [e1]; rfl
  have c2 : (lims 4 n)[2]? = some (.int .u64 (x2 : Int)) := by rw [e1]; rfl
  have c3 : (lims 4 n)[3]? = some (.int .u64 (x3 : Int)) := by rw [e1]; rfl
  clear hn hne hlow hhi ha hb hal hbl hy0 hc hd0 hd1 hy1 hz hdz hfive e3 b5 e1
  replace m1 := Lib.hid m1
  replace m2 := Lib.hid m2
  replace m3 := Lib.hid m3
  replace c0 := Lib.hid c0
  replace c1 := Lib.hid c1
  replace c2 := Lib.hid c2
  replace c3 := Lib.hid c3
  replace b2 := Lib.hid b2
  replace b3 := Lib.hid b3
  replace b4 := Lib.hid b4
  replace b1 := Lib.hid b1
  obtain ⟨L, hL⟩ : ∃ L, n % 2 ^ 130 = L := ⟨_, rfl⟩
  obtain ⟨R, hR⟩ : ∃ R, fold13 n = R := ⟨_, rfl⟩
  rw [hR] at a1 ⊢
  rw [hL] at a1 e2
  clear hL hR
  replace a1 := Lib.hid a1
  replace e2 := Lib.hid e2
  go_enter Try.func18, Try.ntmps18
  go_upto_region 1 with fail
  refine wp_new2 (fun W hsz k1 k2 kb => ?_)
  have k2 : Arr W (w.heap.size + 1) (lims 4 0) := k2
  clear hsz
  have d0' := k1.cell c0.out
  have d1' := k1.cell c1.out
  have d2' := k1.cell c2.out
  have b1' := b1.out
  go_upto_region 2 with fail
  refine wp_new1 (fun w3 hsz3 k3 hb3 => ?_)
  have k3 : Arr w3 W.heap.size (lims 4 L) := by rw [e2.out]; exact k3
  have lt1 := k1.lt
  have lt2 := k2.lt
  have k1 := k1.below hb3
  have k2 := k2.below hb3
  have kb := bel kb hb3
  generalize W.heap.size = g3 at k3 lt1 lt2 ⊢
  clear hsz3 hb3 d0' d1' d2' b1'
  have d2' := k1.cell c2.out
  have d3' := k1.cell c3.out
  have b2' := b2.out
  have b3' := b3.out
  go_wp2_with fail
  refine (m1.out _).mono ?_
  rintro e w4 ⟨rfl, rfl⟩
  go_wp2_with fail
  refine (m2.out _).mono ?_
  rintro e w5 ⟨rfl, rfl⟩
  clear d2' d3' b2' b3'
  have b4' := b4.out
  go_wp2_with (first | (simp only [m3.out]) | (refine wpList_load_arr2 rfl _ _ rfl _ rfl (by kernel_rfl) _ (by assumption) (by first | (rw [lims_len]; kernel_rfl) | (rw [el_rep]; kernel_rfl) | (rw [el_len]; kernel_rfl) | (rw [byts_len]; kernel_rfl) | (rw [us_len]; kernel_rfl) | (rw [bytn_len]; kernel_rfl) | (rw [ens_len, digs_len]; kernel_rfl) | kernel_rfl) ?_))
  refine (a1.out _).mono ?_
  rintro e w_1 ⟨rfl, hb_1⟩
  have k2 := k2.below hb_1
  have kb := bel kb hb_1
  clear hb_1
  clear b4'
  go_upto_region 6 with (first | (refine wpList_load_arr2 rfl _ _ rfl _ rfl (by kernel_rfl) _ (by assumption) (by first | (rw [lims_len]; kernel_rfl) | (rw [el_rep]; kernel_rfl) | (rw [el_len]; kernel_rfl) | (rw [byts_len]; kernel_rfl) | (rw [us_len]; kernel_rfl) | (rw [bytn_len]; kernel_rfl) | (rw [ens_len, digs_len]; kernel_rfl) | kernel_rfl) ?_) | (refine wpList_store_arr rfl _ _ _ rfl _ _ rfl rfl _ (by first | assumption | exact Arr.new _ _ _) (by first | (rw [lims_len]; kernel_rfl) | (rw [el_rep]; kernel_rfl) | (rw [el_len]; kernel_rfl) | (rw [byts_len]; kernel_rfl) | (rw [us_len]; kernel_rfl) | (rw [bytn_len]; kernel_rfl) | (rw [ens_len, digs_len]; kernel_rfl) | kernel_rfl) (by first | (rw [lims_len, lims_len]) | (rw [el_rep, el_rep]) | (rw [el_rep, el_len]; rfl) | (rw [el_len, el_rep]; rfl) | (rw [el_len, el_len]; rfl) | (rw [byts_len, byts_len]) | (rw [lims_len]; rfl) | (rw [byts_len]; rfl) | (rw [us_len, us_len]; rfl) | (rw [bytn_len, bytn_len]) | (rw [bytn_len]; rfl) | (rw [ens_len, ens_len, digs_len, digs_len]) | rfl) (by first | exact lims_one _ _ | exact el_one _ | exact byts_one _ | exact us_one _ | exact bytn_one _ _ | exact ens_one _ | (intro v hv; simp at hv; rcases hv with rfl | rfl | rfl | rfl <;> rfl)) ?_))
  have hg_k9_k2 := k2.lt
  refine code_new (fun w_2 k9 hnew => ?_)
  have k2 := k2.below hnew
  have kb := bel kb hnew
  clear hnew
  generalize (w_1).heap.size = g_k9 at k9 hg_k9_k2 ⊢
  go_wp2_with (first | (refine wpList_load_arr2 rfl _ _ rfl _ rfl (by kernel_rfl) _ (by assumption) (by first | (rw [lims_len]; kernel_rfl) | (rw [el_rep]; kernel_rfl) | (rw [el_len]; kernel_rfl) | (rw [byts_len]; kernel_rfl) | (rw [us_len]; kernel_rfl) | (rw [bytn_len]; kernel_rfl) | (rw [ens_len, digs_len]; kernel_rfl) | kernel_rfl) ?_) | (refine wpList_store_arr rfl _ _ _ rfl _ _ rfl rfl _ (by first | assumption | exact Arr.new _ _ _) (by first | (rw [lims_len]; kernel_rfl) | (rw [el_rep]; kernel_rfl) | (rw [el_len]; kernel_rfl) | (rw [byts_len]; kernel_rfl) | (rw [us_len]; kernel_rfl) | (rw [bytn_len]; kernel_rfl) | (rw [ens_len, digs_len]; kernel_rfl) | kernel_rfl) (by first | (rw [lims_len, lims_len]) | (rw [el_rep, el_rep]) | (rw [el_rep, el_len]; rfl) | (rw [el_len, el_rep]; rfl) | (rw [el_len, el_len]; rfl) | (rw [byts_len, byts_len]) | (rw [lims_len]; rfl) | (rw [byts_len]; rfl) | (rw [us_len, us_len]; rfl) | (rw [bytn_len, bytn_len]) | (rw [bytn_len]; rfl) | (rw [ens_len, ens_len, digs_len, digs_len]) | rfl) (by first | exact lims_one _ _ | exact el_one _ | exact byts_one _ | exact us_one _ | exact bytn_one _ _ | exact ens_one _ | (intro v hv; simp at hv; rcases hv with rfl | rfl | rfl | rfl <;> rfl)) ?_))
  exact bodyPost_ret (results_arr2 Try.results18 _ _ _ rfl (by kernel_rfl) _ (by first | assumption | exact Arr.setRow (by assumption) _) (by first | (rw [lims_len]; kernel_rfl) | (rw [el_rep]; kernel_rfl) | (rw [el_len]; kernel_rfl) | (rw [byts_len]; kernel_rfl) | (rw [us_len]; kernel_rfl) | (rw [bytn_len]; kernel_rfl) | (rw [ens_len, digs_len]; kernel_rfl) | kernel_rfl)) rfl ⟨rfl, below_setRow kb (by omega) _⟩

set_option maxHeartbeats 1000000 in
set_option maxRecDepth 100000 in
theorem pclamped_any (K : Nat) (hK : K < 256 ^ 32) (w : World) :
    Calls Try.prog 15 #[.agg (byts K).toArray] w fun e w' => e = .returned (.agg (lims 4 (polyR K)).toArray) ∧ Below w.heap.size w w' := by
  have c1 := fun w => limOf_any K hK w
  have g0 := lims_get 4 K 0 (by decide)
  have g1 := lims_get 4 K 1 (by decide)
  rw [Nat.pow_zero, Nat.div_one] at g0
  rw [Nat.pow_one] at g1
  have hR := polyR_limbs K
  obtain ⟨x, hx⟩ : ∃ x, K % 18446744073709551616 = x := ⟨_, rfl⟩
  obtain ⟨y, hy⟩ : ∃ y, K / 18446744073709551616 % 18446744073709551616 = y := ⟨_, rfl⟩
  rw [hx] at g0
  rw [hy] at g1
  rw [show K % 2 ^ 64 = x from hx, show K / 2 ^ 64 % 2 ^ 64 = y from hy] at hR
  have hxl : x < 18446744073709551616 := hx ▸ Nat.mod_lt _ (by decide)
  have hyl : y < 18446744073709551616 := hy ▸ Nat.mod_lt _ (by decide)
  have b1 := bits_and_u64_nat x 1152921487695413247 hxl (by decide)
  have b2 := bits_and_u64_nat y 1152921487695413244 hyl (by decide)
  obtain ⟨u, hu⟩ : ∃ u, x &&& 1152921487695413247 = u := ⟨_, rfl⟩
  obtain ⟨v, hv⟩ : ∃ u, y &&& 1152921487695413244 = u := ⟨_, rfl⟩
  rw [hu, hv] at hR
  rw [hu] at b1
  rw [hv] at b2
  have hul : u < 18446744073709551616 := by rw [← hu]; exact Nat.lt_of_le_of_lt Nat.and_le_left hxl
  have hvl : v < 18446744073709551616 := by rw [← hv]; exact Nat.lt_of_le_of_lt Nat.and_le_left hyl
  have e1 := lims_mk hul hvl (show 0 < 18446744073709551616 by decide) (show 0 < 18446744073709551616 by decide)
  have e2 : u + 18446744073709551616 * v + 18446744073709551616 ^ 2 * 0 + 18446744073709551616 ^ 3 * 0 = polyR K := by rw [hR]; omega
  rw [e2] at e1
  obtain ⟨R, hR⟩ : ∃ R, polyR K = R := ⟨_, rfl⟩
  rw [hR] at e1 ⊢
  clear hR hx hy hu hv e2 hK
  replace c1 := Lib.hid c1
  replace g0 := Lib.hid g0
  replace g1 := Lib.hid g1
  replace b1 := Lib.hid b1
  replace b2 := Lib.hid b2
  replace e1 := Lib.hid e1
  go_enter Try.func15, Try.ntmps15
  go_upto_region 1 with fail
  refine wp_new2 (fun W hsz k1 k2 kb => ?_)
  have k2 : Arr W (w.heap.size + 1) (lims 4 0) := k2
  clear hsz
  go_wp2_with (refine wpList_load_arr2 rfl _ _ rfl _ rfl (by kernel_rfl) _ (by assumption) (by first | (rw [lims_len]; kernel_rfl) | (rw [el_rep]; kernel_rfl) | (rw [el_len]; kernel_rfl) | (rw [byts_len]; kernel_rfl) | (rw [us_len]; kernel_rfl) | (rw [bytn_len]; kernel_rfl) | (rw [ens_len, digs_len]; kernel_rfl) | kernel_rfl) ?_)
  refine (c1.out _).mono ?_
  rintro e w_3 ⟨rfl, hb_3⟩
  have k1 := k1.below hb_3
  have k2 := k2.below hb_3
  have kb := bel kb hb_3
  clear hb_3
  go_upto_region 2 with (first | (refine wpList_load_arr2 rfl _ _ rfl _ rfl (by kernel_rfl) _ (by assumption) (by first | (rw [lims_len]; kernel_rfl) | (rw [el_rep]; kernel_rfl) | (rw [el_len]; kernel_rfl) | (rw [byts_len]; kernel_rfl) | (rw [us_len]; kernel_rfl) | (rw [bytn_len]; kernel_rfl) | (rw [ens_len, digs_len]; kernel_rfl) | kernel_rfl) ?_) | (refine wpList_store_arr rfl _ _ _ rfl _ _ rfl rfl _ (by first | assumption | exact Arr.new _ _ _) (by first | (rw [lims_len]; kernel_rfl) | (rw [el_rep]; kernel_rfl) | (rw [el_len]; kernel_rfl) | (rw [byts_len]; kernel_rfl) | (rw [us_len]; kernel_rfl) | (rw [bytn_len]; kernel_rfl) | (rw [ens_len, digs_len]; kernel_rfl) | kernel_rfl) (by first | (rw [lims_len, lims_len]) | (rw [el_rep, el_rep]) | (rw [el_rep, el_len]; rfl) | (rw [el_len, el_rep]; rfl) | (rw [el_len, el_len]; rfl) | (rw [byts_len, byts_len]) | (rw [lims_len]; rfl) | (rw [byts_len]; rfl) | (rw [us_len, us_len]; rfl) | (rw [bytn_len, bytn_len]) | (rw [bytn_len]; rfl) | (rw [ens_len, ens_len, digs_len, digs_len]) | rfl) (by first | exact lims_one _ _ | exact el_one _ | exact byts_one _ | exact us_one _ | exact bytn_one _ _ | exact ens_one _ | (intro v hv; simp at hv; rcases hv with rfl | rfl | rfl | rfl <;> rfl)) ?_))
  have hg_k3_k2 := k2.lt
  refine code_new (fun w_4 k3 hnew => ?_)
  have k2 := k2.below hnew
  have kb := bel kb hnew
  clear hnew
  generalize (w_3).heap.size = g_k3 at k3 hg_k3_k2 ⊢
  have d0 := k3.cell g0.out
  have d1 := k3.cell g1.out
  have b1' : bits BinOp.and IntKind.u64 (x : Int) 1152921487695413247 = (u : Int) := b1.out
  have b2' : bits BinOp.and IntKind.u64 (y : Int) 1152921487695413244 = (v : Int) := b2.out
  have el : [Value.int .u64 (u : Int), .int .u64 (v : Int), .int .u64 0, .int .u64 0] = lims 4 R := e1.out.symm
  go_wp2_with (refine wpList_store_arr rfl _ _ _ rfl _ (lims 4 R) rfl (by rw [← el]; rfl) _ k2 (by rw [lims_len]; kernel_rfl) (by rw [lims_len, lims_len]) (lims_one _ _) ?_)
  exact bodyPost_ret (results_arr2 Try.results15 _ _ _ rfl (by kernel_rfl) _ (by first | assumption | exact Arr.setRow (by assumption) _) (by first | (rw [lims_len]; kernel_rfl) | (rw [el_rep]; kernel_rfl) | (rw [el_len]; kernel_rfl) | (rw [byts_len]; kernel_rfl) | (rw [us_len]; kernel_rfl) | (rw [bytn_len]; kernel_rfl) | (rw [ens_len, digs_len]; kernel_rfl) | kernel_rfl)) rfl ⟨rfl, below_setRow kb (by omega) _⟩

end Go.Proofs.Ytfljonglibpgcaa
