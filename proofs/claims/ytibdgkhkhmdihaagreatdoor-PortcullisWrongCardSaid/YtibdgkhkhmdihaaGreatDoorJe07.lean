/- PortcullisWrong: part 7 of its proof: lemmas and contracts, each with its conditions in its own statement; the last part holds the law itself. -/
import Derived.Test.YtibdgkhkhmdihaaGreatDoorJe06
import Derived.Laws.Bits64
import Derived.Laws.Cover3

set_option maxHeartbeats 4000000
set_option maxRecDepth 100000
namespace Go.Proofs.YtibdgkhkhmdihaaGreatDoor
open Go.RowKit
theorem lims_p13 : (lims 4 p13).toArray = #[.int .u64 18446744073709551611, .int .u64 18446744073709551615, .int .u64 3, .int .u64 0] := by kernel_rfl
theorem pprime_any (w : World) : Calls Tryz.prog 290 #[] w fun e w' => e = .returned (.agg (lims 4 p13).toArray) ∧ Below w.heap.size w w' := by
 go_enter Tryz.func290, Tryz.ntmps290
 go_wp2_with fail
 refine bodyPost_ret (v := .agg (lims 4 p13).toArray) (by rw [lims_p13]; simp [results, Tryz.results290, go_sem]) rfl ⟨rfl, ?_⟩
 exact ((below_alloc _ _))
theorem lims_mk {x0 x1 x2 x3 : Nat} (h0 : x0 < 18446744073709551616) (h1 : x1 < 18446744073709551616) (h2 : x2 < 18446744073709551616) (h3 : x3 < 18446744073709551616) :
 lims 4 (x0 + 18446744073709551616 * x1 + 18446744073709551616 ^ 2 * x2 + 18446744073709551616 ^ 3 * x3) = [.int .u64 (x0 : Int), .int .u64 (x1 : Int), .int .u64 (x2 : Int), .int .u64 (x3 : Int)] := by
 have e0 : (x0 + 18446744073709551616 * x1 + 18446744073709551616 ^ 2 * x2 + 18446744073709551616 ^ 3 * x3) / 18446744073709551616 ^ 0 % 18446744073709551616 = x0 := by omega
 have e1 : (x0 + 18446744073709551616 * x1 + 18446744073709551616 ^ 2 * x2 + 18446744073709551616 ^ 3 * x3) / 18446744073709551616 ^ 1 % 18446744073709551616 = x1 := by omega
 have e2 : (x0 + 18446744073709551616 * x1 + 18446744073709551616 ^ 2 * x2 + 18446744073709551616 ^ 3 * x3) / 18446744073709551616 ^ 2 % 18446744073709551616 = x2 := by omega
 have e3 : (x0 + 18446744073709551616 * x1 + 18446744073709551616 ^ 2 * x2 + 18446744073709551616 ^ 3 * x3) / 18446744073709551616 ^ 3 % 18446744073709551616 = x3 := by omega
 unfold lims digs
 rw [show List.range 4 = [0, 1, 2, 3] from rfl]
 simp only [List.map_cons, List.map_nil, e0, e1, e2, e3]
theorem limbs_of {n : Nat} (h : n < 18446744073709551616 ^ 4) : ∃ x0 x1 x2 x3 : Nat, x0 < 18446744073709551616 ∧ x1 < 18446744073709551616 ∧ x2 < 18446744073709551616 ∧ x3 < 18446744073709551616 ∧
 n = x0 + 18446744073709551616 * x1 + 18446744073709551616 ^ 2 * x2 + 18446744073709551616 ^ 3 * x3 :=
 ⟨n % 18446744073709551616, n / 18446744073709551616 % 18446744073709551616, n / 18446744073709551616 ^ 2 % 18446744073709551616, n / 18446744073709551616 ^ 3, by omega, by omega, by omega, by omega, by omega⟩
theorem and_u64_3 (x : Nat) (hx : x < 18446744073709551616) : bits .and .u64 (x : Int) 3 = ((x % 4 : Nat) : Int) := by
 have h := bits_and_u64_nat x 3 hx zOm
 have e : x &&& 3 = x % 4 := Nat.and_two_pow_sub_one_eq_mod x 2
 rw [e] at h
 exact h
theorem or_shift (x y : Nat) (hx : x < 4611686018427387904) (hy : y < 4) : bits .or .u64 (x : Int) ((4611686018427387904 * y : Nat) : Int) = ((x + 4611686018427387904 * y : Nat) : Int) := by
 rw [u64_or_nat _ _ zOm zOm]
 congr 1
 have := Nat.two_pow_add_eq_or_of_lt (i := 62) (b := x) hx y
 rw [Nat.or_comm, Nat.add_comm]
 exact this.symm
theorem pfold_any (n : Nat) (hn : n < 18446744073709551616 ^ 4) (w : World) :
 Calls Tryz.prog 289 #[.agg (lims 4 n).toArray] w fun e w' => e = .returned (.agg (lims 4 (fold13 n)).toArray) ∧ Below w.heap.size w w' := by
 obtain ⟨x0, x1, x2, x3, h0, h1, h2, h3, rfl⟩ := limbs_of hn
 have e1 := lims_mk h0 h1 h2 h3
 obtain ⟨n, hne⟩ : ∃ n, x0 + 18446744073709551616 * x1 + 18446744073709551616 ^ 2 * x2 + 18446744073709551616 ^ 3 * x3 = n := ⟨_, rfl⟩
 have hlow : n % 2 ^ 130 = x0 + 18446744073709551616 * x1 + 18446744073709551616 ^ 2 * (x2 % 4) + 18446744073709551616 ^ 3 * 0 := by omega
 have hhi : n / 2 ^ 130 = (x2 / 4 + 4611686018427387904 * (x3 % 4)) + 18446744073709551616 * (x3 / 4) := by omega
 obtain ⟨a, ha⟩ : ∃ a, x2 / 4 + 4611686018427387904 * (x3 % 4) = a := ⟨_, rfl⟩
 obtain ⟨b, hb⟩ : ∃ b, x3 / 4 = b := ⟨_, rfl⟩
 have hal : a < 18446744073709551616 := by omega
 have hbl : b < 18446744073709551616 := by omega
 have m1 := fun w => mul64 a 5 hal zDc w
 have m2 := fun w => mul64 b 5 hbl zDc w
 have m3 := fun w => add64z (b * 5 % 18446744073709551616) (a * 5 / 18446744073709551616) w
 obtain ⟨y0, hy0⟩ : ∃ y, a * 5 % 18446744073709551616 = y := ⟨_, rfl⟩
 obtain ⟨c, hc⟩ : ∃ y, a * 5 / 18446744073709551616 = y := ⟨_, rfl⟩
 obtain ⟨d0, hd0⟩ : ∃ y, b * 5 % 18446744073709551616 = y := ⟨_, rfl⟩
 obtain ⟨d1, hd1⟩ : ∃ y, b * 5 / 18446744073709551616 = y := ⟨_, rfl⟩
 rw [hy0, hc] at m1
 rw [hd0, hd1] at m2
 rw [hd0, hc] at m3
 obtain ⟨y1, hy1⟩ : ∃ y, (d0 + c) % 18446744073709551616 = y := ⟨_, rfl⟩
 obtain ⟨z, hz⟩ : ∃ y, (d0 + c) / 18446744073709551616 = y := ⟨_, rfl⟩
 rw [hy1, hz] at m3
 have hdz : d1 + z < 18446744073709551616 := by omega
 have e2 := lims_mk h0 h1 (show x2 % 4 < 18446744073709551616 by omega) (show 0 < 18446744073709551616 by decide)
 rw [← hlow] at e2
 have hfive : 5 * (n / 2 ^ 130) = y0 + 18446744073709551616 * y1 + 18446744073709551616 ^ 2 * (d1 + z) + 18446744073709551616 ^ 3 * 0 := by
  rw [hhi, ha, hb]; omega
 have e3 := lims_mk (show y0 < 18446744073709551616 by omega) (show y1 < 18446744073709551616 by omega) hdz (show 0 < 18446744073709551616 by decide)
 rw [← hfive] at e3
 have a1 := fun w => limAdd_any (n % 2 ^ 130) (5 * (n / 2 ^ 130)) w
 rw [show n % 2 ^ 130 + 5 * (n / 2 ^ 130) = fold13 n from rfl, e3] at a1
 have b1 := and_u64_3 x2 h2
 have b2 : bits .or .u64 ((x2 : Int) / 4) (IntKind.u64.wrap ((x3 : Int) * 4611686018427387904)) = (a : Int) := by
  have h5 : IntKind.u64.wrap ((x3 : Int) * 4611686018427387904) = ((4611686018427387904 * (x3 % 4) : Nat) : Int) := by rw [IntKind.wrap_u64]; omega
  rw [h5, show (x2 : Int) / 4 = ((x2 / 4 : Nat) : Int) by omega, or_shift _ _ zOm zOm, ha]
 have b3 : (x3 : Int) / 4 = (b : Int) := by omega
 have b4 : IntKind.u64.wrap ((d1 : Int) + (z : Int)) = (d1 : Int) + (z : Int) := by rw [IntKind.wrap_u64]; omega
 have b5 : ((d1 + z : Nat) : Int) = (d1 : Int) + (z : Int) := by omega
 rw [b5] at a1
 rw [hne] at e1 ⊢
 have c0 : (lims 4 n)[0]? = some (.int .u64 (x0 : Int)) := by rw [e1]; rfl
 have c1 : (lims 4 n)[1]? = some (.int .u64 (x1 : Int)) := by rw [e1]; rfl
 have c2 : (lims 4 n)[2]? = some (.int .u64 (x2 : Int)) := by rw [e1]; rfl
 have c3 : (lims 4 n)[3]? = some (.int .u64 (x3 : Int)) := by rw [e1]; rfl
 clear hn hne hlow hhi ha hb hal hbl hy0 hc hd0 hd1 hy1 hz hdz hfive e3 b5 e1
 replace m1 := zH m1
 replace m2 := zH m2
 replace m3 := zH m3
 replace c0 := zH c0
 replace c1 := zH c1
 replace c2 := zH c2
 replace c3 := zH c3
 replace b2 := zH b2
 replace b3 := zH b3
 replace b4 := zH b4
 replace b1 := zH b1
 obtain ⟨L, hL⟩ : ∃ L, n % 2 ^ 130 = L := ⟨_, rfl⟩
 obtain ⟨R, hR⟩ : ∃ R, fold13 n = R := ⟨_, rfl⟩
 rw [hR] at a1 ⊢
 rw [hL] at a1 e2
 clear hL hR
 replace a1 := zH a1
 replace e2 := zH e2
 go_enter Tryz.func289, Tryz.ntmps289
 go_upto_region 1 with fail
 refine wp_new2 (fun W hsz k1 k2 kb => ?_)
 have k2 : Arr W (w.heap.size + 1) (lims 4 0) := k2
 clear hsz
 have d0' := k1.cell c0.out
 have d1' := k1.cell c1.out
 have d2' := k1.cell c2.out
 have b1' := b1.out
 go_upto_region 2 with fail
 refine wp_new1 (fun w3 hsz3 k3 hb3 => ?_)
 have k3 : Arr w3 W.heap.size (lims 4 L) := by rw [e2.out]; exact k3
 have lt1 := k1.lt
 have lt2 := k2.lt
 have k1 := k1.below hb3
 have k2 := k2.below hb3
 have kb := bel kb hb3
 generalize W.heap.size = g3 at k3 lt1 lt2 ⊢
 clear hsz3 hb3 d0' d1' d2' b1'
 have d2' := k1.cell c2.out
 have d3' := k1.cell c3.out
 have b2' := b2.out
 have b3' := b3.out
 go_wp2_with fail
 refine (m1.out _).mono ?_
 rintro e w4 ⟨rfl, rfl⟩
 go_wp2_with fail
 refine (m2.out _).mono ?_
 rintro e w5 ⟨rfl, rfl⟩
 clear d2' d3' b2' b3'
 have b4' := b4.out
 go_wp2_with (first | (simp only [m3.out]) | (refine zLd ?_))
 refine (a1.out _).mono ?_
 rintro e w_1 ⟨rfl, hb_1⟩
 have k2 := k2.below hb_1
 have kb := bel kb hb_1
 clear hb_1
 clear b4'
 go_upto_region 6 with (first | (refine zLd ?_) | (refine zSt ?_))
 have hg_k9_k2 := k2.lt
 refine code_new (fun w_2 k9 hnew => ?_)
 have k2 := k2.below hnew
 have kb := bel kb hnew
 clear hnew
 generalize (w_1).heap.size = g_k9 at k9 hg_k9_k2 ⊢
 go_wp2_with (first | (refine zLd ?_) | (refine zSt ?_))
 exact bodyPost_ret (results_arr2 Tryz.results289 _ _ _ rfl zKr _ (by first | assumption | exact Arr.setRow zAm _) zLn) rfl ⟨rfl, below_setRow kb zOm _⟩
theorem pclamped_any (K : Nat) (hK : K < 256 ^ 32) (w : World) :
 Calls Tryz.prog 286 #[.agg (byts K).toArray] w fun e w' => e = .returned (.agg (lims 4 (polyR K)).toArray) ∧ Below w.heap.size w w' := by
 have c1 := fun w => limOf_any K hK w
 have g0 := lims_get 4 K 0 zDc
 have g1 := lims_get 4 K 1 zDc
 rw [Nat.pow_zero, Nat.div_one] at g0
 rw [Nat.pow_one] at g1
 have hR := polyR_limbs K
 obtain ⟨x, hx⟩ : ∃ x, K % 18446744073709551616 = x := ⟨_, rfl⟩
 obtain ⟨y, hy⟩ : ∃ y, K / 18446744073709551616 % 18446744073709551616 = y := ⟨_, rfl⟩
 rw [hx] at g0
 rw [hy] at g1
 rw [show K % 2 ^ 64 = x from hx, show K / 2 ^ 64 % 2 ^ 64 = y from hy] at hR
 have hxl : x < 18446744073709551616 := hx ▸ Nat.mod_lt _ zDc
 have hyl : y < 18446744073709551616 := hy ▸ Nat.mod_lt _ zDc
 have b1 := bits_and_u64_nat x 1152921487695413247 hxl zDc
 have b2 := bits_and_u64_nat y 1152921487695413244 hyl zDc
 obtain ⟨u, hu⟩ : ∃ u, x &&& 1152921487695413247 = u := ⟨_, rfl⟩
 obtain ⟨v, hv⟩ : ∃ u, y &&& 1152921487695413244 = u := ⟨_, rfl⟩
 rw [hu, hv] at hR
 rw [hu] at b1
 rw [hv] at b2
 have hul : u < 18446744073709551616 := by rw [← hu]; exact Nat.lt_of_le_of_lt Nat.and_le_left hxl
 have hvl : v < 18446744073709551616 := by rw [← hv]; exact Nat.lt_of_le_of_lt Nat.and_le_left hyl
 have e1 := lims_mk hul hvl (show 0 < 18446744073709551616 by decide) (show 0 < 18446744073709551616 by decide)
 have e2 : u + 18446744073709551616 * v + 18446744073709551616 ^ 2 * 0 + 18446744073709551616 ^ 3 * 0 = polyR K := by rw [hR]; omega
 rw [e2] at e1
 obtain ⟨R, hR⟩ : ∃ R, polyR K = R := ⟨_, rfl⟩
 rw [hR] at e1 ⊢
 clear hR hx hy hu hv e2 hK
 replace c1 := zH c1
 replace g0 := zH g0
 replace g1 := zH g1
 replace b1 := zH b1
 replace b2 := zH b2
 replace e1 := zH e1
 go_enter Tryz.func286, Tryz.ntmps286
 go_upto_region 1 with fail
 refine wp_new2 (fun W hsz k1 k2 kb => ?_)
 have k2 : Arr W (w.heap.size + 1) (lims 4 0) := k2
 clear hsz
 go_wp2_with (refine zLd ?_)
 refine (c1.out _).mono ?_
 rintro e w_3 ⟨rfl, hb_3⟩
 have k1 := k1.below hb_3
 have k2 := k2.below hb_3
 have kb := bel kb hb_3
 clear hb_3
 go_upto_region 2 with (first | (refine zLd ?_) | (refine zSt ?_))
 have hg_k3_k2 := k2.lt
 refine code_new (fun w_4 k3 hnew => ?_)
 have k2 := k2.below hnew
 have kb := bel kb hnew
 clear hnew
 generalize (w_3).heap.size = g_k3 at k3 hg_k3_k2 ⊢
 have d0 := k3.cell g0.out
 have d1 := k3.cell g1.out
 have b1' : bits BinOp.and IntKind.u64 (x : Int) 1152921487695413247 = (u : Int) := b1.out
 have b2' : bits BinOp.and IntKind.u64 (y : Int) 1152921487695413244 = (v : Int) := b2.out
 have el : [Value.int .u64 (u : Int), .int .u64 (v : Int), .int .u64 0, .int .u64 0] = lims 4 R := e1.out.symm
 go_wp2_with (refine wpList_store_arr rfl _ _ _ rfl _ (lims 4 R) rfl (by rw [← el]; rfl) _ k2 (by rw [lims_len]; kernel_rfl) (by rw [lims_len, lims_len]) (lims_one _ _) ?_)
 exact bodyPost_ret (results_arr2 Tryz.results286 _ _ _ rfl zKr _ (by first | assumption | exact Arr.setRow zAm _) zLn) rfl ⟨rfl, below_setRow kb zOm _⟩
def stv (h r : Nat) (bs : List UInt8) (n : Nat) : List Value := lims 4 h ++ (lims 4 r ++ (u8s bs ++ [.int .i64 (n : Int)]))
theorem stv_len {h r n : Nat} {bs : List UInt8} (hb : bs.length = 16) : (stv h r bs n).length = 25 := by simp [stv, lims_len, u8s_len, hb]
theorem stv_h {h r n j : Nat} {bs : List UInt8} (hj : j < (lims 4 h).length) : (stv h r bs n)[0 + j]? = (lims 4 h)[j]? := by
 rw [stv, Nat.zero_add, List.getElem?_append_left hj]
theorem stv_r {h r n j : Nat} {bs : List UInt8} (hj : j < (lims 4 r).length) : (stv h r bs n)[4 + j]? = (lims 4 r)[j]? := by
 rw [stv, List.getElem?_append_right (by rw [lims_len]; omega), lims_len, show 4 + j - 4 = j by omega, List.getElem?_append_left hj]
theorem stv_b {h r n j : Nat} {bs : List UInt8} (hj : j < bs.length) : (stv h r bs n)[8 + j]? = (u8s bs)[j]? := by
 rw [stv, List.getElem?_append_right (by rw [lims_len]; omega), lims_len, List.getElem?_append_right (by rw [lims_len]; omega), lims_len, show 8 + j - 4 - 4 = j by omega, List.getElem?_append_left (by rw [u8s_len]; exact hj)]
theorem stv_n {h r n : Nat} {bs : List UInt8} (hb : bs.length = 16) : (stv h r bs n)[24]? = some (.int .i64 (n : Int)) := by
 rw [stv, List.getElem?_append_right (by rw [lims_len]; omega), lims_len, List.getElem?_append_right (by rw [lims_len]; omega), lims_len, List.getElem?_append_right (by rw [u8s_len]; omega), u8s_len, hb]; rfl
theorem stv_set_n {h r n m : Nat} {bs : List UInt8} (hb : bs.length = 16) : (stv h r bs n).set 24 (.int .i64 (m : Int)) = stv h r bs m := by
 rw [stv, stv, List.set_append_right _ _ (by rw [lims_len]; omega), lims_len, List.set_append_right _ _ (by rw [lims_len]; omega), lims_len, List.set_append_right _ _ (by rw [u8s_len]; omega), u8s_len, hb]; rfl
theorem stv_set_b {h r n j : Nat} {bs : List UInt8} {x : UInt8} (hj : j < bs.length) : (stv h r bs n).set (8 + j) (.int .u8 (x.toNat : Int)) = stv h r (bs.set j x) n := by
 rw [stv, stv, List.set_append_right _ _ (by rw [lims_len]; omega), lims_len, List.set_append_right _ _ (by rw [lims_len]; omega), lims_len, show 8 + j - 4 - 4 = j by omega, List.set_append_left _ _ (by rw [u8s_len]; exact hj)]
 congr 3
 simp [u8s, List.map_set]
theorem stv_put_h {h r n k : Nat} {bs : List UInt8} : putAt 0 (lims 4 k) (stv h r bs n) = stv k r bs n := by
 rw [putAt, List.take_zero, List.nil_append, lims_len, Nat.zero_add, stv, List.drop_append_of_le_length (by rw [lims_len]; omega), List.drop_of_length_le (by rw [lims_len]; omega)]; rfl
theorem blk_byts {bs : List UInt8} (h : bs.length ≤ 31) : byts (blkV bs) = (u8s bs ++ List.replicate (32 - bs.length) (Value.int .u8 0)).set bs.length (.int .u8 1) := by
 have e : blkV bs = val 256 (bs.map (fun (x : UInt8) => x.toNat) ++ 1 :: List.replicate (31 - bs.length) 0) := by
  rw [val_append, val, val_zeros, List.length_map, Nat.mul_zero, Nat.add_zero, Nat.mul_one]; rfl
 have hl : (bs.map (fun (x : UInt8) => x.toNat) ++ 1 :: List.replicate (31 - bs.length) 0).length = 32 := by simp; omega
 have hd := digs_val 256 zDc (bs.map (fun (x : UInt8) => x.toNat) ++ 1 :: List.replicate (31 - bs.length) 0) (by
  intro x hx
  rcases List.mem_append.1 hx with hx | hx
  · simp only [List.mem_map] at hx; obtain ⟨y, -, rfl⟩ := hx; exact y.toNat_lt
  · rcases List.mem_cons.1 hx with rfl | hx
    · decide
    · rw [List.mem_replicate] at hx; omega)
 rw [hl, ← e] at hd
 rw [byts, hd, show 32 - bs.length = (31 - bs.length) + 1 by omega, List.replicate_succ, List.set_append_right _ _ (by rw [u8s_len]; exact Nat.le_refl _), u8s_len, Nat.sub_self, List.set_cons_zero, List.map_append, List.map_cons, List.map_map]
 congr 1
 rw [List.map_replicate]
 rfl
theorem pturn_any (g h r n : Nat) (bs : List UInt8) (w : World) (k0 : Arr w g (stv h r bs n)) (hb : bs.length = 16) (hn : n ≤ 16) (hh : h < 2 ^ 131) (hr : r < 2 ^ 124) :
 Calls Tryz.prog 288 #[.pointer (some ⟨g, 0, none⟩)] w fun e w' => e = .returned (.tuple #[]) ∧ Arr w' g (stv (fold13 ((h + blkV (bs.take n)) * r)) r bs 0) ∧ w.grownBy w' (some g) := by
 have lt0 := k0.lt
 have hl0 := stv_len (h := h) (r := r) (n := n) hb
 obtain ⟨b, hbb⟩ : ∃ b, blkV (bs.take n) = b := ⟨_, rfl⟩
 have htl : (bs.take n).length = n := by rw [List.length_take]; omega
 have hbl := blkV_lt (bs := bs.take n) zOm
 have hby := blk_byts (bs := bs.take n) zOm
 rw [htl] at hby
 rw [hbb] at hby hbl ⊢
 have b32 : b < 256 ^ 32 := Nat.lt_trans hbl zDc
 have hrl : r < 18446744073709551616 ^ 4 := Nat.lt_trans hr zDc
 have hsum := turn_lt hh hbl hr
 have c1 := fun w => limOf_any b b32 w
 have c2 := fun w => limAdd_any h b w
 have c3 := fun w => limMul_any (h + b) r hrl w
 have hs4 : h + b < 18446744073709551616 ^ 4 := by omega
 rw [Nat.mod_eq_of_lt hs4] at c3
 obtain ⟨s, hs⟩ : ∃ s, h + b = s := ⟨_, rfl⟩
 rw [hs] at c2 c3 hsum hs4 ⊢
 obtain ⟨p, hp⟩ : ∃ p, s * r = p := ⟨_, rfl⟩
 rw [hp] at c3 hsum ⊢
 have hp4 : p < 18446744073709551616 ^ 4 := Nat.lt_of_lt_of_le hsum zDc
 have c4 := fun w => pfold_any p hp4 w
 obtain ⟨f, hf⟩ : ∃ f, fold13 p = f := ⟨_, rfl⟩
 rw [hf] at c4 ⊢
 obtain ⟨cc, hcc⟩ : ∃ c, carry 18446744073709551616 4 h b = c := ⟨_, rfl⟩
 rw [hcc] at c2
 have hrng : ∀ w', Arr w' g (stv h r bs n) → w'.rangeAt g 0 (lims 4 h) := fun w' hk => hk.range (fun j hj => stv_h hj)
 have hrng2 : ∀ w', Arr w' g (stv h r bs n) → w'.rangeAt g 4 (lims 4 r) := fun w' hk => hk.range (fun j hj => stv_r hj)
 have hsl : ∀ w', Arr w' g (stv h r bs n) → Sl w' (.slice (some ⟨g, 8, none⟩) n 16) (u8s (bs.take n)) := fun w' hk => Sl.of_part hk (by rw [u8s_len, htl]) hn zDc (fun j hj => by
  rw [u8s_len, htl] at hj
  rw [stv_b zOm, u8s_get _ _ zOm, u8s_get _ _ (by rw [htl]; exact hj)]
  simp)
 have hcn := stv_n (h := h) (r := r) (n := n) hb
 have hone := u8s_one (bs.take n)
 have hlim8 : ∀ w' k, Arr w' k (lims 8 p) → w'.rangeAt k 0 (lims 4 p) := fun w' k hk => hk.range (fun j hj => by rw [lims_len] at hj; rw [Nat.zero_add, lims_get _ _ _ zOm, lims_get _ _ _ hj])
 have hsz1 : (Tryz.prog.info? 5).map (·.size) = some 1 := by kernel_rfl
 have hput := stv_put_h (h := h) (r := r) (n := n) (k := f) (bs := bs)
 have hset0 := stv_set_n (h := f) (r := r) (n := n) (m := 0) hb
 have hcn2 := stv_n (h := f) (r := r) (n := n) hb
 have hmix : (byts 0).take 0 ++ (u8s (bs.take n)).take 32 ++ (byts 0).drop (0 + ((u8s (bs.take n)).take 32).length) = u8s (bs.take n) ++ List.replicate (32 - n) (Value.int .u8 0) := by
  rw [List.take_zero, List.nil_append, List.take_of_length_le (by rw [u8s_len, htl]; omega), u8s_len, htl, Nat.zero_add]
  congr 1
  rw [show byts 0 = List.replicate 32 (Value.int .u8 0) from rfl, List.drop_replicate]
 have hget1 : (u8s (bs.take n) ++ List.replicate (32 - n) (Value.int .u8 0))[n]? = some (.int .u8 0) := by
  rw [List.getElem?_append_right (by rw [u8s_len, htl]; exact Nat.le_refl _), u8s_len, htl, Nat.sub_self, List.getElem?_replicate, if_pos zOm]
 clear hbb hbl b32 hrl hsum hs4 hs hp hp4 hf hcc hh hr
 replace hl0 := zH hl0
 replace htl := zH htl
 replace hby := zH hby
 replace c1 := zH c1
 replace c2 := zH c2
 replace c3 := zH c3
 replace c4 := zH c4
 replace hrng := zH hrng
 replace hrng2 := zH hrng2
 replace hsl := zH hsl
 replace hcn := zH hcn
 replace hone := zH hone
 replace hlim8 := zH hlim8
 replace hsz1 := zH hsz1
 replace hput := zH hput
 replace hset0 := zH hset0
 replace hcn2 := zH hcn2
 replace hmix := zH hmix
 replace hget1 := zH hget1
 replace hb := zH hb
 go_enter Tryz.func288, Tryz.ntmps288
 go_upto_region 1 with fail
 refine wp_new1 (fun W hsz k2 kb => ?_)
 have k2 : Arr W w.heap.size (byts 0) := k2
 have k0 := k0.below kb
 have ne0 : g ≠ w.heap.size := by omega
 clear hsz
 have n16 : (n : Int) ≤ 16 := by omega
 refine Tx.start (fun w' => Below (W).heap.size (W) w') 9 10 rfl zKr ?_
 have hS_1 : Below (W).heap.size (W) (World.drew W) := (Below.refl _ _).drew
 refine Tx.seg2 (A := ?_) 1 511 zKr (by exact hS_1) [0, 1, 2, 3, 4, 5, 6, 7, 8] zKr ?_ ?_
 rotate_left
 · intro w' hB
   have e1 := (k0.below hB).cell hcn.out
   exact zRd
 have k0 := k0.below hS_1
 have k2 := k2.below hS_1
 have kb := bel kb hS_1
 refine Tx.bar 1023 rfl zDk (fun K hK => ?_)
 refine step_copy_arr rfl _ _ 26 26 rfl 5 Tryz.underlying26 hsz1.out _ 0 32 32 rfl _ k2 (by rw [byts_len]; decide) _ rfl _ (hsl.out _ k0) hone.out ?_
 refine hK (fun _ => True) 9999 _ _ ?_
 clear hK K
 try simp only [Act.put]
 try simp only [zSa, zSz, zSs]
 refine Tx.done zKr ?_
 rw [hmix.out]
 generalize goInt ((List.take 32 (u8s (List.take n bs))).length : Int) = gi
 first | refine then_row k2 (fun w_2 k2 hoth hbel => ?_) | refine inb_row k2 (fun w_2 k2 hoth hbel => ?_)
 have k0 := hoth _ _ zOm k0
 have kb := hbel _ _ zOm kb
 clear hoth hbel
 have hcel := k2.cell hget1.out
 have hfro := k2.frozen n
 have hcel2 := k0.cell hcn.out
 go_upto_region 3 with fail
 clear hcel hfro hcel2
 refine code_cell k2 (fun w_3 k2 hoth hbel => ?_)
 have k0 := hoth _ _ zOm k0
 have kb := hbel _ _ zOm kb
 clear hoth hbel
 rw [← hby.out] at k2
 refine Tx.start (fun w' => Below (w_3).heap.size (w_3) w') 11 13 rfl zKr ?_
 have hS_4 : Below (w_3).heap.size (w_3) (World.drew w_3) := (Below.refl _ _).drew
 refine Tx.seg (A := ?_) 8 31 zKr (by exact hS_4) [0, 1, 2, 3, 4] zKr ?_ ?_
 rotate_left
 · intro w' hB
   have hr0 := hrng.out w' (k0.below hB)
   have e2 := k2.below hB
   exact zRm
 refine Tx.poolB 2 2047 [(5, 27), (6, 28), (7, 21), (8, 29), (9, 30), (10, 3)] [(false, []), (false, [(5, 27)]), (true, [(6, 28)]), (true, [(7, 21)]), (true, [(7, 21)]), (false, [])] [(5, Ph.is (.agg (lims 4 b).toArray)), (6, Ph.is (.tuple #[.agg (lims 4 s).toArray, .int .u64 (cc : Int)])), (7, Ph.is (.tuple #[.agg (lims 4 s).toArray, .int .u64 (cc : Int)])), (8, Ph.is (.agg (lims 4 s).toArray)), (9, Ph.is (.int .u64 (cc : Int))), (10, Ph.arr (w_3).heap.size (lims 4 0))] zKr zKr (by first | assumption | exact (Below.refl _ _).drew) ?_ ?_
 · refine ⟨⟨_, rfl, ?_⟩, ⟨_, rfl, ?_⟩, ⟨_, rfl, ?_⟩, ⟨_, rfl, ?_⟩, ⟨_, rfl, ?_⟩, ⟨_, rfl, ?_⟩, trivial⟩
   · intro vs w1 hS hE hD K hK
     clear hD
     simp only [fillL, Act.put, zSa, zSz, zSs] at hK ⊢
     go_simp
     refine (c1.out _).mono ?_
     rintro e w2 ⟨rfl, hb2⟩
     exact hK _ _ rfl hb2 nofun
   · intro vs w1 hS hE hD K hK
     obtain ⟨q5, -⟩ := hD
     simp only [fillL, Act.put, zSa, zSz, zSs] at hK ⊢
     rw [show vs 5 = _ from q5] at hK ⊢
     clear q5
     go_simp
     refine (c2.out _).mono ?_
     rintro e w2 ⟨rfl, hb2⟩
     exact hK _ _ rfl hb2 nofun
   · intro vs w1 hS hE hD
     obtain ⟨q6, -⟩ := hD
     simp only [fillL, Act.put, zSa, zSz, zSs] at ⊢
     rw [show vs 6 = _ from q6] at ⊢
     clear q6
     refine ⟨_, rfl, fun w' => (by first | (go_simp; done) | (go_simp; rfl)), rfl, nofun⟩
   · intro vs w1 hS hE hD
     obtain ⟨q7, -⟩ := hD
     simp only [fillL, Act.put, zSa, zSz, zSs] at ⊢
     rw [show vs 7 = _ from q7] at ⊢
     clear q7
     refine ⟨_, rfl, fun w' => (by first | (go_simp; done) | (go_simp; rfl)), rfl, nofun⟩
   · intro vs w1 hS hE hD
     obtain ⟨q7, -⟩ := hD
     simp only [fillL, Act.put, zSa, zSz, zSs] at ⊢
     rw [show vs 7 = _ from q7] at ⊢
     clear q7
     refine ⟨_, rfl, fun w' => (by first | (go_simp; done) | (go_simp; rfl)), rfl, nofun⟩
   · intro vs w1 hS hE hD K hK
     clear hD
     simp only [fillL, Act.put, zSa, zSz, zSs] at hK ⊢
     go_simp
     exact hK _ _ ⟨_, rfl, Nat.le_trans zLe hE.size, Arr.new _ _ _⟩ (below_alloc _ _) (fun _ => ⟨_, rfl, Nat.le_refl _⟩)
 intro vs w_p3 hS_p3 hE_p3 hP hD
 obtain ⟨q5, q6, q7, q8, q9, q10, -⟩ := hP
 simp only [fillL, Act.put, zSa, zSz, zSs]
 rw [show vs 5 = _ from q5]
 clear q5
 rw [show vs 6 = _ from q6]
 clear q6
 rw [show vs 7 = _ from q7]
 clear q7
 rw [show vs 8 = _ from q8]
 clear q8
 rw [show vs 9 = _ from q9]
 clear q9
 obtain ⟨g10, e10, hg10, ha10⟩ := q10
 rw [e10]
 clear e10 hD vs
 have lt0_3 := Nat.lt_of_lt_of_le k0.lt hg10
 have lt2_3 := Nat.lt_of_lt_of_le k2.lt hg10
 have k0 := k0.below hS_p3
 have k2 := k2.below hS_p3
 have kb := bel kb hS_p3
 refine Tx.bar 4095 rfl zDk (fun K hK => ?_)
 refine step_store_arr rfl _ _ _ rfl _ _ rfl rfl _ zAm zLn zLm zOn ?_
 refine hK (fun _ => True) 9999 _ _ ?_
 clear hK K
 try simp only [Act.put]
 try simp only [zSa, zSz, zSs]
 refine Tx.seg (A := ?_) 0 8191 zKr (by exact trivial) [12] zKr ?_ ?_
 rotate_left
 · intro w' hB
   exact zRd
 refine Tx.done zKr ?_
 refine then_row ha10 (fun w_5 ha10 hoth hbel => ?_)
 have k0 := hoth _ _ zOm k0
 have kb := hbel _ _ zOm kb
 clear hoth hbel
 have k3 := ha10
 clear ha10
 generalize g10 = g3 at *
 clear k2
 go_upto_region 4 with fail
 have hsz4 := kb.size
 refine Tx.start (fun w' => Below (w_5).heap.size (w_5) w') 7 8 rfl zKr ?_
 have hS_6 : Below (w_5).heap.size (w_5) (World.drew w_5) := (Below.refl _ _).drew
 refine Tx.seg (A := ?_) 3 31 zKr (by exact hS_6) [0, 1, 2, 3, 4] zKr ?_ ?_
 rotate_left
 · intro w' hB
   have hr0 := hrng2.out w' (k0.below hB)
   have e2 := k3.below hB
   exact zRm
 refine Tx.poolB 1 127 [(5, 36), (6, 5)] [(false, []), (false, [])] [(5, Ph.is (.agg (lims 8 p).toArray)), (6, Ph.arr (w_5).heap.size (lims 8 0))] zKr zKr (by first | assumption | exact (Below.refl _ _).drew) ?_ ?_
 · refine ⟨⟨_, rfl, ?_⟩, ⟨_, rfl, ?_⟩, trivial⟩
   · intro vs w1 hS hE hD K hK
     clear hD
     simp only [fillL, Act.put, zSa, zSz, zSs] at hK ⊢
     go_simp
     refine (c3.out _).mono ?_
     rintro e w2 ⟨rfl, hb2⟩
     exact hK _ _ rfl hb2 nofun
   · intro vs w1 hS hE hD K hK
     clear hD
     simp only [fillL, Act.put, zSa, zSz, zSs] at hK ⊢
     go_simp
     exact hK _ _ ⟨_, rfl, Nat.le_trans zLe hE.size, Arr.new _ _ _⟩ (below_alloc _ _) (fun _ => ⟨_, rfl, Nat.le_refl _⟩)
 intro vs w_p4 hS_p4 hE_p4 hP hD
 obtain ⟨q5, q6, -⟩ := hP
 simp only [fillL, Act.put, zSa, zSz, zSs]
 rw [show vs 5 = _ from q5]
 clear q5
 obtain ⟨g6, e6, hg6, ha6⟩ := q6
 rw [e6]
 clear e6 hD vs
 have lt0_4 := Nat.lt_of_lt_of_le k0.lt hg6
 have k0 := k0.below hS_p4
 have kb := bel kb hS_p4
 refine Tx.bar 255 rfl zDk (fun K hK => ?_)
 refine step_store_arr rfl _ _ _ rfl _ _ rfl rfl _ zAm zLn zLm zOn ?_
 refine hK (fun _ => True) 9999 _ _ ?_
 clear hK K
 try simp only [Act.put]
 try simp only [zSa, zSz, zSs]
 refine Tx.done zKr ?_
 refine then_row ha6 (fun w_7 ha6 hoth hbel => ?_)
 have k0 := hoth _ _ zOm k0
 have kb := hbel _ _ zOm kb
 clear hoth hbel
 have k5 := ha6
 clear ha6 k3
 generalize g6 = g5 at *
 have hr5 := hlim8.out _ _ k5
 have hat : ∀ w, (Instr.arrayAt 127 (.slice (some ⟨g5, 0, none⟩) 4 8)).run Tryz.prog w = .ok (.pointer (some ⟨g5, 0, none⟩)) w := fun w => run_arrayAt w 127 79 4 _ 4 8 Tryz.underlying127 zDc
 go_upto_region 5 with fail
 go_wp2_with (refine wpList_load_mid2 rfl _ _ rfl _ _ rfl zKr _ hr5 zLn ?_)
 clear hr5 hat
 refine (c4.out _).mono ?_
 rintro e w_8 ⟨rfl, hb_8⟩
 have k0 := k0.below hb_8
 have kb := bel kb hb_8
 clear hb_8
 go_upto_region 6 with (refine wpl_store_mid rfl _ _ _ rfl _ _ (lims 4 f) rfl rfl _ k0 (by rw [lims_len]; kernel_rfl) (by rw [hl0.out, lims_len]; decide) (lims_one _ _) (fun w7 k7 hoth hbel hgr => ?_))
 have kg := gr_trans (gr_below kb) hgr
 rw [hput.out] at k7
 clear hoth hbel hgr k0 kb
 have hcel := k7.cell hcn2.out
 have hfro := k7.frozen 24
 go_wp2_with fail
 go_end0
 refine ⟨rfl, ?_, gr_trans kg (gr_cell _ _ _ _)⟩
 have := k7.set 24 (.int .i64 ((0 : Nat) : Int))
 rw [hset0.out] at this
 exact this
theorem ptake_any (g h r n : Nat) (bs : List UInt8) (x : UInt8) (w : World) (k0 : Arr w g (stv h r bs n)) (hb : bs.length = 16) (hn : n < 16) (hh : h < 2 ^ 131) (hr : r < 2 ^ 124) :
 Calls Tryz.prog 287 #[.pointer (some ⟨g, 0, none⟩), .int .u8 (x.toNat : Int)] w fun e w' =>
  e = .returned (.tuple #[]) ∧ Arr w' g (if n = 15 then stv (fold13 ((h + blkV (bs.set n x)) * r)) r (bs.set n x) 0 else stv h r (bs.set n x) (n + 1)) ∧ w.grownBy w' (some g) := by
 have hcn := stv_n (h := h) (r := r) (n := n) hb
 have hcb := stv_b (h := h) (r := r) (n := n) (bs := bs) (j := n) zOm
 rw [u8s_get bs n zOm] at hcb
 have hset := stv_set_b (h := h) (r := r) (n := n) (bs := bs) (j := n) (x := x) zOm
 have hb2 : (bs.set n x).length = 16 := by rw [List.length_set]; exact hb
 obtain ⟨cs, hcs⟩ : ∃ cs, bs.set n x = cs := ⟨_, rfl⟩
 rw [hcs] at hset hb2 ⊢
 have hcn2 := stv_n (h := h) (r := r) (n := n) hb2
 have hset2 := stv_set_n (h := h) (r := r) (n := n) (m := n + 1) hb2
 have hcn3 := stv_n (h := h) (r := r) (n := n + 1) hb2
 have c1 := fun w (e : n = 15) k => pturn_any g h r (n + 1) cs w k hb2 zOm hh hr
 obtain ⟨Y, hY⟩ : ∃ Y, (if n = 15 then stv (fold13 ((h + blkV cs) * r)) r cs 0 else stv h r cs (n + 1)) = Y := ⟨_, rfl⟩
 rw [hY]
 replace hY := zH hY
 have ht : n = 15 → cs.take (n + 1) = cs := fun e => List.take_of_length_le zOm
 have hbl : (bs[n]'zOm).toNat < 256 := (bs[n]'zOm).toNat_lt
 generalize (bs[n]'zOm).toNat = y at hcb hbl
 have n16 : (n : Int) < 16 := by omega
 clear hb hcs hh hr
 replace hcn := zH hcn
 replace hcb := zH hcb
 replace hset := zH hset
 replace hb2 := zH hb2
 replace hcn2 := zH hcn2
 replace hset2 := zH hset2
 replace hcn3 := zH hcn3
 replace c1 := zH c1
 replace ht := zH ht
 go_enter Tryz.func287, Tryz.ntmps287
 go_upto_region 0 with fail
 refine Tx.start (fun w' => Below (w).heap.size (w) w') 9 10 rfl zKr ?_
 have hS_9 : Below (w).heap.size (w) (World.drew w) := (Below.refl _ _).drew
 refine Tx.seg2 (A := ?_) 1 511 zKr (by exact hS_9) [0, 1, 2, 3, 4, 5, 6, 7, 8] zKr ?_ ?_
 rotate_left
 · intro w' hB
   have e1 := (k0.below hB).cell hcn.out
   exact zRd
 have k0' := k0.below hS_9
 have hcel := k0'.cell hcb.out
 have hfro := k0'.frozen (8 + n)
 refine Tx.bar 1023 rfl zDk (fun K hK => ?_)
 go_simp
 refine hK (fun _ => True) 9999 _ _ ?_
 clear hK K
 try simp only [Act.put]
 try simp only [zSa, zSz, zSs]
 refine Tx.done zKr ?_
 clear hcel hfro k0'
 have kg := grownBy_drew (gr_cell w g (8 + n) (.int .u8 (x.toNat : Int)))
 have k1 : Arr (w.setCell ⟨g, 8 + n, none⟩ (.int .u8 (x.toNat : Int))).drew g (stv h r cs n) := by
  have := k0.set (8 + n) (.int .u8 (x.toNat : Int))
  rw [hset.out] at this
  exact this
 generalize (w.setCell ⟨g, 8 + n, none⟩ (.int .u8 (x.toNat : Int))).drew = w2 at *
 have hcel := k1.cell hcn2.out
 have hfro := k1.frozen 24
 go_upto_region 2 with fail
 clear hcel hfro
 have kg := gr_trans kg (gr_cell w2 g 24 (.int .i64 ((n : Int) + 1)))
 have k2 : Arr (w2.setCell ⟨g, 24, none⟩ (.int .i64 ((n : Int) + 1))) g (stv h r cs (n + 1)) := by
  have := k1.set 24 (.int .i64 ((n + 1 : Nat) : Int))
  rw [hset2.out] at this
  exact this
 generalize w2.setCell ⟨g, 24, none⟩ (.int .i64 ((n : Int) + 1)) = w3 at *
 have hcel := k2.cell hcn3.out
 by_cases h15 : n = 15
 · have c2 := c1.out w3 h15 k2
   rw [ht.out h15] at c2
   replace c2 := zH c2
   clear c1
   subst h15
   go_wp2_with fail
   refine c2.out.mono ?_
   rintro e w4 ⟨rfl, k3, hg3⟩
   have kg := gr_trans kg hg3
   clear hg3
   go_wp2_with fail
   go_end0
   exact ⟨rfl, by have := hY.out; simp only [if_true] at this; rw [← this]; exact k3, kg⟩
 · have hne : ((n + 1 : Nat) : Int) ≠ 16 := by omega
   go_wp2_with fail
   go_end0
   exact ⟨rfl, by rw [← hY.out, if_neg h15]; exact k2, kg⟩
def qN : Nat := 7237005577332262213973186563042994240857116359379907606001950938285454250989
theorem lims_q : (lims 4 qN).toArray = #[.int .u64 6346243789798364141, .int .u64 1503914060200516822, .int .u64 0, .int .u64 1152921504606846976] := by kernel_rfl
theorem qN_lt : 2 * qN < 18446744073709551616 ^ 4 := by decide
theorem qN_pos : 0 < qN := by decide
theorem order_any (w : World) : Calls Tryz.prog 283 #[] w fun e w' => e = .returned (.agg (lims 4 qN).toArray) ∧ Below w.heap.size w w' := by
 go_enter Tryz.func283, Tryz.ntmps283
 go_wp2_with fail
 refine bodyPost_ret (v := .agg (lims 4 qN).toArray) (by rw [lims_q]; simp [results, Tryz.results283, go_sem]) rfl ⟨rfl, ?_⟩
 exact ((below_alloc _ _))
theorem lims_mod (k n : Nat) (h : ∃ c, k = n + 18446744073709551616 ^ 4 * c) : lims 4 k = lims 4 n := by
 obtain ⟨c, rfl⟩ := h
 unfold lims
 congr 1
 unfold digs
 apply List.map_congr_left
 intro i hi
 simp only [List.mem_range] at hi
 have e : (18446744073709551616 : Nat) ^ 4 * c = 18446744073709551616 ^ i * (18446744073709551616 * (18446744073709551616 ^ (3 - i) * c)) := by
  rw [← Nat.mul_assoc, ← Nat.mul_assoc, Nat.mul_assoc _ 18446744073709551616, ← Nat.pow_succ', ← Nat.pow_add, show i + (3 - i).succ = 4 by omega]
 rw [e, Nat.add_mul_div_left _ _ (Nat.pow_pos zDc), Nat.add_mul_mod_self_left]
theorem red_step (V m X b r : Nat) (hX : V / 2 ^ (m + 1) = X) (hb : V / 2 ^ m % 2 = b) (hr : X % qN = r) : V / 2 ^ m % qN = if 2 * r + b < qN then 2 * r + b else 2 * r + b - qN := by
 have e : V / 2 ^ m = 2 * X + b := by
  rw [← hX, Nat.pow_succ, ← Nat.div_div_eq_div_mul]; omega
 have hb2 : b ≤ 1 := by omega
 have hq := qN_pos
 have h1 := Nat.div_add_mod X qN
 have h2 := Nat.mod_lt X hq
 rw [e]
 have e2 : 2 * X + b = (2 * r + b) + qN * (2 * (X / qN)) := by
  rw [hr] at h1
  have : qN * (2 * (X / qN)) = 2 * (qN * (X / qN)) := Nat.mul_left_comm _ _ _
  omega
 rw [e2, Nat.add_mul_mod_self_left]
 by_cases h : 2 * r + b < qN
 · rw [if_pos h, Nat.mod_eq_of_lt h]
 · rw [if_neg h, Nat.mod_eq_sub_mod zOm, Nat.mod_eq_of_lt zOm]
theorem lims_set0 (n b : Nat) (hb : b ≤ 1) : (lims 4 (2 * n)).set 0 (.int .u64 (((2 * n) % 18446744073709551616 + b : Nat) : Int)) = lims 4 (2 * n + b) := by
 apply List.ext_getElem?
 intro j
 by_cases hj : j < 4
 · rw [List.getElem?_set, lims_get _ _ _ hj, lims_get _ _ _ hj, lims_len]
   by_cases h0 : 0 = j
   · subst h0
     rw [if_pos rfl, if_pos zDc]
     congr 3
     simp only [Nat.pow_zero, Nat.div_one]
     omega
   · rw [if_neg h0]
     obtain ⟨i, rfl⟩ : ∃ i, j = i + 1 := ⟨j - 1, by omega⟩
     have e : (2 * n + b) / 18446744073709551616 ^ (i + 1) = (2 * n) / 18446744073709551616 ^ (i + 1) := by
      rw [Nat.pow_succ, Nat.mul_comm (18446744073709551616 ^ i), ← Nat.div_div_eq_div_mul, ← Nat.div_div_eq_div_mul]
      congr 1
      omega
     rw [e]
 · rw [List.getElem?_eq_none (by rw [List.length_set, lims_len]; omega), List.getElem?_eq_none (by rw [lims_len]; omega)]
theorem or_even (x b : Nat) (hx : x < 18446744073709551616) (he : x % 2 = 0) (hb : b ≤ 1) : bits .or .u64 (x : Int) (b : Int) = ((x + b : Nat) : Int) := by
 rw [u64_or_nat _ _ hx zOm]
 congr 1
 have h : b = 0 ∨ b = 1 := by omega
 rcases h with rfl | rfl
 · simp
 · have := Nat.two_pow_add_eq_or_of_lt (i := 1) (b := 1) zDc (x / 2)
   have e : 2 ^ 1 * (x / 2) = x := by omega
   rw [e] at this
   exact this.symm
theorem reduce_any (ls : List Nat) (b o cap : Nat) (w : World) (hl0 : 0 < ls.length) (hl : ls.length ≤ 16) (hlt : ∀ d ∈ ls, d < 18446744073709551616)
 (hc : ∀ j x, ls[j]? = some x → w.cell? ⟨b, o + j, none⟩ = some (.int .u64 (x : Nat))) :
 Calls Tryz.prog 240 #[.slice (some ⟨b, o, none⟩) ls.length cap] w fun e w' => e = .returned (.agg (lims 4 (val 18446744073709551616 ls % qN)).toArray) ∧ Below w.heap.size w w' := by
 obtain ⟨V, hV⟩ : ∃ V, val 18446744073709551616 ls = V := ⟨_, rfl⟩
 have hdig := digs_val 18446744073709551616 zDc ls hlt
 rw [hV] at hdig ⊢
 have hVl := val_lt 18446744073709551616 zDc ls hlt
 rw [hV] at hVl
 have hb : b < w.heap.size := World.block_lt_of_cell? w ⟨b, o + 0, none⟩ (hc 0 _ (List.getElem?_eq_getElem hl0))
 obtain ⟨L, hL⟩ : ∃ L, ls.length = L := ⟨_, rfl⟩
 rw [hL] at hl0 hl hdig hVl ⊢
 have hdig := zH hdig
 have hc' := zH hc
 have hV' := zH hV
 have hL' := zH hL
 have hlt' := zH hlt
 clear hlt hc hV hL
 go_enter Tryz.func240, Tryz.ntmps240
 go_upto_region 2 with fail
 refine wp_new2 (fun W hsz h1 h2 hb0 => ?_)
 go_wp2_with fail
 go_loopw [4] (fun kv wr => ∃ (j n : Nat), j ≤ 64 * L ∧ kv = .int .i64 ((j : Int) - 1) ∧ V / 2 ^ j % qN = n ∧ Arr wr w.heap.size (lims 4 0) ∧ Arr wr (w.heap.size + 1) (lims 4 n) ∧ Below w.heap.size w wr) (fun kv _ => (intOf kv + 1).toNat)
 case atStart =>
  refine ⟨64 * L, 0, Nat.le_refl _, ?_, ?_, h1, h2, hb0⟩
  · have e : ((64 * L : Nat) : Int) - 1 = (L : Int) * 64 - 1 := by omega
    rw [e]
  · have e : (2 : Nat) ^ (64 * L) = 18446744073709551616 ^ L := by rw [Nat.pow_mul]
    rw [e, Nat.div_eq_of_lt hVl, Nat.zero_mod]
 case round =>
  obtain ⟨j, n, hj, rfl, hn, k1, k2, kb⟩ := hrel
  clear h1 h2 hb0 hsz
  have hnq : n < qN := by rw [← hn]; exact Nat.mod_lt _ qN_pos
  have hn := zH hn
  have hVl := zH hVl
  rcases Nat.eq_zero_or_pos j with rfl | hj0
  · have e : ((0 : Nat) : Int) - 1 = -1 := rfl
    rw [e]
    go_wp2_with (first | (refine zLd ?_) | (refine zSt ?_))
    refine bodyPost_ret (v := .agg (lims 4 n).toArray) (results_arr Tryz.results240 _ _ w.heap.size _ rfl Tryz.underlying127 rfl _ (k1.setRow _) (by rw [lims_len]; kernel_rfl)) rfl ⟨by rw [← hn.out, Nat.pow_zero, Nat.div_one], below_setRow kb zOm _⟩
  · obtain ⟨m, rfl⟩ : ∃ m, j = m + 1 := ⟨j - 1, by omega⟩
    have e : ((m + 1 : Nat) : Int) - 1 = (m : Int) := by omega
    rw [e]
    clear e
    go_wp2_with (first | (refine zLd ?_))
    refine (limAdd_any n n _).mono ?_
    rintro e w2 ⟨rfl, hb2⟩
    have k1 := k1.below hb2
    have k2 := k2.below hb2
    have kb := ext_trans kb (by have := kb.size; omega) hb2
    go_upto_region 6 with (first | (refine zSt ?_))
    have k2 := k2.setRow (lims 4 (n + n))
    have k1 := k1.row_other (k := w.heap.size + 1) zOm (lims 4 (n + n)).toArray
    have kb := below_setRow kb (g := w.heap.size + 1) zOm (lims 4 (n + n)).toArray
    generalize w2.setRow (w.heap.size + 1) (lims 4 (n + n)).toArray = w3 at *
    rw [← Nat.two_mul] at k2
    obtain ⟨x, hx⟩ : ∃ x, ls[m / 64]? = some x := ⟨_, List.getElem?_eq_getElem (by rw [hL'.out]; omega)⟩
    have hxl : x < 18446744073709551616 := hlt'.out x (List.mem_of_getElem? hx)
    have hbit : x / 2 ^ (m % 64) % 2 = V / 2 ^ m % 2 := by
     have h6 := bit_at V m
     have h7 := digs_get 18446744073709551616 L V (m / 64) zOm
     rw [hdig.out, hx] at h7
     rw [← Option.some.inj h7] at h6
     exact h6
    obtain ⟨t, ht⟩ : ∃ t, x / 2 ^ (m % 64) % 2 = t := ⟨_, rfl⟩
    have ht1 : t ≤ 1 := by omega
    have hxc := hc'.out _ _ hx
    have hand : bits BinOp.and IntKind.u64 ((x : Int) / 2 ^ (m % 64)) 1 = (t : Int) := by
     have e := bits_and_u64_nat (x / 2 ^ (m % 64)) 1 (by have := Nat.div_le_self x (2 ^ (m % 64)); omega) zDc
     rw [Nat.and_one_is_mod, ht] at e
     rw [← e]
     simp
    obtain ⟨y, hy⟩ : ∃ y, 2 * n % 18446744073709551616 = y := ⟨_, rfl⟩
    have hor := or_even y t zOm zOm ht1
    have hy0 := k2.cell (lims_get 4 (2 * n) 0 zDc)
    rw [Nat.pow_zero, Nat.div_one, hy] at hy0
    have hyf := k2.frozen 0
    have hx' := zH hx
    have hbit' := zH hbit
    have ht' := zH ht
    have hy' := zH hy
    have hxc' := zH hxc
    have hand' := zH hand
    have hor' := zH hor
    clear hx hbit ht hy hxc hand hor
    have im0 : (0 : Int) ≤ (m : Int) / 64 := by omega
    have im1 : (m : Int) / 64 < (L : Int) := by omega
    have im2 : IntKind.i64.wrap ((m : Int) / 64) = (m : Int) / 64 := i64_in zOm
    have im3 : ((m : Int) / 64).toNat = m / 64 := by omega
    have im4 : ((m : Int)).tmod 64 = (m : Int) % 64 := Int.tmod_eq_emod_of_nonneg zOm
    have im5 : IntKind.i64.wrap ((m : Int) % 64) = (m : Int) % 64 := i64_in zOm
    have im6 : (0 : Int) ≤ (m : Int) % 64 := by omega
    have im7 : ((m : Int) % 64).toNat = m % 64 := by omega
    simp only [Act.put]
    refine Tx.start (fun w' => Below (w3).heap.size (w3) w') 13 14 rfl zKr ?_
    have hS_1 : Below (w3).heap.size (w3) (World.drew w3) := (Below.refl _ _).drew
    refine Tx.seg (A := ?_) 1 8191 zKr (by exact (Below.refl _ _).drew) [0, 1, 2, 3, 4, 5, 6, 7, 8, 9, 10, 11, 12] zKr ?_ ?_
    rotate_left
    · intro w' hB
      have e1 : w'.cell? ⟨w.heap.size + 1, 0, none⟩ = some (.int .u64 (y : Int)) := by rw [hB.cell (by simpa using k2.lt)]; exact hy0
      have e2 : w'.cell? ⟨b, o + m / 64, none⟩ = some (.int .u64 (x : Int)) := by rw [hB.cell (by have := kb.size; simp; omega), kb.cell hb]; exact hxc'.out
      have e3 := hand'.out
      have e4 := hor'.out
      exact zRd
    have hyc : w3.drew.cell? ⟨w.heap.size + 1, 0, none⟩ = some (.int .u64 (y : Int)) := hy0
    have hyff : w3.drew.frozen? ⟨w.heap.size + 1, 0, none⟩ = false := hyf
    refine Tx.bar 16383 rfl zDk (fun K hK => ?_)
    go_simp
    refine hK (fun _ => True) 9999 _ _ ?_
    clear hK K
    try simp only [Act.put]
    try simp only [zSa, zSz, zSs]
    refine Tx.done zKr ?_
    have e5 := lims_set0 n t ht1
    rw [hy'.out, Int.natCast_add] at e5
    have k2 := k2.set 0 (.int .u64 ((y : Int) + (t : Int)))
    rw [e5] at k2
    clear e5
    have k1 := k1.other (a := ⟨w.heap.size + 1, 0, none⟩) (by simp) (.int .u64 ((y : Int) + (t : Int)))
    have kb := (kb.setCell (p := ⟨w.heap.size + 1, 0, none⟩) (by simp) (.int .u64 ((y : Int) + (t : Int)))).drew
    have k1 : Arr (w3.setCell ⟨w.heap.size + 1, 0, none⟩ (.int .u64 ((y : Int) + (t : Int)))).drew _ _ := k1
    have k2 : Arr (w3.setCell ⟨w.heap.size + 1, 0, none⟩ (.int .u64 ((y : Int) + (t : Int)))).drew _ _ := k2
    generalize (w3.setCell ⟨w.heap.size + 1, 0, none⟩ (.int .u64 ((y : Int) + (t : Int)))).drew = w4 at *
    clear hy0 hyf hyc hyff
    go_upto_region 7 with fail
    refine Tx.start (fun w' => Below (w4).heap.size (w4) w') 7 9 rfl zKr ?_
    have hS_2 : Below (w4).heap.size (w4) (World.drew w4) := (Below.refl _ _).drew
    refine Tx.seg (A := ?_) 8 1 zKr (by exact (Below.refl _ _).drew) [0] zKr ?_ ?_
    rotate_left
    · intro w' hB
      have e1 := k2.below hB
      exact zRd
    refine Tx.poolB 2 127 [(1, 36), (2, 37), (3, 34), (4, 38), (5, 39), (6, 5)] [(false, []), (false, [(1, 36)]), (true, [(2, 37)]), (true, [(3, 34)]), (true, [(3, 34)]), (false, [])] [(1, Ph.is (.agg (lims 4 qN).toArray)), (2, Ph.is (.tuple #[.agg (lims 4 (2 * n + t + 18446744073709551616 ^ 4 - qN)).toArray, .int .u64 (borrow 18446744073709551616 4 (2 * n + t) qN : Nat)])), (3, Ph.is (.tuple #[.agg (lims 4 (2 * n + t + 18446744073709551616 ^ 4 - qN)).toArray, .int .u64 (borrow 18446744073709551616 4 (2 * n + t) qN : Nat)])), (4, Ph.is (.agg (lims 4 (2 * n + t + 18446744073709551616 ^ 4 - qN)).toArray)), (5, Ph.is (.int .u64 (borrow 18446744073709551616 4 (2 * n + t) qN : Nat))), (6, Ph.arr w4.heap.size (lims 4 0))] zKr zKr (by first | assumption | exact (Below.refl _ _).drew) ?_ ?_
    · refine ⟨⟨_, rfl, ?_⟩, ⟨_, rfl, ?_⟩, ⟨_, rfl, ?_⟩, ⟨_, rfl, ?_⟩, ⟨_, rfl, ?_⟩, ⟨_, rfl, ?_⟩, trivial⟩
      · intro vs w1 hS hE hD K hK
        clear hD
        simp only [fillL, Act.put, zSa, zSz, zSs] at hK ⊢
        go_simp
        refine (order_any _).mono ?_
        rintro e w2 ⟨rfl, hb2⟩
        exact hK _ _ rfl hb2 nofun
      · intro vs w1 hS hE hD K hK
        obtain ⟨q1, -⟩ := hD
        simp only [fillL, Act.put, zSa, zSz, zSs] at hK ⊢
        rw [show vs 1 = _ from q1] at hK ⊢
        clear q1
        go_simp
        refine (limSub_any (2 * n + t) qN (by have := qN_lt; omega) _).mono ?_
        rintro e w2 ⟨rfl, hb2⟩
        exact hK _ _ rfl hb2 nofun
      · intro vs w1 hS hE hD
        obtain ⟨q2, -⟩ := hD
        simp only [fillL, Act.put, zSa, zSz, zSs] at ⊢
        rw [show vs 2 = _ from q2] at ⊢
        clear q2
        refine ⟨_, rfl, fun w' => (by first | (go_simp; done) | (go_simp; rfl)), rfl, nofun⟩
      · intro vs w1 hS hE hD
        obtain ⟨q3, -⟩ := hD
        simp only [fillL, Act.put, zSa, zSz, zSs] at ⊢
        rw [show vs 3 = _ from q3] at ⊢
        clear q3
        refine ⟨_, rfl, fun w' => (by first | (go_simp; done) | (go_simp; rfl)), rfl, nofun⟩
      · intro vs w1 hS hE hD
        obtain ⟨q3, -⟩ := hD
        simp only [fillL, Act.put, zSa, zSz, zSs] at ⊢
        rw [show vs 3 = _ from q3] at ⊢
        clear q3
        refine ⟨_, rfl, fun w' => (by first | (go_simp; done) | (go_simp; rfl)), rfl, nofun⟩
      · intro vs w1 hS hE hD K hK
        clear hD
        simp only [fillL, Act.put, zSa, zSz, zSs] at hK ⊢
        go_simp
        exact hK _ _ ⟨_, rfl, Nat.le_trans zLe hE.size, Arr.new _ _ _⟩ (below_alloc _ _) (fun _ => ⟨_, rfl, Nat.le_refl _⟩)
    intro vs w_p hS_p hE_p hP hD
    obtain ⟨q1, q2, q3, q4, q5, q6, -⟩ := hP
    simp only [fillL, Act.put, zSa, zSz, zSs]
    rw [show vs 1 = _ from q1]
    clear q1
    rw [show vs 2 = _ from q2]
    clear q2
    rw [show vs 3 = _ from q3]
    clear q3
    rw [show vs 4 = _ from q4]
    clear q4
    rw [show vs 5 = _ from q5]
    clear q5
    obtain ⟨g6, e6, hg6, ha6⟩ := q6
    rw [e6]
    clear e6 hD vs
    refine Tx.bar 255 rfl zDk (fun K hK => ?_)
    refine step_store_arr rfl _ _ _ rfl _ _ rfl rfl _ zAm zLn zLm zOn ?_
    refine hK (fun _ => True) 9999 _ _ ?_
    clear hK K
    try simp only [Act.put]
    try simp only [zSa, zSz, zSs]
    refine Tx.seg (A := ?_) 0 511 zKr (by exact trivial) [8] zKr ?_ ?_
    rotate_left
    · intro w' hB
      exact zRd
    refine Tx.done zKr ?_
    have hn5 : w.heap.size + 1 < g6 := Nat.lt_of_lt_of_le k2.lt hg6
    have k1 := (k1.below hS_p).row_other (k := g6) zOm (lims 4 (2 * n + t + 18446744073709551616 ^ 4 - qN)).toArray
    have k2 := (k2.below hS_p).row_other (k := g6) zOm (lims 4 (2 * n + t + 18446744073709551616 ^ 4 - qN)).toArray
    have k6 := ha6.setRow (lims 4 (2 * n + t + 18446744073709551616 ^ 4 - qN))
    have kb := below_setRow (ext_trans kb (by have := kb.size; omega) hS_p) (g := g6) zOm (lims 4 (2 * n + t + 18446744073709551616 ^ 4 - qN)).toArray
    generalize w_p.setRow g6 (lims 4 (2 * n + t + 18446744073709551616 ^ 4 - qN)).toArray = w5 at *
    have hbo := borrow_all (a := 2 * n + t) (b := qN) (by have := qN_lt; omega) zDc
    rw [hbo]
    have hstep := red_step V m _ t n rfl (by rw [← hbit'.out, ht'.out]) hn.out
    have hstep' := zH hstep
    clear hstep hbo ha6 hg6 hE_p hS_p
    by_cases hlq : 2 * n + t < qN
    · rw [if_pos hlq]
      go_wp2_with fail
      exact ⟨⟨m, _, by omega, rfl, by rw [hstep'.out, if_pos hlq], k1, k2, kb⟩, by simp [intOf]⟩
    · rw [if_neg hlq]
      go_wp2_with (first | (refine zLd ?_) | (refine zSt ?_))
      have e : lims 4 (2 * n + t + 18446744073709551616 ^ 4 - qN) = lims 4 (2 * n + t - qN) := lims_mod _ _ ⟨1, by omega⟩
      refine ⟨⟨m, _, by omega, rfl, by rw [hstep'.out, if_neg hlq], k1.row_other zOm _, ?_, below_setRow kb zOm _⟩, by simp [intOf]⟩
      rw [← e]
      exact k2.setRow _
end Go.Proofs.YtibdgkhkhmdihaaGreatDoor
