/- TopSigned: part 7 of its proof: lemmas and contracts, each with its conditions in its own statement; the last part holds the law itself. -/
import Derived.Test.YtncnlfpiondpnaaGreatJt05
import Derived.Test.YtncnlfpiondpnaaGreatJt06

set_option maxHeartbeats 4000000
set_option maxRecDepth 100000
namespace Go.Proofs.YtncnlfpiondpnaaGreat
open Go.RowKit
def qN : Nat := 7237005577332262213973186563042994240857116359379907606001950938285454250989
theorem lims_q : (lims 4 qN).toArray = #[.int .u64 6346243789798364141, .int .u64 1503914060200516822, .int .u64 0, .int .u64 1152921504606846976] := by kernel_rfl
theorem qN_lt : 2 * qN < 18446744073709551616 ^ 4 := by decide
theorem qN_pos : 0 < qN := by decide
theorem order_any (w : World) : Calls Tryz.prog 92 #[] w fun e w' => e = .returned (.agg (lims 4 qN).toArray) ∧ Below w.heap.size w w' := by
 go_enter Tryz.func92, Tryz.ntmps92
 go_wp2_with fail
 refine bodyPost_ret (v := .agg (lims 4 qN).toArray) (by rw [lims_q]; simp [results, Tryz.results92, go_sem]) rfl ⟨rfl, ?_⟩
 exact ((below_alloc _ _))
theorem lims_mod (k n : Nat) (h : ∃ c, k = n + 18446744073709551616 ^ 4 * c) : lims 4 k = lims 4 n := by
 obtain ⟨c, rfl⟩ := h
 unfold lims
 congr 1
 unfold digs
 apply List.map_congr_left
 intro i hi
 simp only [List.mem_range] at hi
 have e : (18446744073709551616 : Nat) ^ 4 * c = 18446744073709551616 ^ i * (18446744073709551616 * (18446744073709551616 ^ (3 - i) * c)) := by
  rw [← Nat.mul_assoc, ← Nat.mul_assoc, Nat.mul_assoc _ 18446744073709551616, ← Nat.pow_succ', ← Nat.pow_add, show i + (3 - i).succ = 4 by omega]
 rw [e, Nat.add_mul_div_left _ _ (Nat.pow_pos zDc), Nat.add_mul_mod_self_left]
theorem red_step (V m X b r : Nat) (hX : V / 2 ^ (m + 1) = X) (hb : V / 2 ^ m % 2 = b) (hr : X % qN = r) : V / 2 ^ m % qN = if 2 * r + b < qN then 2 * r + b else 2 * r + b - qN := by
 have e : V / 2 ^ m = 2 * X + b := by
  rw [← hX, Nat.pow_succ, ← Nat.div_div_eq_div_mul]; omega
 have hb2 : b ≤ 1 := by omega
 have hq := qN_pos
 have h1 := Nat.div_add_mod X qN
 have h2 := Nat.mod_lt X hq
 rw [e]
 have e2 : 2 * X + b = (2 * r + b) + qN * (2 * (X / qN)) := by
  rw [hr] at h1
  have : qN * (2 * (X / qN)) = 2 * (qN * (X / qN)) := Nat.mul_left_comm _ _ _
  omega
 rw [e2, Nat.add_mul_mod_self_left]
 by_cases h : 2 * r + b < qN
 · rw [if_pos h, Nat.mod_eq_of_lt h]
 · rw [if_neg h, Nat.mod_eq_sub_mod zOm, Nat.mod_eq_of_lt zOm]
theorem lims_set0 (n b : Nat) (hb : b ≤ 1) : (lims 4 (2 * n)).set 0 (.int .u64 (((2 * n) % 18446744073709551616 + b : Nat) : Int)) = lims 4 (2 * n + b) := by
 apply List.ext_getElem?
 intro j
 by_cases hj : j < 4
 · rw [List.getElem?_set, lims_get _ _ _ hj, lims_get _ _ _ hj, lims_len]
   by_cases h0 : 0 = j
   · subst h0
     rw [if_pos rfl, if_pos zDc]
     congr 3
     simp only [Nat.pow_zero, Nat.div_one]
     omega
   · rw [if_neg h0]
     obtain ⟨i, rfl⟩ : ∃ i, j = i + 1 := ⟨j - 1, by omega⟩
     have e : (2 * n + b) / 18446744073709551616 ^ (i + 1) = (2 * n) / 18446744073709551616 ^ (i + 1) := by
      rw [Nat.pow_succ, Nat.mul_comm (18446744073709551616 ^ i), ← Nat.div_div_eq_div_mul, ← Nat.div_div_eq_div_mul]
      congr 1
      omega
     rw [e]
 · rw [List.getElem?_eq_none (by rw [List.length_set, lims_len]; omega), List.getElem?_eq_none (by rw [lims_len]; omega)]
theorem or_even (x b : Nat) (hx : x < 18446744073709551616) (he : x % 2 = 0) (hb : b ≤ 1) : bits .or .u64 (x : Int) (b : Int) = ((x + b : Nat) : Int) := by
 rw [u64_or_nat _ _ hx zOm]
 congr 1
 have h : b = 0 ∨ b = 1 := by omega
 rcases h with rfl | rfl
 · simp
 · have := Nat.two_pow_add_eq_or_of_lt (i := 1) (b := 1) zDc (x / 2)
   have e : 2 ^ 1 * (x / 2) = x := by omega
   rw [e] at this
   exact this.symm
theorem reduce_any (ls : List Nat) (b o cap : Nat) (w : World) (hl0 : 0 < ls.length) (hl : ls.length ≤ 16) (hlt : ∀ d ∈ ls, d < 18446744073709551616)
 (hc : ∀ j x, ls[j]? = some x → w.cell? ⟨b, o + j, none⟩ = some (.int .u64 (x : Nat))) :
 Calls Tryz.prog 84 #[.slice (some ⟨b, o, none⟩) ls.length cap] w fun e w' => e = .returned (.agg (lims 4 (val 18446744073709551616 ls % qN)).toArray) ∧ Below w.heap.size w w' := by
 obtain ⟨V, hV⟩ : ∃ V, val 18446744073709551616 ls = V := ⟨_, rfl⟩
 have hdig := digs_val 18446744073709551616 zDc ls hlt
 rw [hV] at hdig ⊢
 have hVl := val_lt 18446744073709551616 zDc ls hlt
 rw [hV] at hVl
 have hb : b < w.heap.size := World.block_lt_of_cell? w ⟨b, o + 0, none⟩ (hc 0 _ (List.getElem?_eq_getElem hl0))
 obtain ⟨L, hL⟩ : ∃ L, ls.length = L := ⟨_, rfl⟩
 rw [hL] at hl0 hl hdig hVl ⊢
 have hdig := zH hdig
 have hc' := zH hc
 have hV' := zH hV
 have hL' := zH hL
 have hlt' := zH hlt
 clear hlt hc hV hL
 go_enter Tryz.func84, Tryz.ntmps84
 go_upto_region 2 with fail
 refine wp_new2 (fun W hsz h1 h2 hb0 => ?_)
 go_wp2_with fail
 go_loopw [4] (fun kv wr => ∃ (j n : Nat), j ≤ 64 * L ∧ kv = .int .i64 ((j : Int) - 1) ∧ V / 2 ^ j % qN = n ∧ Arr wr w.heap.size (lims 4 0) ∧ Arr wr (w.heap.size + 1) (lims 4 n) ∧ Below w.heap.size w wr) (fun kv _ => (intOf kv + 1).toNat)
 case atStart =>
  refine ⟨64 * L, 0, Nat.le_refl _, ?_, ?_, h1, h2, hb0⟩
  · have e : ((64 * L : Nat) : Int) - 1 = (L : Int) * 64 - 1 := by omega
    rw [e]
  · have e : (2 : Nat) ^ (64 * L) = 18446744073709551616 ^ L := by rw [Nat.pow_mul]
    rw [e, Nat.div_eq_of_lt hVl, Nat.zero_mod]
 case round =>
  obtain ⟨j, n, hj, rfl, hn, k1, k2, kb⟩ := hrel
  clear h1 h2 hb0 hsz
  have hnq : n < qN := by rw [← hn]; exact Nat.mod_lt _ qN_pos
  have hn := zH hn
  have hVl := zH hVl
  rcases Nat.eq_zero_or_pos j with rfl | hj0
  · have e : ((0 : Nat) : Int) - 1 = -1 := rfl
    rw [e]
    go_wp2_with (first | (refine zLd ?_) | (refine zSt ?_))
    refine bodyPost_ret (v := .agg (lims 4 n).toArray) (results_arr Tryz.results84 _ _ w.heap.size _ rfl Tryz.underlying89 rfl _ (k1.setRow _) (by rw [lims_len]; kernel_rfl)) rfl ⟨by rw [← hn.out, Nat.pow_zero, Nat.div_one], below_setRow kb zOm _⟩
  · obtain ⟨m, rfl⟩ : ∃ m, j = m + 1 := ⟨j - 1, by omega⟩
    have e : ((m + 1 : Nat) : Int) - 1 = (m : Int) := by omega
    rw [e]
    clear e
    go_wp2_with (first | (refine zLd ?_))
    refine (limAdd_any n n _).mono ?_
    rintro e w2 ⟨rfl, hb2⟩
    have k1 := k1.below hb2
    have k2 := k2.below hb2
    have kb := ext_trans kb (by have := kb.size; omega) hb2
    go_upto_region 6 with (first | (refine zSt ?_))
    have k2 := k2.setRow (lims 4 (n + n))
    have k1 := k1.row_other (k := w.heap.size + 1) zOm (lims 4 (n + n)).toArray
    have kb := below_setRow kb (g := w.heap.size + 1) zOm (lims 4 (n + n)).toArray
    generalize w2.setRow (w.heap.size + 1) (lims 4 (n + n)).toArray = w3 at *
    rw [← Nat.two_mul] at k2
    obtain ⟨x, hx⟩ : ∃ x, ls[m / 64]? = some x := ⟨_, List.getElem?_eq_getElem (by rw [hL'.out]; omega)⟩
    have hxl : x < 18446744073709551616 := hlt'.out x (List.mem_of_getElem? hx)
    have hbit : x / 2 ^ (m % 64) % 2 = V / 2 ^ m % 2 := by
     have h6 := bit_at V m
     have h7 := digs_get 18446744073709551616 L V (m / 64) zOm
     rw [hdig.out, hx] at h7
     rw [← Option.some.inj h7] at h6
     exact h6
    obtain ⟨t, ht⟩ : ∃ t, x / 2 ^ (m % 64) % 2 = t := ⟨_, rfl⟩
    have ht1 : t ≤ 1 := by omega
    have hxc := hc'.out _ _ hx
    have hand : bits BinOp.and IntKind.u64 ((x : Int) / 2 ^ (m % 64)) 1 = (t : Int) := by
     have e := bits_and_u64_nat (x / 2 ^ (m % 64)) 1 (by have := Nat.div_le_self x (2 ^ (m % 64)); omega) zDc
     rw [Nat.and_one_is_mod, ht] at e
     rw [← e]
     simp
    obtain ⟨y, hy⟩ : ∃ y, 2 * n % 18446744073709551616 = y := ⟨_, rfl⟩
    have hor := or_even y t zOm zOm ht1
    have hy0 := k2.cell (lims_get 4 (2 * n) 0 zDc)
    rw [Nat.pow_zero, Nat.div_one, hy] at hy0
    have hyf := k2.frozen 0
    have hx' := zH hx
    have hbit' := zH hbit
    have ht' := zH ht
    have hy' := zH hy
    have hxc' := zH hxc
    have hand' := zH hand
    have hor' := zH hor
    clear hx hbit ht hy hxc hand hor
    have im0 : (0 : Int) ≤ (m : Int) / 64 := by omega
    have im1 : (m : Int) / 64 < (L : Int) := by omega
    have im2 : IntKind.i64.wrap ((m : Int) / 64) = (m : Int) / 64 := i64_in zOm
    have im3 : ((m : Int) / 64).toNat = m / 64 := by omega
    have im4 : ((m : Int)).tmod 64 = (m : Int) % 64 := Int.tmod_eq_emod_of_nonneg zOm
    have im5 : IntKind.i64.wrap ((m : Int) % 64) = (m : Int) % 64 := i64_in zOm
    have im6 : (0 : Int) ≤ (m : Int) % 64 := by omega
    have im7 : ((m : Int) % 64).toNat = m % 64 := by omega
    simp only [Act.put]
    refine Tx.start (fun w' => Below (w3).heap.size (w3) w') 13 14 rfl zKr ?_
    have hS_1 : Below (w3).heap.size (w3) (World.drew w3) := (Below.refl _ _).drew
    refine Tx.seg (A := ?_) 1 8191 zKr (by exact (Below.refl _ _).drew) [0, 1, 2, 3, 4, 5, 6, 7, 8, 9, 10, 11, 12] zKr ?_ ?_
    rotate_left
    · intro w' hB
      have e1 : w'.cell? ⟨w.heap.size + 1, 0, none⟩ = some (.int .u64 (y : Int)) := by rw [hB.cell (by simpa using k2.lt)]; exact hy0
      have e2 : w'.cell? ⟨b, o + m / 64, none⟩ = some (.int .u64 (x : Int)) := by rw [hB.cell (by have := kb.size; simp; omega), kb.cell hb]; exact hxc'.out
      have e3 := hand'.out
      have e4 := hor'.out
      exact zRd
    have hyc : w3.drew.cell? ⟨w.heap.size + 1, 0, none⟩ = some (.int .u64 (y : Int)) := hy0
    have hyff : w3.drew.frozen? ⟨w.heap.size + 1, 0, none⟩ = false := hyf
    refine Tx.bar 16383 rfl zDk (fun K hK => ?_)
    go_simp
    refine hK (fun _ => True) 9999 _ _ ?_
    clear hK K
    try simp only [Act.put]
    try simp only [zSa, zSz, zSs]
    refine Tx.done zKr ?_
    have e5 := lims_set0 n t ht1
    rw [hy'.out, Int.natCast_add] at e5
    have k2 := k2.set 0 (.int .u64 ((y : Int) + (t : Int)))
    rw [e5] at k2
    clear e5
    have k1 := k1.other (a := ⟨w.heap.size + 1, 0, none⟩) (by simp) (.int .u64 ((y : Int) + (t : Int)))
    have kb := (kb.setCell (p := ⟨w.heap.size + 1, 0, none⟩) (by simp) (.int .u64 ((y : Int) + (t : Int)))).drew
    have k1 : Arr (w3.setCell ⟨w.heap.size + 1, 0, none⟩ (.int .u64 ((y : Int) + (t : Int)))).drew _ _ := k1
    have k2 : Arr (w3.setCell ⟨w.heap.size + 1, 0, none⟩ (.int .u64 ((y : Int) + (t : Int)))).drew _ _ := k2
    generalize (w3.setCell ⟨w.heap.size + 1, 0, none⟩ (.int .u64 ((y : Int) + (t : Int)))).drew = w4 at *
    clear hy0 hyf hyc hyff
    go_upto_region 7 with fail
    refine Tx.start (fun w' => Below (w4).heap.size (w4) w') 7 9 rfl zKr ?_
    have hS_2 : Below (w4).heap.size (w4) (World.drew w4) := (Below.refl _ _).drew
    refine Tx.seg (A := ?_) 8 1 zKr (by exact (Below.refl _ _).drew) [0] zKr ?_ ?_
    rotate_left
    · intro w' hB
      have e1 := k2.below hB
      exact zRd
    refine Tx.poolB 2 127 [(1, 36), (2, 37), (3, 34), (4, 38), (5, 39), (6, 5)] [(false, []), (false, [(1, 36)]), (true, [(2, 37)]), (true, [(3, 34)]), (true, [(3, 34)]), (false, [])] [(1, Ph.is (.agg (lims 4 qN).toArray)), (2, Ph.is (.tuple #[.agg (lims 4 (2 * n + t + 18446744073709551616 ^ 4 - qN)).toArray, .int .u64 (borrow 18446744073709551616 4 (2 * n + t) qN : Nat)])), (3, Ph.is (.tuple #[.agg (lims 4 (2 * n + t + 18446744073709551616 ^ 4 - qN)).toArray, .int .u64 (borrow 18446744073709551616 4 (2 * n + t) qN : Nat)])), (4, Ph.is (.agg (lims 4 (2 * n + t + 18446744073709551616 ^ 4 - qN)).toArray)), (5, Ph.is (.int .u64 (borrow 18446744073709551616 4 (2 * n + t) qN : Nat))), (6, Ph.arr w4.heap.size (lims 4 0))] zKr zKr (by first | assumption | exact (Below.refl _ _).drew) ?_ ?_
    · refine ⟨⟨_, rfl, ?_⟩, ⟨_, rfl, ?_⟩, ⟨_, rfl, ?_⟩, ⟨_, rfl, ?_⟩, ⟨_, rfl, ?_⟩, ⟨_, rfl, ?_⟩, trivial⟩
      · intro vs w1 hS hE hD K hK
        clear hD
        simp only [fillL, Act.put, zSa, zSz, zSs] at hK ⊢
        go_simp
        refine (order_any _).mono ?_
        rintro e w2 ⟨rfl, hb2⟩
        exact hK _ _ rfl hb2 nofun
      · intro vs w1 hS hE hD K hK
        obtain ⟨q1, -⟩ := hD
        simp only [fillL, Act.put, zSa, zSz, zSs] at hK ⊢
        rw [show vs 1 = _ from q1] at hK ⊢
        clear q1
        go_simp
        refine (limSub_any (2 * n + t) qN (by have := qN_lt; omega) _).mono ?_
        rintro e w2 ⟨rfl, hb2⟩
        exact hK _ _ rfl hb2 nofun
      · intro vs w1 hS hE hD
        obtain ⟨q2, -⟩ := hD
        simp only [fillL, Act.put, zSa, zSz, zSs] at ⊢
        rw [show vs 2 = _ from q2] at ⊢
        clear q2
        refine ⟨_, rfl, fun w' => (by first | (go_simp; done) | (go_simp; rfl)), rfl, nofun⟩
      · intro vs w1 hS hE hD
        obtain ⟨q3, -⟩ := hD
        simp only [fillL, Act.put, zSa, zSz, zSs] at ⊢
        rw [show vs 3 = _ from q3] at ⊢
        clear q3
        refine ⟨_, rfl, fun w' => (by first | (go_simp; done) | (go_simp; rfl)), rfl, nofun⟩
      · intro vs w1 hS hE hD
        obtain ⟨q3, -⟩ := hD
        simp only [fillL, Act.put, zSa, zSz, zSs] at ⊢
        rw [show vs 3 = _ from q3] at ⊢
        clear q3
        refine ⟨_, rfl, fun w' => (by first | (go_simp; done) | (go_simp; rfl)), rfl, nofun⟩
      · intro vs w1 hS hE hD K hK
        clear hD
        simp only [fillL, Act.put, zSa, zSz, zSs] at hK ⊢
        go_simp
        exact hK _ _ ⟨_, rfl, Nat.le_trans zLe hE.size, Arr.new _ _ _⟩ (below_alloc _ _) (fun _ => ⟨_, rfl, Nat.le_refl _⟩)
    intro vs w_p hS_p hE_p hP hD
    obtain ⟨q1, q2, q3, q4, q5, q6, -⟩ := hP
    simp only [fillL, Act.put, zSa, zSz, zSs]
    rw [show vs 1 = _ from q1]
    clear q1
    rw [show vs 2 = _ from q2]
    clear q2
    rw [show vs 3 = _ from q3]
    clear q3
    rw [show vs 4 = _ from q4]
    clear q4
    rw [show vs 5 = _ from q5]
    clear q5
    obtain ⟨g6, e6, hg6, ha6⟩ := q6
    rw [e6]
    clear e6 hD vs
    refine Tx.bar 255 rfl zDk (fun K hK => ?_)
    refine step_store_arr rfl _ _ _ rfl _ _ rfl rfl _ zAm zLn zLm zOn ?_
    refine hK (fun _ => True) 9999 _ _ ?_
    clear hK K
    try simp only [Act.put]
    try simp only [zSa, zSz, zSs]
    refine Tx.seg (A := ?_) 0 511 zKr (by exact trivial) [8] zKr ?_ ?_
    rotate_left
    · intro w' hB
      exact zRd
    refine Tx.done zKr ?_
    have hn5 : w.heap.size + 1 < g6 := Nat.lt_of_lt_of_le k2.lt hg6
    have k1 := (k1.below hS_p).row_other (k := g6) zOm (lims 4 (2 * n + t + 18446744073709551616 ^ 4 - qN)).toArray
    have k2 := (k2.below hS_p).row_other (k := g6) zOm (lims 4 (2 * n + t + 18446744073709551616 ^ 4 - qN)).toArray
    have k6 := ha6.setRow (lims 4 (2 * n + t + 18446744073709551616 ^ 4 - qN))
    have kb := below_setRow (ext_trans kb (by have := kb.size; omega) hS_p) (g := g6) zOm (lims 4 (2 * n + t + 18446744073709551616 ^ 4 - qN)).toArray
    generalize w_p.setRow g6 (lims 4 (2 * n + t + 18446744073709551616 ^ 4 - qN)).toArray = w5 at *
    have hbo := borrow_all (a := 2 * n + t) (b := qN) (by have := qN_lt; omega) zDc
    rw [hbo]
    have hstep := red_step V m _ t n rfl (by rw [← hbit'.out, ht'.out]) hn.out
    have hstep' := zH hstep
    clear hstep hbo ha6 hg6 hE_p hS_p
    by_cases hlq : 2 * n + t < qN
    · rw [if_pos hlq]
      go_wp2_with fail
      exact ⟨⟨m, _, by omega, rfl, by rw [hstep'.out, if_pos hlq], k1, k2, kb⟩, by simp [intOf]⟩
    · rw [if_neg hlq]
      go_wp2_with (first | (refine zLd ?_) | (refine zSt ?_))
      have e : lims 4 (2 * n + t + 18446744073709551616 ^ 4 - qN) = lims 4 (2 * n + t - qN) := lims_mod _ _ ⟨1, by omega⟩
      refine ⟨⟨m, _, by omega, rfl, by rw [hstep'.out, if_neg hlq], k1.row_other zOm _, ?_, below_setRow kb zOm _⟩, by simp [intOf]⟩
      rw [← e]
      exact k2.setRow _
def pN : Nat := 57896044618658097711785492504343953926634992332820282019728792003956564819949
theorem pN_pos : 0 < pN := by decide
theorem two256_p : 18446744073709551616 ^ 4 = 2 * pN + 38 := by decide
theorem lims_p : (lims 4 pN).toArray = #[.int .u64 18446744073709551597, .int .u64 18446744073709551615, .int .u64 18446744073709551615, .int .u64 9223372036854775807] := by kernel_rfl
theorem prime_any (w : World) : Calls Tryz.prog 124 #[] w fun e w' => e = .returned (.agg (lims 4 pN).toArray) ∧ Below w.heap.size w w' := by
 go_enter Tryz.func124, Tryz.ntmps124
 go_wp2_with fail
 refine bodyPost_ret (v := .agg (lims 4 pN).toArray) (by rw [lims_p]; simp [results, Tryz.results124, go_sem]) rfl ⟨rfl, ?_⟩
 exact ((below_alloc _ _))
theorem lims_small (x : Nat) (hx : x < 18446744073709551616) : (lims 4 x).toArray = #[.int .u64 (x : Int), .int .u64 0, .int .u64 0, .int .u64 0] := by
 have e : ∀ i, 0 < i → x / 18446744073709551616 ^ i % 18446744073709551616 = 0 := by
  intro i hi
  obtain ⟨j, rfl⟩ : ∃ j, i = j + 1 := ⟨i - 1, by omega⟩
  rw [Nat.pow_succ, Nat.mul_comm, ← Nat.div_div_eq_div_mul, Nat.div_eq_of_lt hx, Nat.zero_div]
 simp only [lims, digs, show List.range 4 = [0, 1, 2, 3] from by decide, List.map_cons, List.map_nil, Nat.pow_zero, Nat.div_one, Nat.mod_eq_of_lt hx]
 simp only [e 1 zDc, e 2 zDc, e 3 zDc]
 rfl
theorem lessen_any (n : Nat) (hn : n < 18446744073709551616 ^ 4) (w : World) :
 Calls Tryz.prog 86 #[.agg (lims 4 n).toArray] w fun e w' => e = .returned (.agg (lims 4 (n % pN)).toArray) ∧ Below w.heap.size w w' := by
 go_enter Tryz.func86, Tryz.ntmps86
 go_upto_region 1 with fail
 refine wp_new2 (fun W hsz h1 h2 hb0 => ?_)
 go_wp2_with fail
 go_loopw [5] (fun kv wr => ∃ (k m : Nat), k ≤ 2 ∧ kv = .int .i64 k ∧ m % pN = n % pN ∧ m < pN * (3 - k) ∧ m ≤ n ∧ Arr wr w.heap.size (lims 4 m) ∧ Arr wr (w.heap.size + 1) (lims 4 0) ∧ Below w.heap.size w wr) (fun kv _ => 2 - (intOf kv).toNat)
 case atStart => exact ⟨0, n, by omega, rfl, rfl, by have := two256_p; have : 38 < pN := zDc; omega, Nat.le_refl _, h1, h2, hb0⟩
 case round =>
  obtain ⟨k, m, hk, rfl, hm, hlt, hmn, k1, k2, kb⟩ := hrel
  have hm' := zH hm
  clear h1 h2 hb0 hsz hm
  by_cases hk2 : k < 2
  · have hpl : pN < 18446744073709551616 ^ 4 := by decide
    have hlt' := zH hlt
    clear hlt
    have hdk : decide ((k : Int) < 2) = true := by simp; omega
    go_upto_region 3 with fail
    refine Tx.start (fun w' => Below (wr).heap.size (wr) w') 7 9 rfl zKr ?_
    have hS_1 : Below (wr).heap.size (wr) (World.drew wr) := (Below.refl _ _).drew
    refine Tx.seg (A := ?_) 8 1 zKr (by exact hS_1) [0] zKr ?_ ?_
    rotate_left
    · intro w' hB
      have e1 := k1.below hB
      exact zRd
    refine Tx.poolB 2 127 [(1, 9), (2, 10), (3, 7), (4, 11), (5, 12), (6, 3)] [(false, []), (false, [(1, 9)]), (true, [(2, 10)]), (true, [(3, 7)]), (true, [(3, 7)]), (false, [])] [(1, Ph.is (.agg (lims 4 pN).toArray)), (2, Ph.is (.tuple #[.agg (lims 4 (m + 18446744073709551616 ^ 4 - pN)).toArray, .int .u64 (borrow 18446744073709551616 4 m pN : Nat)])), (3, Ph.is (.tuple #[.agg (lims 4 (m + 18446744073709551616 ^ 4 - pN)).toArray, .int .u64 (borrow 18446744073709551616 4 m pN : Nat)])), (4, Ph.is (.agg (lims 4 (m + 18446744073709551616 ^ 4 - pN)).toArray)), (5, Ph.is (.int .u64 (borrow 18446744073709551616 4 m pN : Nat))), (6, Ph.arr wr.heap.size (lims 4 0))] zKr zKr (by first | assumption | exact (Below.refl _ _).drew) ?_ ?_
    · refine ⟨⟨_, rfl, ?_⟩, ⟨_, rfl, ?_⟩, ⟨_, rfl, ?_⟩, ⟨_, rfl, ?_⟩, ⟨_, rfl, ?_⟩, ⟨_, rfl, ?_⟩, trivial⟩
      · intro vs w1 hS hE hD K hK
        clear hD
        simp only [fillL, Act.put, zSa, zSz, zSs] at hK ⊢
        go_simp
        refine (prime_any _).mono ?_
        rintro e w2 ⟨rfl, hb2⟩
        exact hK _ _ rfl hb2 nofun
      · intro vs w1 hS hE hD K hK
        obtain ⟨q1, -⟩ := hD
        simp only [fillL, Act.put, zSa, zSz, zSs] at hK ⊢
        rw [show vs 1 = _ from q1] at hK ⊢
        clear q1
        go_simp
        refine (limSub_any m pN zOm _).mono ?_
        rintro e w2 ⟨rfl, hb2⟩
        exact hK _ _ rfl hb2 nofun
      · intro vs w1 hS hE hD
        obtain ⟨q2, -⟩ := hD
        simp only [fillL, Act.put, zSa, zSz, zSs] at ⊢
        rw [show vs 2 = _ from q2] at ⊢
        clear q2
        refine ⟨_, rfl, fun w' => (by first | (go_simp; done) | (go_simp; rfl)), rfl, nofun⟩
      · intro vs w1 hS hE hD
        obtain ⟨q3, -⟩ := hD
        simp only [fillL, Act.put, zSa, zSz, zSs] at ⊢
        rw [show vs 3 = _ from q3] at ⊢
        clear q3
        refine ⟨_, rfl, fun w' => (by first | (go_simp; done) | (go_simp; rfl)), rfl, nofun⟩
      · intro vs w1 hS hE hD
        obtain ⟨q3, -⟩ := hD
        simp only [fillL, Act.put, zSa, zSz, zSs] at ⊢
        rw [show vs 3 = _ from q3] at ⊢
        clear q3
        refine ⟨_, rfl, fun w' => (by first | (go_simp; done) | (go_simp; rfl)), rfl, nofun⟩
      · intro vs w1 hS hE hD K hK
        clear hD
        simp only [fillL, Act.put, zSa, zSz, zSs] at hK ⊢
        go_simp
        exact hK _ _ ⟨_, rfl, Nat.le_trans zLe hE.size, Arr.new _ _ _⟩ (below_alloc _ _) (fun _ => ⟨_, rfl, Nat.le_refl _⟩)
    intro vs w_p hS_p hE_p hP hD
    obtain ⟨q1, q2, q3, q4, q5, q6, -⟩ := hP
    simp only [fillL, Act.put, zSa, zSz, zSs]
    rw [show vs 1 = _ from q1]
    clear q1
    rw [show vs 2 = _ from q2]
    clear q2
    rw [show vs 3 = _ from q3]
    clear q3
    rw [show vs 4 = _ from q4]
    clear q4
    rw [show vs 5 = _ from q5]
    clear q5
    obtain ⟨g6, e6, hg6, ha6⟩ := q6
    rw [e6]
    clear e6 hD vs
    refine Tx.bar 255 rfl zDk (fun K hK => ?_)
    refine step_store_arr rfl _ _ _ rfl _ _ rfl rfl _ zAm zLn zLm zOn ?_
    refine hK (fun _ => True) 9999 _ _ ?_
    clear hK K
    try simp only [Act.put]
    try simp only [zSa, zSz, zSs]
    refine Tx.seg (A := ?_) 0 511 zKr (by exact trivial) [8] zKr ?_ ?_
    rotate_left
    · intro w' hB
      exact zRd
    refine Tx.done zKr ?_
    have hn5 : w.heap.size + 1 < g6 := Nat.lt_of_lt_of_le k2.lt hg6
    refine then_row ha6 (fun w5 k6 hoth hbel => ?_)
    have k1 := hoth _ _ zOm (k1.below hS_p)
    have k2 := hoth _ _ zOm (k2.below hS_p)
    have kb := hbel _ _ zOm (bel kb hS_p)
    clear hoth hbel ha6 hg6 hE_p hS_p
    rw [borrow_all (a := m) (b := pN) zOm hpl]
    have hpp := pN_pos
    by_cases hlq : m < pN
    · rw [if_pos hlq]
      go_wp2_with fail
      refine ⟨⟨k + 1, m, by omega, by go_num, hm'.out, ?_, hmn, k1, k2, kb⟩, by simp [intOf]; omega⟩
      exact Nat.lt_of_lt_of_le hlq (Nat.le_mul_of_pos_right _ zOm)
    · rw [if_neg hlq]
      go_wp2_with (first | (refine zLd ?_) | (refine zSt ?_))
      have e : lims 4 (m + 18446744073709551616 ^ 4 - pN) = lims 4 (m - pN) := lims_mod _ _ ⟨1, by omega⟩
      refine ⟨⟨k + 1, m - pN, by omega, by go_num, ?_, ?_, by omega, ?_, k2.row_other zOm _, below_setRow kb zOm _⟩, by simp [intOf]; omega⟩
      · rw [← hm'.out]; exact (Nat.mod_eq_sub_mod zOm).symm
      · have h7 := hlt'.out
        have e2 : pN * (3 - k) = pN * (3 - (k + 1)) + pN := by rw [show 3 - k = (3 - (k + 1)) + 1 by omega, Nat.mul_add, Nat.mul_one]
        omega
      · rw [← e]
        exact k1.setRow _
  · obtain rfl : k = 2 := by omega
    have e : m = n % pN := by rw [← hm'.out, Nat.mod_eq_of_lt zOm]
    clear hlt
    subst e
    go_wp2_with (first | (refine zLd ?_) | (refine zSt ?_))
    exact bodyPost_ret (results_arr2 Tryz.results86 _ _ _ rfl zKr _ (by first | assumption | exact Arr.setRow zAm _) zLn) rfl ⟨rfl, below_setRow kb zOm _⟩
theorem mul38 (c : Nat) (hc : 38 * c < 18446744073709551616) : IntKind.u64.wrap (38 * (c : Int)) = ((38 * c : Nat) : Int) := by rw [IntKind.wrap_u64]; omega
theorem carry_all {a b : Nat} (ha : a < 18446744073709551616 ^ 4) (hb : b < 18446744073709551616 ^ 4) : carry 18446744073709551616 4 a b = (a + b) / 18446744073709551616 ^ 4 := by
 unfold carry
 rw [Nat.mod_eq_of_lt ha, Nat.mod_eq_of_lt hb]
theorem lims_cut (n : Nat) : lims 4 n = lims 4 (n % 18446744073709551616 ^ 4) :=
 lims_mod _ _ ⟨n / 18446744073709551616 ^ 4, (Nat.mod_add_div _ _).symm⟩
theorem mod_38 (n c : Nat) : (n + 18446744073709551616 ^ 4 * c) % pN = (n + 38 * c) % pN := by
 rw [two256_p, Nat.add_mul, show n + (2 * pN * c + 38 * c) = n + 38 * c + pN * (2 * c) by rw [Nat.mul_comm 2 pN, Nat.mul_assoc]; omega, Nat.add_mul_mod_self_left]
theorem limAddS_any (n x : Nat) (hx : x < 18446744073709551616) (w : World) :
 Calls Tryz.prog 83 #[.agg (lims 4 n).toArray, .agg #[.int .u64 (x : Int), .int .u64 0, .int .u64 0, .int .u64 0]] w fun e w' =>
  e = .returned (.tuple #[.agg (lims 4 (n + x)).toArray, .int .u64 (carry 18446744073709551616 4 n x : Nat)]) ∧ Below w.heap.size w w' := by
 rw [← lims_small x hx]
 exact limAdd_any n x w
theorem fold_any (n c : Nat) (hn : n < 18446744073709551616 ^ 4) (hc : 38 * c < 18446744073709551616) (w : World) :
 Calls Tryz.prog 123 #[.agg (lims 4 n).toArray, .int .u64 c] w fun e w' => e = .returned (.agg (lims 4 ((n + 18446744073709551616 ^ 4 * c) % pN)).toArray) ∧ Below w.heap.size w w' := by
 have h38 := mul38 c hc
 obtain ⟨x, hx⟩ : ∃ x, 38 * c = x := ⟨_, rfl⟩
 obtain ⟨c1, hc1⟩ : ∃ c1, carry 18446744073709551616 4 n x = c1 := ⟨_, rfl⟩
 obtain ⟨n1, hn1⟩ : ∃ n1, (n + x) % 18446744073709551616 ^ 4 = n1 := ⟨_, rfl⟩
 have hxl : x < 18446744073709551616 := hx ▸ hc
 have hx4 : x < 18446744073709551616 ^ 4 := Nat.lt_trans hxl zDc
 have hca := carry_all hn hx4
 have hcl : c1 ≤ 1 := hc1 ▸ carry_le _ _ _ _ zDc
 have hdm := Nat.mod_add_div (n + x) (18446744073709551616 ^ 4)
 rw [← hca, hc1, hn1] at hdm
 have hn1l : n1 < 18446744073709551616 ^ 4 := hn1 ▸ Nat.mod_lt _ zDc
 have e38 : 38 * c1 < 18446744073709551616 := by omega
 have h381 := mul38 c1 e38
 obtain ⟨y, hy⟩ : ∃ y, 38 * c1 = y := ⟨_, rfl⟩
 have hyl : y < 18446744073709551616 := hy ▸ e38
 have hsum : n1 + y < 18446744073709551616 ^ 4 := by omega
 have hmod : (n1 + y) % pN = (n + 18446744073709551616 ^ 4 * c) % pN := by rw [mod_38, hx, ← hdm, mod_38, hy]
 have hl1 : lims 4 (n + x) = lims 4 n1 := by rw [lims_cut, hn1]
 rw [hx] at h38
 rw [hy] at h381
 replace hmod := zH hmod
 have a1 := fun w => limAddS_any n x hxl w
 rw [hl1, hc1] at a1
 replace a1 := zH a1
 have a2 := zH (fun w => limAddS_any n1 y hyl w)
 have a3 := zH (fun w => lessen_any (n1 + y) hsum w)
 clear hx hc1 hn1 hx4 hca hcl hdm hn1l e38 hy hsum hl1 hc hn
 rw [← hmod.out]
 go_enter Tryz.func123, Tryz.ntmps123
 go_upto_region 1 with fail
 refine wp_new2 (fun W hsz k1 k2 kb => ?_)
 have k2 : Arr W (w.heap.size + 1) (lims 4 0) := k2
 go_wp2_with (first | (refine zLd ?_) | (refine zSt ?_))
 refine (a1.out _).mono ?_
 rintro e w_1 ⟨rfl, hb_1⟩
 have k1 := k1.below hb_1
 have k2 := k2.below hb_1
 have kb := bel kb hb_1
 clear hb_1
 go_upto_region 2 with (first | (refine zLd ?_) | (refine zSt ?_))
 refine code_row k1 (fun w_2 k1 hoth hbel => ?_)
 have k2 := hoth _ _ zOm k2
 have kb := hbel _ _ zOm kb
 clear hoth hbel
 go_wp2_with (first | (refine zLd ?_) | (refine zSt ?_))
 refine (a2.out _).mono ?_
 rintro e w_3 ⟨rfl, hb_3⟩
 have k1 := k1.below hb_3
 have k2 := k2.below hb_3
 have kb := bel kb hb_3
 clear hb_3
 go_upto_region 3 with (first | (refine zLd ?_) | (refine zSt ?_))
 simp only [Act.put]
 refine code_row k1 (fun w_4 k1 hoth hbel => ?_)
 have k2 := hoth _ _ zOm k2
 have kb := hbel _ _ zOm kb
 clear hoth hbel
 go_wp2_with (first | (refine zLd ?_) | (refine zSt ?_))
 refine (a3.out _).mono ?_
 rintro e w_5 ⟨rfl, hb_5⟩
 have k2 := k2.below hb_5
 have kb := bel kb hb_5
 clear hb_5
 go_wp2_with (first | (refine zLd ?_) | (refine zSt ?_))
 exact bodyPost_ret (results_arr2 Tryz.results123 _ _ _ rfl zKr _ (by first | assumption | exact Arr.setRow zAm _) zLn) rfl ⟨rfl, below_setRow kb zOm _⟩
theorem plus_any (a b : Nat) (ha : a < 18446744073709551616 ^ 4) (hb : b < 18446744073709551616 ^ 4) (w : World) :
 Calls Tryz.prog 88 #[.agg (lims 4 a).toArray, .agg (lims 4 b).toArray] w fun e w' => e = .returned (.agg (lims 4 ((a + b) % pN)).toArray) ∧ Below w.heap.size w w' := by
 have hca := carry_all ha hb
 obtain ⟨c, hc⟩ : ∃ c, carry 18446744073709551616 4 a b = c := ⟨_, rfl⟩
 obtain ⟨n, hn⟩ : ∃ n, (a + b) % 18446744073709551616 ^ 4 = n := ⟨_, rfl⟩
 have hcl : c ≤ 1 := hc ▸ carry_le _ _ _ _ zDc
 have hdm := Nat.mod_add_div (a + b) (18446744073709551616 ^ 4)
 rw [← hca, hc, hn] at hdm
 have hnl : n < 18446744073709551616 ^ 4 := hn ▸ Nat.mod_lt _ zDc
 have hl : lims 4 (a + b) = lims 4 n := by rw [lims_cut, hn]
 have a1 := fun w => limAdd_any a b w
 rw [hl, hc] at a1
 replace a1 := zH a1
 have a2 := fun w => fold_any n c hnl zOm w
 rw [hdm] at a2
 replace a2 := zH a2
 clear hca hc hn hcl hdm hnl hl ha hb
 go_enter Tryz.func88, Tryz.ntmps88
 go_upto_region 1 with fail
 refine wp_new3 (fun W hsz k1 k2 k3 kb => ?_)
 have k3 : Arr W (w.heap.size + 1 + 1) (lims 4 0) := k3
 go_wp2_with (first | (refine zLd ?_) | (refine zSt ?_))
 refine (a1.out _).mono ?_
 rintro e w_6 ⟨rfl, hb_6⟩
 have k3 := k3.below hb_6
 have kb := bel kb hb_6
 clear hb_6
 go_upto_region 2 with (first | (refine zLd ?_) | (refine zSt ?_))
 refine code_new (fun w9 k4 hb9 => ?_)
 have k3 := k3.below hb9
 have kb := bel kb hb9
 clear hb9 k1 k2
 go_wp2_with (first | (refine zLd ?_) | (refine zSt ?_))
 refine (a2.out _).mono ?_
 rintro e w_7 ⟨rfl, hb_7⟩
 have k3 := k3.below hb_7
 have kb := bel kb hb_7
 clear hb_7
 go_wp2_with (first | (refine zLd ?_) | (refine zSt ?_))
 exact bodyPost_ret (results_arr2 Tryz.results88 _ _ _ rfl zKr _ (by first | assumption | exact Arr.setRow zAm _) zLn) rfl ⟨rfl, below_setRow kb zOm _⟩
theorem minus_any (a b : Nat) (ha : a < pN) (hb : b < pN) (w : World) :
 Calls Tryz.prog 87 #[.agg (lims 4 a).toArray, .agg (lims 4 b).toArray] w fun e w' => e = .returned (.agg (lims 4 ((a + pN - b) % pN)).toArray) ∧ Below w.heap.size w w' := by
 have hp4 : 2 * pN < 18446744073709551616 ^ 4 := by decide
 have hbo := borrow_all (a := a) (b := b) zOm zOm
 have a1 := limSub_any a b zOm
 rw [hbo] at a1
 by_cases hlt : a < b
 · rw [if_pos hlt] at a1
   have hl : lims 4 (a + 18446744073709551616 ^ 4 - b + pN) = lims 4 ((a + pN - b) % pN) := by
    rw [Nat.mod_eq_of_lt zOm]
    exact lims_mod _ _ ⟨1, by omega⟩
   have a2 := fun w => limAdd_any (a + 18446744073709551616 ^ 4 - b) pN w
   rw [hl] at a2
   obtain ⟨s, hs⟩ : ∃ s, a + 18446744073709551616 ^ 4 - b = s := ⟨_, rfl⟩
   rw [hs] at a1 a2
   replace a1 := zH a1
   replace a2 := zH a2
   clear hbo hlt hl hs ha hb hp4
   go_enter Tryz.func87, Tryz.ntmps87
   go_upto_region 1 with fail
   refine wp_new3 (fun W hsz k1 k2 k3 kb => ?_)
   have k3 : Arr W (w.heap.size + 1 + 1) (lims 4 0) := k3
   go_wp2_with (first | (refine zLd ?_) | (refine zSt ?_))
   refine (a1.out _).mono ?_
   rintro e w_8 ⟨rfl, hb_8⟩
   have k3 := k3.below hb_8
   have kb := bel kb hb_8
   clear hb_8
   go_upto_region 2 with (first | (refine zLd ?_) | (refine zSt ?_))
   refine code_new (fun w9 k4 hb9 => ?_)
   have hg4 := k3.lt
   have k3 := k3.below hb9
   have kb := bel kb hb9
   clear hb9 k1 k2
   go_upto_region 3 with fail
   refine Tx.start (fun w' => Below (w9).heap.size (w9) w') 6 7 rfl zKr ?_
   have hS_9 : Below (w9).heap.size (w9) (World.drew w9) := (Below.refl _ _).drew
   refine Tx.seg (A := ?_) 6 1 zKr (by exact hS_9) [0] zKr ?_ ?_
   rotate_left
   · intro w' hB
     have e1 := k4.below hB
     exact zRd
   refine Tx.eff 1 3 rfl zDk (fun K hK => ?_)
   go_simp
   refine (prime_any _).mono ?_
   rintro e w_10 ⟨rfl, hb_10⟩
   have hS_10 := ext_trans hS_9 (Nat.le_refl _) hb_10
   refine hK (fun w' => Below (w9).heap.size (w9) w') _ _ hS_10 (fun _ h => h) ?_
   clear hK K hb_10 hS_9
   try simp only [Act.put, zSa, zSz, zSs]
   refine Tx.eff 2 7 rfl zDk (fun K hK => ?_)
   go_simp
   refine (a2.out _).mono ?_
   rintro e w_11 ⟨rfl, hb_11⟩
   have hS_11 := ext_trans hS_10 (Nat.le_refl _) hb_11
   refine hK (fun w' => Below (w9).heap.size (w9) w') _ _ hS_11 (fun _ h => h) ?_
   clear hK K hb_11 hS_10
   try simp only [Act.put, zSa, zSz, zSs]
   refine Tx.pure (A := ?_) 1 63 zKr (by exact hS_11) [3, 4, 5] zKr ?_ ?_
   rotate_left
   · intro w'
     iterate 3 (first | (refine rd_skip rfl rfl ?_; simp only [Act.put, zSa, zSz, zSs]) | (refine rd_take (v := ?_) rfl rfl ?_ ?_; rotate_left; (focus (go_simp; try (with_reducible rfl))); simp only [Act.put, zSa, zSz, zSs]))
     exact rd_nil
   have k4 := k4.below hS_11
   have k3 := k3.below hS_11
   have kb := bel kb hS_11
   refine Tx.bar 127 rfl zDk (fun K hK => ?_)
   refine step_store_arr rfl _ _ _ rfl _ _ rfl rfl _ zAm zLn zLm zOn ?_
   refine hK (fun _ => True) 9999 _ _ ?_
   clear hK K
   try simp only [Act.put]
   try simp only [zSa, zSz, zSs]
   refine Tx.done zKr ?_
   refine then_row k4 (fun w_12 k4 hoth hbel => ?_)
   have k3 := hoth _ _ zOm k3
   have kb := hbel _ _ zOm kb
   clear hoth hbel
   go_wp2_with (first | (refine zLd ?_) | (refine zSt ?_))
   exact bodyPost_ret (results_arr2 Tryz.results87 _ _ _ rfl zKr _ (by first | assumption | exact Arr.setRow zAm _) zLn) rfl ⟨rfl, below_setRow kb zOm _⟩
 · rw [if_neg hlt] at a1
   have hl : lims 4 (a + 18446744073709551616 ^ 4 - b) = lims 4 ((a + pN - b) % pN) := by
    rw [show a + pN - b = (a - b) + pN by omega, Nat.add_mod_right, Nat.mod_eq_of_lt zOm]
    exact lims_mod _ _ ⟨1, by omega⟩
   rw [hl] at a1
   replace a1 := zH a1
   clear hbo hlt hl ha hb hp4
   go_enter Tryz.func87, Tryz.ntmps87
   go_upto_region 1 with fail
   refine wp_new3 (fun W hsz k1 k2 k3 kb => ?_)
   have k3 : Arr W (w.heap.size + 1 + 1) (lims 4 0) := k3
   go_wp2_with (first | (refine zLd ?_) | (refine zSt ?_))
   refine (a1.out _).mono ?_
   rintro e w_13 ⟨rfl, hb_13⟩
   have k3 := k3.below hb_13
   have kb := bel kb hb_13
   clear hb_13
   go_upto_region 2 with (first | (refine zLd ?_) | (refine zSt ?_))
   refine code_new (fun w9 k4 hb9 => ?_)
   have k3 := k3.below hb9
   have kb := bel kb hb9
   clear hb9 k1 k2
   go_wp2_with (first | (refine zLd ?_) | (refine zSt ?_))
   exact bodyPost_ret (results_arr2 Tryz.results87 _ _ _ rfl zKr _ (by first | assumption | exact Arr.setRow zAm _) zLn) rfl ⟨rfl, below_setRow kb zOm _⟩
end Go.Proofs.YtncnlfpiondpnaaGreat
