/- scalar: order, reduce. -/
import Derived.Test.YtdcbpilibaigmaaDoorLm8
import Derived.Test.YtdcbpilibaigmaaDoorTx
namespace Go.Proofs.YtdcbpilibaigmaaDoor
open Go.RowKit

/-- The order of the base point. -/
def qN : Nat := 7237005577332262213973186563042994240857116359379907606001950938285454250989

theorem lims_q : (lims 4 qN).toArray = #[.int .u64 6346243789798364141, .int .u64 1503914060200516822, .int .u64 0, .int .u64 1152921504606846976] := by kernel_rfl
theorem qN_lt : 2 * qN < 18446744073709551616 ^ 4 := by decide
theorem qN_pos : 0 < qN := by decide

theorem order_any (w : World) : Calls Tryd.prog 26 #[] w fun e w' => e = .returned (.agg (lims 4 qN).toArray) ∧ Below w.heap.size w w' := by
  go_enter Tryd.func26, Tryd.ntmps26
  go_wp2_with fail
  refine bodyPost_ret (v := .agg (lims 4 qN).toArray) (by rw [lims_q]; simp [results, Tryd.results26, go_sem]) rfl ⟨rfl, ?_⟩
  exact ((below_alloc _ _))

theorem lims_mod (k n : Nat) (h : ∃ c, k = n + 18446744073709551616 ^ 4 * c) : lims 4 k = lims 4 n := by
  obtain ⟨c, rfl⟩ := h
  unfold lims
  congr 1
  unfold digs
  apply List.map_congr_left
  intro i hi
  simp only [List.mem_range] at hi
  have e : (18446744073709551616 : Nat) ^ 4 * c = 18446744073709551616 ^ i * (18446744073709551616 * (18446744073709551616 ^ (3 - i) * c)) := by
    rw [← Nat.mul_assoc, ← Nat.mul_assoc, Nat.mul_assoc _ 18446744073709551616, ← Nat.pow_succ', ← Nat.pow_add, show i + (3 - i).succ = 4 by omega]
  rw [e, Nat.add_mul_div_left _ _ (Nat.pow_pos (by decide)), Nat.add_mul_mod_self_left]

theorem red_step (V m X b r : Nat) (hX : V / 2 ^ (m + 1) = X) (hb : V / 2 ^ m % 2 = b) (hr : X % qN = r) : V / 2 ^ m % qN = if 2 * r + b < qN then 2 * r + b else 2 * r + b - qN := by
  have e : V / 2 ^ m = 2 * X + b := by
    rw [← hX, Nat.pow_succ, ← Nat.div_div_eq_div_mul]; omega
  have hb2 : b ≤ 1 := by omega
  have hq := qN_pos
  have h1 := Nat.div_add_mod X qN
  have h2 := Nat.mod_lt X hq
  rw [e]
  have e2 : 2 * X + b = (2 * r + b) + qN * (2 * (X / qN)) := by
    rw [hr] at h1
    have : qN * (2 * (X / qN)) = 2 * (qN * (X / qN)) := Nat.mul_left_comm _ _ _
    omega
  rw [e2, Nat.add_mul_mod_self_left]
  by_cases h : 2 * r + b < qN
  · rw [if_pos h, Nat.mod_eq_of_lt h]
  · rw [if_neg h, Nat.mod_eq_sub_mod (by omega), Nat.mod_eq_of_lt (by omega)]

theorem lims_set0 (n b : Nat) (hb : b ≤ 1) : (lims 4 (2 * n)).set 0 (.int .u64 (((2 * n) % 18446744073709551616 + b : Nat) : Int)) = lims 4 (2 * n + b) := by
  apply List.ext_getElem?
  intro j
  by_cases hj : j < 4
  · rw [List.getElem?_set, lims_get _ _ _ hj, lims_get _ _ _ hj, lims_len]
    by_cases h0 : 0 = j
    · subst h0
      rw [if_pos rfl, if_pos (by decide)]
      congr 3
      simp only [Nat.pow_zero, Nat.div_one]
      omega
    · rw [if_neg h0]
      obtain ⟨i, rfl⟩ : ∃ i, j = i + 1 := ⟨j - 1, by omega⟩
      have e : (2 * n + b) / 18446744073709551616 ^ (i + 1) = (2 * n) / 18446744073709551616 ^ (i + 1) := by
        rw [Nat.pow_succ, Nat.mul_comm (18446744073709551616 ^ i), ← Nat.div_div_eq_div_mul, ← Nat.div_div_eq_div_mul]
        congr 1
        omega
      rw [e]
  · rw [List.getElem?_eq_none (by rw [List.length_set, lims_len]; omega), List.getElem?_eq_none (by rw [lims_len]; omega)]

theorem or_even (x b : Nat) (hx : x < 18446744073709551616) (he : x % 2 = 0) (hb : b ≤ 1) : bits .or .u64 (x : Int) (b : Int) = ((x + b : Nat) : Int) := by
  rw [u64_or_nat _ _ hx (by omega)]
  congr 1
  have h : b = 0 ∨ b = 1 := by omega
  rcases h with rfl | rfl
  · simp
  · have := Nat.two_pow_add_eq_or_of_lt (i := 1) (b := 1) (by decide) (x / 2)
    have e : 2 ^ 1 * (x / 2) = x := by omega
    rw [e] at this
    exact this.symm

set_option maxHeartbeats 2000000 in
set_option maxRecDepth 100000 in
theorem reduce_any (ls : List Nat) (b o cap : Nat) (w : World) (hl0 : 0 < ls.length) (hl : ls.length ≤ 16) (hlt : ∀ d ∈ ls, d < 18446744073709551616)
    (hc : ∀ j x, ls[j]? = some x → w.cell? ⟨b, o + j, none⟩ = some (.int .u64 (x : Nat))) :
    Calls Tryd.prog 21 #[.slice (some ⟨b, o, none⟩) ls.length cap] w fun e w' => e = .returned (.agg (lims 4 (val 18446744073709551616 ls % qN)).toArray) ∧ Below w.heap.size w w' := by
  obtain ⟨V, hV⟩ : ∃ V, val 18446744073709551616 ls = V := ⟨_, rfl⟩
  have hdig := digs_val 18446744073709551616 (by decide) ls hlt
  rw [hV] at hdig ⊢
  have hVl := val_lt 18446744073709551616 (by decide) ls hlt
  rw [hV] at hVl
  have hb : b < w.heap.size := World.block_lt_of_cell? w ⟨b, o + 0, none⟩ (hc 0 _ (List.getElem?_eq_getElem hl0))
  obtain ⟨L, hL⟩ : ∃ L, ls.length = L := ⟨_, rfl⟩
  rw [hL] at hl0 hl hdig hVl ⊢
  have hdig := Lib.hid hdig
  have hc' := Lib.hid hc
  have hV' := Lib.hid hV
  have hL' := Lib.hid hL
  have hlt' := Lib.hid hlt
  clear hlt hc hV hL
  go_enter Tryd.func21, Tryd.ntmps21
  go_upto_region 2 with fail
  refine wp_new2 (fun W hsz h1 h2 hb0 => ?_)
  go_wp2_with fail
  go_loopw [4] (fun kv wr => ∃ (j n : Nat), j ≤ 64 * L ∧ kv = .int .i64 ((j : Int) - 1) ∧ V / 2 ^ j % qN = n ∧ Arr wr w.heap.size (lims 4 0) ∧ Arr wr (w.heap.size + 1) (lims 4 n) ∧ Below w.heap.size w wr) (fun kv _ => (intOf kv + 1).toNat)
  case atStart =>
    refine ⟨64 * L, 0, Nat.le_refl _, ?_, ?_, h1, h2, hb0⟩
    · have e : ((64 * L : Nat) : Int) - 1 = (L : Int) * 64 - 1 := by omega
      rw [e]
    · have e : (2 : Nat) ^ (64 * L) = 18446744073709551616 ^ L := by rw [Nat.pow_mul]
      rw [e, Nat.div_eq_of_lt hVl, Nat.zero_mod]
  case round =>
    obtain ⟨j, n, hj, rfl, hn, k1, k2, kb⟩ := hrel
    clear h1 h2 hb0 hsz
    have hnq : n < qN := by rw [← hn]; exact Nat.mod_lt _ qN_pos
    have hn := Lib.hid hn
    have hVl := Lib.hid hVl
    rcases Nat.eq_zero_or_pos j with rfl | hj0
    · have e : ((0 : Nat) : Int) - 1 = -1 := rfl
      rw [e]
      go_wp2_with (first | (refine wpList_load_arr2 rfl _ _ rfl _ rfl (by kernel_rfl) _ (by assumption) (by first | (rw [lims_len]; kernel_rfl) | (rw [el_rep]; kernel_rfl) | (rw [el_len]; kernel_rfl) | (rw [byts_len]; kernel_rfl) | (rw [us_len]; kernel_rfl) | kernel_rfl) ?_) | (refine wpList_store_arr rfl _ _ _ rfl _ _ rfl rfl _ (by first | assumption | exact Arr.new _ _ _) (by first | (rw [lims_len]; kernel_rfl) | (rw [el_rep]; kernel_rfl) | (rw [el_len]; kernel_rfl) | (rw [byts_len]; kernel_rfl) | (rw [us_len]; kernel_rfl) | kernel_rfl) (by first | (rw [lims_len, lims_len]) | (rw [el_rep, el_rep]) | (rw [el_rep, el_len]; rfl) | (rw [el_len, el_rep]; rfl) | (rw [el_len, el_len]; rfl) | (rw [byts_len, byts_len]) | (rw [lims_len]; rfl) | (rw [byts_len]; rfl) | (rw [us_len, us_len]; rfl) | rfl) (by first | exact lims_one _ _ | exact el_one _ | exact byts_one _ | exact us_one _ | (intro v hv; simp at hv; rcases hv with rfl | rfl | rfl | rfl <;> rfl)) ?_))
      refine bodyPost_ret (v := .agg (lims 4 n).toArray) (results_arr Tryd.results21 _ _ w.heap.size _ rfl Tryd.underlying37 rfl _ (k1.setRow _) (by rw [lims_len]; kernel_rfl)) rfl ⟨by rw [← hn.out, Nat.pow_zero, Nat.div_one], below_setRow kb (by omega) _⟩
    · obtain ⟨m, rfl⟩ : ∃ m, j = m + 1 := ⟨j - 1, by omega⟩
      have e : ((m + 1 : Nat) : Int) - 1 = (m : Int) := by omega
      rw [e]
      clear e
      go_wp2_with (first | (refine wpList_load_arr2 rfl _ _ rfl _ rfl (by kernel_rfl) _ (by assumption) (by first | (rw [lims_len]; kernel_rfl) | (rw [el_rep]; kernel_rfl) | (rw [el_len]; kernel_rfl) | (rw [byts_len]; kernel_rfl) | (rw [us_len]; kernel_rfl) | kernel_rfl) ?_))
      refine (limAdd_any n n _).mono ?_
      rintro e w2 ⟨rfl, hb2⟩
      have k1 := k1.below hb2
      have k2 := k2.below hb2
      have kb := ext_trans kb (by have := kb.size; omega) hb2
      go_upto_region 6 with (first | (refine wpList_store_arr rfl _ _ _ rfl _ _ rfl rfl _ (by first | assumption | exact Arr.new _ _ _) (by first | (rw [lims_len]; kernel_rfl) | (rw [el_rep]; kernel_rfl) | (rw [el_len]; kernel_rfl) | (rw [byts_len]; kernel_rfl) | (rw [us_len]; kernel_rfl) | kernel_rfl) (by first | (rw [lims_len, lims_len]) | (rw [el_rep, el_rep]) | (rw [el_rep, el_len]; rfl) | (rw [el_len, el_rep]; rfl) | (rw [el_len, el_len]; rfl) | (rw [byts_len, byts_len]) | (rw [lims_len]; rfl) | (rw [byts_len]; rfl) | (rw [us_len, us_len]; rfl) | rfl) (by first | exact lims_one _ _ | exact el_one _ | exact byts_one _ | exact us_one _ | (intro v hv; simp at hv; rcases hv with rfl | rfl | rfl | rfl <;> rfl)) ?_))
      have k2 := k2.setRow (lims 4 (n + n))
      have k1 := k1.row_other (k := w.heap.size + 1) (by omega) (lims 4 (n + n)).toArray
      have kb := below_setRow kb (g := w.heap.size + 1) (by omega) (lims 4 (n + n)).toArray
      generalize w2.setRow (w.heap.size + 1) (lims 4 (n + n)).toArray = w3 at *
      rw [← Nat.two_mul] at k2
      obtain ⟨x, hx⟩ : ∃ x, ls[m / 64]? = some x := ⟨_, List.getElem?_eq_getElem (by rw [hL'.out]; omega)⟩
      have hxl : x < 18446744073709551616 := hlt'.out x (List.mem_of_getElem? hx)
      have hbit : x / 2 ^ (m % 64) % 2 = V / 2 ^ m % 2 := by
        have h6 := bit_at V m
        have h7 := digs_get 18446744073709551616 L V (m / 64) (by omega)
        rw [hdig.out, hx] at h7
        rw [← Option.some.inj h7] at h6
        exact h6
      obtain ⟨t, ht⟩ : ∃ t, x / 2 ^ (m % 64) % 2 = t := ⟨_, rfl⟩
      have ht1 : t ≤ 1 := by omega
      have hxc := hc'.out _ _ hx
      have hand : bits BinOp.and IntKind.u64 ((x : Int) / 2 ^ (m % 64)) 1 = (t : Int) := by
        have e := bits_and_u64_nat (x / 2 ^ (m % 64)) 1 (by have := Nat.div_le_self x (2 ^ (m % 64)); omega) (by decide)
        rw [Nat.and_one_is_mod, ht] at e
        rw [← e]
        simp
      obtain ⟨y, hy⟩ : ∃ y, 2 * n % 18446744073709551616 = y := ⟨_, rfl⟩
      have hor := or_even y t (by omega) (by omega) ht1
      have hy0 := k2.cell (lims_get 4 (2 * n) 0 (by decide))
      rw [Nat.pow_zero, Nat.div_one, hy] at hy0
      have hyf := k2.frozen 0
      have hx' := Lib.hid hx
      have hbit' := Lib.hid hbit
      have ht' := Lib.hid ht
      have hy' := Lib.hid hy
      have hxc' := Lib.hid hxc
      have hand' := Lib.hid hand
      have hor' := Lib.hid hor
      clear hx hbit ht hy hxc hand hor
      have im0 : (0 : Int) ≤ (m : Int) / 64 := by omega
      have im1 : (m : Int) / 64 < (L : Int) := by omega
      have im2 : IntKind.i64.wrap ((m : Int) / 64) = (m : Int) / 64 := i64_in (by omega)
      have im3 : ((m : Int) / 64).toNat = m / 64 := by omega
      have im4 : ((m : Int)).tmod 64 = (m : Int) % 64 := Int.tmod_eq_emod_of_nonneg (by omega)
      have im5 : IntKind.i64.wrap ((m : Int) % 64) = (m : Int) % 64 := i64_in (by omega)
      have im6 : (0 : Int) ≤ (m : Int) % 64 := by omega
      have im7 : ((m : Int) % 64).toNat = m % 64 := by omega
      simp only [Act.put]
      refine Tx.start (fun w' => Below (w3).heap.size (w3) w') 13 14 rfl (by kernel_rfl) ?_
      have hS_1 : Below (w3).heap.size (w3) (World.drew w3) := (Below.refl _ _).drew
      refine Tx.seg (A := ?_) 1 8191 (by kernel_rfl) (by exact (Below.refl _ _).drew) [0, 1, 2, 3, 4, 5, 6, 7, 8, 9, 10, 11, 12] (by kernel_rfl) ?_ ?_
      rotate_left
      · intro w' hB
        have e1 : w'.cell? ⟨w.heap.size + 1, 0, none⟩ = some (.int .u64 (y : Int)) := by rw [hB.cell (by simpa using k2.lt)]; exact hy0
        have e2 : w'.cell? ⟨b, o + m / 64, none⟩ = some (.int .u64 (x : Int)) := by rw [hB.cell (by have := kb.size; simp; omega), kb.cell hb]; exact hxc'.out
        have e3 := hand'.out
        have e4 := hor'.out
        iterate 13 (first | (refine rd_skip rfl rfl ?_; simp only [Act.put, List.setIfInBounds_toArray, List.set_cons_zero, List.set_cons_succ]) | (refine rd_load_arr rfl rfl _ _ rfl _ rfl (by kernel_rfl) _ (by assumption) (by first | (rw [lims_len]; kernel_rfl) | (rw [el_rep]; kernel_rfl) | (rw [el_len]; kernel_rfl) | (rw [byts_len]; kernel_rfl) | (rw [us_len]; kernel_rfl) | kernel_rfl) ?_; simp only [Act.put, List.setIfInBounds_toArray, List.set_cons_zero, List.set_cons_succ]) | (refine rd_take (v := ?_) rfl rfl ?_ ?_; rotate_left; (focus (go_simp; try (with_reducible rfl))); simp only [Act.put, List.setIfInBounds_toArray, List.set_cons_zero, List.set_cons_succ]))
        exact rd_nil
      have hyc : w3.drew.cell? ⟨w.heap.size + 1, 0, none⟩ = some (.int .u64 (y : Int)) := hy0
      have hyff : w3.drew.frozen? ⟨w.heap.size + 1, 0, none⟩ = false := hyf
      refine Tx.bar 16383 rfl (by decide +kernel) (fun K hK => ?_)
      go_simp
      refine hK (fun _ => True) 9999 _ _ ?_
      clear hK K
      try simp only [Act.put]
      try simp only [List.setIfInBounds_toArray, List.set_cons_zero, List.set_cons_succ]
      refine Tx.done (by kernel_rfl) ?_
      have e5 := lims_set0 n t ht1
      rw [hy'.out, Int.natCast_add] at e5
      have k2 := k2.set 0 (.int .u64 ((y : Int) + (t : Int)))
      rw [e5] at k2
      clear e5
      have k1 := k1.other (a := ⟨w.heap.size + 1, 0, none⟩) (by simp) (.int .u64 ((y : Int) + (t : Int)))
      have kb := (kb.setCell (p := ⟨w.heap.size + 1, 0, none⟩) (by simp) (.int .u64 ((y : Int) + (t : Int)))).drew
      have k1 : Arr (w3.setCell ⟨w.heap.size + 1, 0, none⟩ (.int .u64 ((y : Int) + (t : Int)))).drew _ _ := k1
      have k2 : Arr (w3.setCell ⟨w.heap.size + 1, 0, none⟩ (.int .u64 ((y : Int) + (t : Int)))).drew _ _ := k2
      generalize (w3.setCell ⟨w.heap.size + 1, 0, none⟩ (.int .u64 ((y : Int) + (t : Int)))).drew = w4 at *
      clear hy0 hyf hyc hyff
      go_upto_region 7 with fail
      refine Tx.start (fun w' => Below (w4).heap.size (w4) w') 7 9 rfl (by kernel_rfl) ?_
      have hS_2 : Below (w4).heap.size (w4) (World.drew w4) := (Below.refl _ _).drew
      refine Tx.seg (A := ?_) 8 1 (by kernel_rfl) (by exact (Below.refl _ _).drew) [0] (by kernel_rfl) ?_ ?_
      rotate_left
      · intro w' hB
        have e1 := k2.below hB
        iterate 1 (first | (refine rd_skip rfl rfl ?_; simp only [Act.put, List.setIfInBounds_toArray, List.set_cons_zero, List.set_cons_succ]) | (refine rd_load_arr rfl rfl _ _ rfl _ rfl (by kernel_rfl) _ (by assumption) (by first | (rw [lims_len]; kernel_rfl) | (rw [el_rep]; kernel_rfl) | (rw [el_len]; kernel_rfl) | (rw [byts_len]; kernel_rfl) | (rw [us_len]; kernel_rfl) | kernel_rfl) ?_; simp only [Act.put, List.setIfInBounds_toArray, List.set_cons_zero, List.set_cons_succ]) | (refine rd_take (v := ?_) rfl rfl ?_ ?_; rotate_left; (focus (go_simp; try (with_reducible rfl))); simp only [Act.put, List.setIfInBounds_toArray, List.set_cons_zero, List.set_cons_succ]))
        exact rd_nil
      refine Tx.poolB 2 127 [(1, 36), (2, 37), (3, 34), (4, 38), (5, 39), (6, 5)] [(false, []), (false, [(1, 36)]), (true, [(2, 37)]), (true, [(3, 34)]), (true, [(3, 34)]), (false, [])] [(1, Ph.is (.agg (lims 4 qN).toArray)), (2, Ph.is (.tuple #[.agg (lims 4 (2 * n + t + 18446744073709551616 ^ 4 - qN)).toArray, .int .u64 (borrow 18446744073709551616 4 (2 * n + t) qN : Nat)])), (3, Ph.is (.tuple #[.agg (lims 4 (2 * n + t + 18446744073709551616 ^ 4 - qN)).toArray, .int .u64 (borrow 18446744073709551616 4 (2 * n + t) qN : Nat)])), (4, Ph.is (.agg (lims 4 (2 * n + t + 18446744073709551616 ^ 4 - qN)).toArray)), (5, Ph.is (.int .u64 (borrow 18446744073709551616 4 (2 * n + t) qN : Nat))), (6, Ph.arr w4.heap.size (lims 4 0))] (by kernel_rfl) (by kernel_rfl) (by first | assumption | exact (Below.refl _ _).drew) ?_ ?_
      · refine ⟨⟨_, rfl, ?_⟩, ⟨_, rfl, ?_⟩, ⟨_, rfl, ?_⟩, ⟨_, rfl, ?_⟩, ⟨_, rfl, ?_⟩, ⟨_, rfl, ?_⟩, trivial⟩
        · intro vs w1 hS hE hD K hK
          clear hD
          simp only [fillL, Act.put, List.setIfInBounds_toArray, List.set_cons_zero, List.set_cons_succ] at hK ⊢
          go_simp
          refine (order_any _).mono ?_
          rintro e w2 ⟨rfl, hb2⟩
          exact hK _ _ rfl hb2 nofun
        · intro vs w1 hS hE hD K hK
          obtain ⟨q1, -⟩ := hD
          simp only [fillL, Act.put, List.setIfInBounds_toArray, List.set_cons_zero, List.set_cons_succ] at hK ⊢
          rw [show vs 1 = _ from q1] at hK ⊢
          clear q1
          go_simp
          refine (limSub_any (2 * n + t) qN (by have := qN_lt; omega) _).mono ?_
          rintro e w2 ⟨rfl, hb2⟩
          exact hK _ _ rfl hb2 nofun
        · intro vs w1 hS hE hD
          obtain ⟨q2, -⟩ := hD
          simp only [fillL, Act.put, List.setIfInBounds_toArray, List.set_cons_zero, List.set_cons_succ] at ⊢
          rw [show vs 2 = _ from q2] at ⊢
          clear q2
          refine ⟨_, rfl, fun w' => (by first | (go_simp; done) | (go_simp; rfl)), rfl, nofun⟩
        · intro vs w1 hS hE hD
          obtain ⟨q3, -⟩ := hD
          simp only [fillL, Act.put, List.setIfInBounds_toArray, List.set_cons_zero, List.set_cons_succ] at ⊢
          rw [show vs 3 = _ from q3] at ⊢
          clear q3
          refine ⟨_, rfl, fun w' => (by first | (go_simp; done) | (go_simp; rfl)), rfl, nofun⟩
        · intro vs w1 hS hE hD
          obtain ⟨q3, -⟩ := hD
          simp only [fillL, Act.put, List.setIfInBounds_toArray, List.set_cons_zero, List.set_cons_succ] at ⊢
          rw [show vs 3 = _ from q3] at ⊢
          clear q3
          refine ⟨_, rfl, fun w' => (by first | (go_simp; done) | (go_simp; rfl)), rfl, nofun⟩
        · intro vs w1 hS hE hD K hK
          clear hD
          simp only [fillL, Act.put, List.setIfInBounds_toArray, List.set_cons_zero, List.set_cons_succ] at hK ⊢
          go_simp
          exact hK _ _ ⟨_, rfl, Nat.le_trans (by first | exact Nat.le_refl _ | omega | (simp; omega)) hE.size, Arr.new _ _ _⟩ (below_alloc _ _) (fun _ => ⟨_, rfl, Nat.le_refl _⟩)
      intro vs w_p hS_p hE_p hP hD
      obtain ⟨q1, q2, q3, q4, q5, q6, -⟩ := hP
      simp only [fillL, Act.put, List.setIfInBounds_toArray, List.set_cons_zero, List.set_cons_succ]
      rw [show vs 1 = _ from q1]
      clear q1
      rw [show vs 2 = _ from q2]
      clear q2
      rw [show vs 3 = _ from q3]
      clear q3
      rw [show vs 4 = _ from q4]
      clear q4
      rw [show vs 5 = _ from q5]
      clear q5
      obtain ⟨g6, e6, hg6, ha6⟩ := q6
      rw [e6]
      clear e6 hD vs
      refine Tx.bar 255 rfl (by decide +kernel) (fun K hK => ?_)
      refine step_store_arr rfl _ _ _ rfl _ _ rfl rfl _ (by assumption) (by first | (rw [lims_len]; kernel_rfl) | (rw [el_rep]; kernel_rfl) | (rw [el_len]; kernel_rfl) | (rw [byts_len]; kernel_rfl) | (rw [us_len]; kernel_rfl) | kernel_rfl) (by first | (rw [lims_len, lims_len]) | (rw [el_rep, el_rep]) | (rw [el_rep, el_len]; rfl) | (rw [el_len, el_rep]; rfl) | (rw [el_len, el_len]; rfl) | (rw [byts_len, byts_len]) | (rw [lims_len]; rfl) | (rw [byts_len]; rfl) | (rw [us_len, us_len]; rfl) | rfl) (by first | exact lims_one _ _ | exact el_one _ | exact byts_one _ | exact us_one _ | (intro v hv; simp at hv; rcases hv with rfl | rfl | rfl | rfl <;> rfl)) ?_
      refine hK (fun _ => True) 9999 _ _ ?_
      clear hK K
      try simp only [Act.put]
      try simp only [List.setIfInBounds_toArray, List.set_cons_zero, List.set_cons_succ]
      refine Tx.seg (A := ?_) 0 511 (by kernel_rfl) (by exact trivial) [8] (by kernel_rfl) ?_ ?_
      rotate_left
      · intro w' hB
        iterate 1 (first | (refine rd_skip rfl rfl ?_; simp only [Act.put, List.setIfInBounds_toArray, List.set_cons_zero, List.set_cons_succ]) | (refine rd_load_arr rfl rfl _ _ rfl _ rfl (by kernel_rfl) _ (by assumption) (by first | (rw [lims_len]; kernel_rfl) | (rw [el_rep]; kernel_rfl) | (rw [el_len]; kernel_rfl) | (rw [byts_len]; kernel_rfl) | (rw [us_len]; kernel_rfl) | kernel_rfl) ?_; simp only [Act.put, List.setIfInBounds_toArray, List.set_cons_zero, List.set_cons_succ]) | (refine rd_take (v := ?_) rfl rfl ?_ ?_; rotate_left; (focus (go_simp; try (with_reducible rfl))); simp only [Act.put, List.setIfInBounds_toArray, List.set_cons_zero, List.set_cons_succ]))
        exact rd_nil
      refine Tx.done (by kernel_rfl) ?_
      have hn5 : w.heap.size + 1 < g6 := Nat.lt_of_lt_of_le k2.lt hg6
      have k1 := (k1.below hS_p).row_other (k := g6) (by omega) (lims 4 (2 * n + t + 18446744073709551616 ^ 4 - qN)).toArray
      have k2 := (k2.below hS_p).row_other (k := g6) (by omega) (lims 4 (2 * n + t + 18446744073709551616 ^ 4 - qN)).toArray
      have k6 := ha6.setRow (lims 4 (2 * n + t + 18446744073709551616 ^ 4 - qN))
      have kb := below_setRow (ext_trans kb (by have := kb.size; omega) hS_p) (g := g6) (by omega) (lims 4 (2 * n + t + 18446744073709551616 ^ 4 - qN)).toArray
      generalize w_p.setRow g6 (lims 4 (2 * n + t + 18446744073709551616 ^ 4 - qN)).toArray = w5 at *
      have hbo := borrow_all (a := 2 * n + t) (b := qN) (by have := qN_lt; omega) (by decide)
      rw [hbo]
      have hstep := red_step V m _ t n rfl (by rw [← hbit'.out, ht'.out]) hn.out
      have hstep' := Lib.hid hstep
      clear hstep hbo ha6 hg6 hE_p hS_p
      by_cases hlq : 2 * n + t < qN
      · rw [if_pos hlq]
        go_wp2_with fail
        exact ⟨⟨m, _, by omega, rfl, by rw [hstep'.out, if_pos hlq], k1, k2, kb⟩, by simp [intOf]⟩
      · rw [if_neg hlq]
        go_wp2_with (first | (refine wpList_load_arr2 rfl _ _ rfl _ rfl (by kernel_rfl) _ (by assumption) (by first | (rw [lims_len]; kernel_rfl) | (rw [el_rep]; kernel_rfl) | (rw [el_len]; kernel_rfl) | (rw [byts_len]; kernel_rfl) | (rw [us_len]; kernel_rfl) | kernel_rfl) ?_) | (refine wpList_store_arr rfl _ _ _ rfl _ _ rfl rfl _ (by first | assumption | exact Arr.new _ _ _) (by first | (rw [lims_len]; kernel_rfl) | (rw [el_rep]; kernel_rfl) | (rw [el_len]; kernel_rfl) | (rw [byts_len]; kernel_rfl) | (rw [us_len]; kernel_rfl) | kernel_rfl) (by first | (rw [lims_len, lims_len]) | (rw [el_rep, el_rep]) | (rw [el_rep, el_len]; rfl) | (rw [el_len, el_rep]; rfl) | (rw [el_len, el_len]; rfl) | (rw [byts_len, byts_len]) | (rw [lims_len]; rfl) | (rw [byts_len]; rfl) | (rw [us_len, us_len]; rfl) | rfl) (by first | exact lims_one _ _ | exact el_one _ | exact byts_one _ | exact us_one _ | (intro v hv; simp at hv; rcases hv with rfl | rfl | rfl | rfl <;> rfl)) ?_))
        have e : lims 4 (2 * n + t + 18446744073709551616 ^ 4 - qN) = lims 4 (2 * n + t - qN) := lims_mod _ _ ⟨1, by omega⟩
        refine ⟨⟨m, _, by omega, rfl, by rw [hstep'.out, if_neg hlq], k1.row_other (by omega) _, ?_, below_setRow kb (by omega) _⟩, by simp [intOf]⟩
        rw [← e]
        exact k2.setRow _

end Go.Proofs.YtdcbpilibaigmaaDoor
