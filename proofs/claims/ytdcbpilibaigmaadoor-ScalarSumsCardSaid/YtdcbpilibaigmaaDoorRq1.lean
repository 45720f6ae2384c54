/- Reference of the scalars: less, Less. The variable order is laid. -/
import Derived.Test.YtdcbpilibaigmaaDoorSc3
import Derived.Test.YtdcbpilibaigmaaDoorRf1
import Derived.Test.YtdcbpilibaigmaaDoorTy
namespace Go.Proofs.YtdcbpilibaigmaaDoor
open Go.RowKit

/-- The k lowest digits to the base 256, as whole numbers. -/
def dgl (k n : Nat) : List Int := (digs 256 k n).map fun (x : Nat) => (x : Int)
theorem dgl_len (k n : Nat) : (dgl k n).length = k := by simp [dgl, digs_len]
theorem dgl_get (k n i : Nat) (h : i < k) : (dgl k n)[i]? = some ((n / 256 ^ i % 256 : Nat) : Int) := by simp [dgl, digs_get _ _ _ _ h]
theorem dgl_mod (k n c : Nat) : dgl k (n + 256 ^ k * c) = dgl k n := by
  unfold dgl digs
  congr 1
  apply List.map_congr_left
  intro i hi
  simp only [List.mem_range] at hi
  have e : (256 : Nat) ^ k * c = 256 ^ i * (256 * (256 ^ (k - i - 1) * c)) := by
    rw [← Nat.mul_assoc, ← Nat.mul_assoc, Nat.mul_assoc _ 256, ← Nat.pow_succ', ← Nat.pow_add, show i + (k - i - 1).succ = k by omega]
  rw [e, Nat.add_mul_div_left _ _ (Nat.pow_pos (by decide)), Nat.add_mul_mod_self_left]

set_option maxHeartbeats 2000000 in
set_option maxRecDepth 100000 in
theorem rqless_any (R : Nat) (hR : R < 256 ^ 33) (w : World) (kG : Arr w 0 (el (dgl 32 qN))) :
    Calls Tryd.prog 23 #[.agg (el (dgl 33 R)).toArray] w fun e w' => e = .returned (.agg (el (dgl 33 (if R < qN then R else R - qN))).toArray) ∧ Below w.heap.size w w' := by
  have hG1 := kG.lt
  obtain ⟨M, hM⟩ : ∃ M, R + 256 ^ 33 - qN = M := ⟨_, rfl⟩
  have hq33 : qN < 256 ^ 33 := by decide
  have hdig : ∀ k, k < 33 → M / 256 ^ k % 256 = (R / 256 ^ k % 256 + 256 - qN / 256 ^ k % 256 - borrow 256 k R qN) % 256 := by
    intro k hk; rw [← hM]; exact borrow_digit 256 k 33 R qN (by decide) hk (by omega)
  have hbs : ∀ k, borrow 256 (k + 1) R qN = if R / 256 ^ k % 256 < qN / 256 ^ k % 256 + borrow 256 k R qN then 1 else 0 := fun k => borrow_step 256 k R qN (by decide)
  have hbl : borrow 256 33 R qN = if R < qN then 1 else 0 := by unfold borrow; rw [Nat.mod_eq_of_lt hR, Nat.mod_eq_of_lt hq33]
  have hq32 : qN / 256 ^ 32 % 256 = 0 := by decide
  have hres : ¬ R < qN → dgl 33 M = dgl 33 (R - qN) := by
    intro h
    have := dgl_mod 33 (R - qN) 1
    have e : R + 256 ^ 33 - qN = R - qN + 256 ^ 33 * 1 := by rw [Nat.mul_one]; omega
    rw [← this, ← hM, e]
  have hlen := mixl_get (k := 0) (j := 0) (xs := dgl 33 M) (ys := dgl 33 R) (by rw [dgl_len, dgl_len]) (by rw [dgl_len]; decide)
  clear hlen
  have hll : (dgl 33 M).length = (dgl 33 R).length := by rw [dgl_len, dgl_len]
  have hl1 : (el (dgl 33 R)).length = 33 := by rw [el_len, dgl_len]
  have hl2 : (el (dgl 33 M)).length = 33 := by rw [el_len, dgl_len]
  have hm0 := mixl_zero (dgl 33 M) (dgl 33 R)
  clear hM
  replace hdig := Lib.hid hdig
  replace hbs := Lib.hid hbs
  replace hbl := Lib.hid hbl
  replace hq32 := Lib.hid hq32
  replace hres := Lib.hid hres
  replace hll := Lib.hid hll
  replace hl1 := Lib.hid hl1
  replace hl2 := Lib.hid hl2
  replace hm0 := Lib.hid hm0
  obtain ⟨Z, hZ⟩ : ∃ Z, (if R < qN then R else R - qN) = Z := ⟨_, rfl⟩
  rw [hZ]
  replace hZ := Lib.hid hZ
  clear hR hq33
  go_enter Tryd.func23, Tryd.ntmps23
  go_upto_region 1 with fail
  refine wp_new2 (fun W hsz k1 k2 kb => ?_)
  have kG : Arr W _ (el (dgl 32 qN)) := kG.below kb
  have k2 : Arr W (w.heap.size + 1) (el (List.replicate 33 0)) := k2
  clear hsz
  go_upto_region 2 with (first | (refine wpList_load_arr2 rfl _ _ rfl _ rfl (by kernel_rfl) _ (by assumption) (by first | (rw [lims_len]; kernel_rfl) | (rw [el_rep]; kernel_rfl) | (rw [el_len]; kernel_rfl) | (rw [byts_len]; kernel_rfl) | (rw [us_len]; kernel_rfl) | kernel_rfl) ?_) | (refine wpList_store_arr rfl _ _ _ rfl _ _ rfl rfl _ (by first | assumption | exact Arr.new _ _ _) (by first | (rw [lims_len]; kernel_rfl) | (rw [el_rep]; kernel_rfl) | (rw [el_len]; kernel_rfl) | (rw [byts_len]; kernel_rfl) | (rw [us_len]; kernel_rfl) | kernel_rfl) (by first | (rw [lims_len, lims_len]) | (rw [el_rep, el_rep]) | (rw [el_rep, el_len]; rfl) | (rw [el_len, el_rep]; rfl) | (rw [el_len, el_len]; rfl) | (rw [byts_len, byts_len]) | (rw [lims_len]; rfl) | (rw [byts_len]; rfl) | (rw [us_len, us_len]; rfl) | rfl) (by first | exact lims_one _ _ | exact el_one _ | exact byts_one _ | exact us_one _ | (intro v hv; simp at hv; rcases hv with rfl | rfl | rfl | rfl <;> rfl)) ?_))
  have hg_k3_k1 := k1.lt
  have hg_k3_k2 := k2.lt
  have hg_k3_kG := kG.lt
  refine code_new (fun w_1 k3 hnew => ?_)
  have k1 := k1.below hnew
  have k2 := k2.below hnew
  have kG := kG.below hnew
  have kb := bel kb hnew
  clear hnew
  generalize (W).heap.size = g_k3 at k3 hg_k3_k1 hg_k3_k2 hg_k3_kG ⊢
  have k3 : Arr w_1 g_k3 (el (mixl 0 (dgl 33 M) (dgl 33 R))) := by rw [hm0.out]; exact k3
  go_wp2_with fail
  go_loopw [5, 4] (fun kv cv wr => ∃ k c : Nat, k ≤ 33 ∧ kv = .int .i64 k ∧ cv = .int .i64 c ∧ c = borrow 256 k R qN ∧ Arr wr w.heap.size (el (dgl 33 R)) ∧ Arr wr (w.heap.size + 1) (el (List.replicate 33 0)) ∧ Arr wr g_k3 (el (mixl k (dgl 33 M) (dgl 33 R))) ∧ Arr wr 0 (el (dgl 32 qN)) ∧ Below w.heap.size w wr) (fun kv _ _ => 33 - (intOf kv).toNat)
  case atStart => exact ⟨0, 0, by omega, rfl, rfl, by rw [borrow_zero], k1, k2, k3, kG, kb⟩
  case round =>
    clear k1 k2 k3 kG kb
    obtain ⟨k, c, hk, rfl, rfl, hc, k1, k2, k3, kG, kb⟩ := hrel
    have hc1 : c ≤ 1 := by rw [hc]; exact borrow_le _ _ _ _
    by_cases hlt : k < 33
    · obtain ⟨d, hd⟩ : ∃ d, R / 256 ^ k % 256 = d := ⟨_, rfl⟩
      obtain ⟨q, hq⟩ : ∃ q, qN / 256 ^ k % 256 = q := ⟨_, rfl⟩
      have hdl : d < 256 := hd ▸ Nat.mod_lt _ (by decide)
      have hql : q < 256 := hq ▸ Nat.mod_lt _ (by decide)
      have hMk := hdig.out k hlt
      have hcn := hbs.out k
      rw [hd, hq, ← hc] at hMk hcn
      have gm : (mixl k (dgl 33 M) (dgl 33 R))[k]? = some (d : Int) := by
        rw [mixl_get hll.out (by rw [dgl_len]; exact hlt), if_neg (Nat.lt_irrefl k), dgl_get _ _ _ hlt, hd]
      have gr : (dgl 33 R)[k]? = some (d : Int) := by rw [dgl_get _ _ _ hlt, hd]
      have gM := dgl_get 33 M k hlt
      rw [hMk] at gM
      have hset := mixl_set hll.out gM
      have hcell1 := k1.cell (el_get gr)
      have hfr := k3.frozen k
      have hcellm := k3.cell (el_get gm)
      by_cases hk32 : k < 32
      · have gq : (dgl 32 qN)[k]? = some (q : Int) := by rw [dgl_get _ _ _ hk32, hq]
        have hcellq := kG.cell (el_get gq)
        replace gq := Lib.hid gq
        replace gr := Lib.hid gr
        replace gm := Lib.hid gm
        replace gM := Lib.hid gM
        replace hset := Lib.hid hset
        replace hMk := Lib.hid hMk
        replace hd := Lib.hid hd
        replace hq := Lib.hid hq
        replace hc := Lib.hid hc
        by_cases hx : d < q + c
        · rw [if_pos hx] at hcn
          replace hcn := Lib.hid hcn
          go_wp2_with fail
          refine ⟨⟨k + 1, 1, by omega, by go_num, rfl, hcn.out.symm, k1.other (by simp; omega) _, k2.other (by simp; omega) _, ?_, kG.other (by simp; omega) _, kb.setCell (by simp; omega) _⟩, by simp [intOf]; omega⟩
          have := k3.set k (.int .i64 ((d : Int) - c - q + 256))
          rw [show (d : Int) - c - q + 256 = (((d + 256 - q - c) % 256 : Nat) : Int) by omega, el_set, hset.out] at this
          rw [show (d : Int) - c - q + 256 = (((d + 256 - q - c) % 256 : Nat) : Int) by omega]
          exact this
        · rw [if_neg hx] at hcn
          replace hcn := Lib.hid hcn
          go_wp2_with fail
          refine ⟨⟨k + 1, 0, by omega, by go_num, rfl, hcn.out.symm, k1.other (by simp; omega) _, k2.other (by simp; omega) _, ?_, kG.other (by simp; omega) _, kb.setCell (by simp; omega) _⟩, by simp [intOf]; omega⟩
          have := k3.set k (.int .i64 ((d : Int) - c - q))
          rw [show (d : Int) - c - q = (((d + 256 - q - c) % 256 : Nat) : Int) by omega, el_set, hset.out] at this
          rw [show (d : Int) - c - q = (((d + 256 - q - c) % 256 : Nat) : Int) by omega]
          exact this
      · obtain rfl : k = 32 := by omega
        obtain rfl : q = 0 := by rw [← hq, hq32.out]
        replace gr := Lib.hid gr
        replace gm := Lib.hid gm
        replace gM := Lib.hid gM
        replace hset := Lib.hid hset
        replace hMk := Lib.hid hMk
        replace hd := Lib.hid hd
        replace hq := Lib.hid hq
        replace hc := Lib.hid hc
        by_cases hx : d < 0 + c
        · rw [if_pos hx] at hcn
          replace hcn := Lib.hid hcn
          go_wp2_with fail
          refine ⟨⟨33, 1, by omega, by go_num, rfl, hcn.out.symm, k1.other (by simp; omega) _, k2.other (by simp; omega) _, ?_, kG.other (by simp; omega) _, kb.setCell (by simp; omega) _⟩, by simp [intOf]⟩
          have := k3.set 32 (.int .i64 ((d : Int) - c + 256))
          rw [show (d : Int) - c + 256 = (((d + 256 - 0 - c) % 256 : Nat) : Int) by omega, el_set, hset.out] at this
          rw [show (d : Int) - c + 256 = (((d + 256 - 0 - c) % 256 : Nat) : Int) by omega]
          exact this
        · rw [if_neg hx] at hcn
          replace hcn := Lib.hid hcn
          go_wp2_with fail
          refine ⟨⟨33, 0, by omega, by go_num, rfl, hcn.out.symm, k1.other (by simp; omega) _, k2.other (by simp; omega) _, ?_, kG.other (by simp; omega) _, kb.setCell (by simp; omega) _⟩, by simp [intOf]⟩
          have := k3.set 32 (.int .i64 ((d : Int) - c))
          rw [show (d : Int) - c = (((d + 256 - 0 - c) % 256 : Nat) : Int) by omega, el_set, hset.out] at this
          rw [show (d : Int) - c = (((d + 256 - 0 - c) % 256 : Nat) : Int) by omega]
          exact this
    · obtain rfl : k = 33 := by omega
      have hall : mixl 33 (dgl 33 M) (dgl 33 R) = dgl 33 M := by have := mixl_all hll.out; rwa [dgl_len] at this
      rw [hall] at k3
      clear hall
      rw [hbl.out] at hc
      by_cases hq : R < qN
      · have hZ1 := hZ.out
        rw [if_pos hq] at hc hZ1
        subst hZ1
        subst hc
        go_wp2_with (first | (refine wpList_load_arr2 rfl _ _ rfl _ rfl (by kernel_rfl) _ k1 (by rw [hl1.out]; kernel_rfl) ?_) | (refine wpList_store_arr rfl _ _ _ rfl _ _ rfl rfl _ k2 (by rw [hl1.out]; kernel_rfl) (by rw [hl1.out]; rfl) (el_one _) ?_))
        exact bodyPost_ret (results_arr2 Tryd.results23 _ _ _ rfl (by kernel_rfl) _ (k2.setRow _) (by rw [hl1.out]; kernel_rfl)) rfl ⟨rfl, below_setRow kb (by omega) _⟩
      · have hZ1 := hZ.out
        rw [if_neg hq] at hc hZ1
        subst hZ1
        subst hc
        go_wp2_with (first | (refine wpList_load_arr2 rfl _ _ rfl _ rfl (by kernel_rfl) _ k3 (by rw [hl2.out]; kernel_rfl) ?_) | (refine wpList_store_arr rfl _ _ _ rfl _ _ rfl rfl _ k2 (by rw [hl2.out]; kernel_rfl) (by rw [hl2.out]; rfl) (el_one _) ?_))
        exact bodyPost_ret (results_arr2 Tryd.results23 _ _ _ rfl (by kernel_rfl) _ (k2.setRow _) (by rw [hl2.out]; kernel_rfl)) rfl ⟨by rw [hres.out hq], below_setRow kb (by omega) _⟩

theorem less_digit {n q j : Nat} (h : n / 256 ^ (j + 1) = q / 256 ^ (j + 1)) (hd : n / 256 ^ j % 256 ≠ q / 256 ^ j % 256) : (n / 256 ^ j % 256 < q / 256 ^ j % 256 ↔ n < q) := by
  have hp : 0 < 256 ^ j := Nat.pow_pos (by decide)
  rw [Nat.pow_succ, ← Nat.div_div_eq_div_mul, ← Nat.div_div_eq_div_mul] at h
  have h1 := Nat.div_add_mod n (256 ^ j)
  have h2 := Nat.div_add_mod q (256 ^ j)
  have h3 := Nat.mod_lt n hp
  have h4 := Nat.mod_lt q hp
  generalize n / 256 ^ j = x at *
  generalize q / 256 ^ j = y at *
  generalize 256 ^ j = m at *
  constructor
  · intro hlt
    have hxy : x + 1 ≤ y := by omega
    have := Nat.mul_le_mul_left m hxy
    rw [Nat.mul_add, Nat.mul_one] at this
    omega
  · intro hlt
    refine Nat.lt_of_not_le (fun hge => ?_)
    have hyx : y + 1 ≤ x := by omega
    have := Nat.mul_le_mul_left m hyx
    rw [Nat.mul_add, Nat.mul_one] at this
    omega

set_option maxHeartbeats 2000000 in
set_option maxRecDepth 100000 in
theorem rqLess_any (n : Nat) (hn : n < 256 ^ 32) (w : World) (kG : Arr w 0 (el (dgl 32 qN))) :
    Calls Tryd.prog 14 #[.agg (byts n).toArray] w fun e w' => e = .returned (.bool (decide (n < qN))) ∧ Below w.heap.size w w' := by
  have hG1 := kG.lt
  have h0 : n / 256 ^ 32 = qN / 256 ^ 32 := by rw [Nat.div_eq_of_lt hn]; decide
  have hend : n / 256 ^ 0 = qN / 256 ^ 0 → decide (n < qN) = false := by
    intro h; rw [Nat.pow_zero, Nat.div_one, Nat.div_one] at h; subst h; decide
  obtain ⟨b, hb⟩ : ∃ b, decide (n < qN) = b := ⟨_, rfl⟩
  have hless : ∀ j, n / 256 ^ (j + 1) = qN / 256 ^ (j + 1) → n / 256 ^ j % 256 ≠ qN / 256 ^ j % 256 → decide (n / 256 ^ j % 256 < qN / 256 ^ j % 256) = b := by
    intro j h1 h2; rw [← hb]; exact decide_eq_decide.2 (less_digit h1 h2)
  rw [hb] at hend ⊢
  replace h0 := Lib.hid h0
  replace hend := Lib.hid hend
  replace hless := Lib.hid hless
  clear hn hb
  go_enter Tryd.func14, Tryd.ntmps14
  go_upto_region 1 with fail
  refine wp_new1 (fun W hsz k1 kb => ?_)
  have kG : Arr W _ (el (dgl 32 qN)) := kG.below kb
  clear hsz
  go_wp2_with fail
  go_loopw [3] (fun kv wr => ∃ j : Nat, j ≤ 32 ∧ kv = .int .i64 ((j : Int) - 1) ∧ n / 256 ^ j = qN / 256 ^ j ∧ Arr wr w.heap.size (byts n) ∧ Arr wr 0 (el (dgl 32 qN)) ∧ Below w.heap.size w wr) (fun kv _ => (intOf kv + 1).toNat)
  case atStart => exact ⟨32, Nat.le_refl _, rfl, h0.out, k1, kG, kb⟩
  case round =>
    clear k1 kG kb h0
    obtain ⟨j, hj, rfl, hd0, k1, kG, kb⟩ := hrel
    rcases Nat.eq_zero_or_pos j with rfl | hj0
    · have e : ((0 : Nat) : Int) - 1 = -1 := rfl
      rw [e]
      obtain rfl := hend.out hd0
      clear e hd0
      go_wp2_with fail
      go_ret
      exact ⟨rfl, kb⟩
    · obtain ⟨m, rfl⟩ : ∃ m, j = m + 1 := ⟨j - 1, by omega⟩
      have e : ((m + 1 : Nat) : Int) - 1 = (m : Int) := by omega
      rw [e]
      clear e
      have hl := hless.out m hd0
      have hnx : n / 256 ^ m % 256 = qN / 256 ^ m % 256 → n / 256 ^ m = qN / 256 ^ m := by
        intro h
        rw [Nat.pow_succ, ← Nat.div_div_eq_div_mul, ← Nat.div_div_eq_div_mul] at hd0
        omega
      have g1 := byts_get n m (by omega)
      have g2 := el_get (dgl_get 32 qN m (by omega))
      obtain ⟨x, hx⟩ : ∃ x, n / 256 ^ m % 256 = x := ⟨_, rfl⟩
      obtain ⟨y, hy⟩ : ∃ y, qN / 256 ^ m % 256 = y := ⟨_, rfl⟩
      have hxl : x < 256 := hx ▸ Nat.mod_lt _ (by decide)
      have hyl : y < 256 := hy ▸ Nat.mod_lt _ (by decide)
      rw [hx, hy] at hl hnx
      rw [hx] at g1
      rw [hy] at g2
      have hm32 : (m : Int) < 32 := by omega
      have iwx : IntKind.i64.wrap (x : Int) = (x : Int) := i64_in (by omega)
      replace g1 := Lib.hid g1
      replace g2 := Lib.hid g2
      replace hl := Lib.hid hl
      replace hnx := Lib.hid hnx
      clear hx hy hd0
      by_cases hxy : x = y
      · subst hxy
        have hnx' := Lib.hid (hnx.out rfl)
        clear hnx hl
        have hee : ((x : Int) != (x : Int)) = false := by simp
        go_upto_region 4 with (first | (refine wpList_load_arr2 rfl _ _ rfl _ rfl (by kernel_rfl) _ (by assumption) (by first | (rw [lims_len]; kernel_rfl) | (rw [el_rep]; kernel_rfl) | (rw [el_len]; kernel_rfl) | (rw [byts_len]; kernel_rfl) | (rw [us_len]; kernel_rfl) | kernel_rfl) ?_) | (refine wpList_store_arr rfl _ _ _ rfl _ _ rfl rfl _ (by first | assumption | exact Arr.new _ _ _) (by first | (rw [lims_len]; kernel_rfl) | (rw [el_rep]; kernel_rfl) | (rw [el_len]; kernel_rfl) | (rw [byts_len]; kernel_rfl) | (rw [us_len]; kernel_rfl) | kernel_rfl) (by first | (rw [lims_len, lims_len]) | (rw [el_rep, el_rep]) | (rw [el_rep, el_len]; rfl) | (rw [el_len, el_rep]; rfl) | (rw [el_len, el_len]; rfl) | (rw [byts_len, byts_len]) | (rw [lims_len]; rfl) | (rw [byts_len]; rfl) | (rw [us_len, us_len]; rfl) | rfl) (by first | exact lims_one _ _ | exact el_one _ | exact byts_one _ | exact us_one _ | (intro v hv; simp at hv; rcases hv with rfl | rfl | rfl | rfl <;> rfl)) ?_))
        refine Tx.start (fun w' => Below (wr).heap.size (wr) w') 9999 8 rfl (by kernel_rfl) ?_
        have hS_2 : Below (wr).heap.size (wr) (World.drew wr) := (Below.refl _ _).drew
        refine Tx.seg (A := ?_) 0 255 (by kernel_rfl) (by exact hS_2) [0, 1, 2, 3, 4, 5, 6, 7] (by kernel_rfl) ?_ ?_
        rotate_left
        · intro w' hB
          have e0 := k1.below hB
          have e1 := kG.below hB
          have c1 := (k1.below hB).cell g1.out
          have c2 := (kG.below hB).cell g2.out
          iterate 8 (first | (refine rd_skip rfl rfl ?_; simp only [Act.put, List.setIfInBounds_toArray, List.set_cons_zero, List.set_cons_succ]) | (refine rd_load_arr rfl rfl _ _ rfl _ rfl (by kernel_rfl) _ (by assumption) (by first | (rw [lims_len]; kernel_rfl) | (rw [el_rep]; kernel_rfl) | (rw [el_len]; kernel_rfl) | (rw [byts_len]; kernel_rfl) | (rw [us_len]; kernel_rfl) | kernel_rfl) ?_; simp only [Act.put, List.setIfInBounds_toArray, List.set_cons_zero, List.set_cons_succ]) | (refine rd_take (v := ?_) rfl rfl ?_ ?_; rotate_left; (focus (go_simp; try (with_reducible rfl))); simp only [Act.put, List.setIfInBounds_toArray, List.set_cons_zero, List.set_cons_succ]))
          exact rd_nil
        refine Tx.done (by kernel_rfl) ?_
        have k1 := k1.below hS_2
        have kG := kG.below hS_2
        have kb := bel kb hS_2
        clear hS_2
        go_wp2_with fail
        exact ⟨⟨m, by omega, rfl, hnx'.out, k1, kG, kb⟩, by simp [intOf]⟩
      · have hl := hl.out hxy
        have hne : ((x : Int) != (y : Int)) = true := by simp; omega
        have hne2 : (x != y) = true := by simp [hxy]
        have hl2 : decide ((x : Int) < (y : Int)) = b := by rw [← hl]; exact decide_eq_decide.2 Int.ofNat_lt
        clear hnx
        go_upto_region 4 with (first | (refine wpList_load_arr2 rfl _ _ rfl _ rfl (by kernel_rfl) _ (by assumption) (by first | (rw [lims_len]; kernel_rfl) | (rw [el_rep]; kernel_rfl) | (rw [el_len]; kernel_rfl) | (rw [byts_len]; kernel_rfl) | (rw [us_len]; kernel_rfl) | kernel_rfl) ?_) | (refine wpList_store_arr rfl _ _ _ rfl _ _ rfl rfl _ (by first | assumption | exact Arr.new _ _ _) (by first | (rw [lims_len]; kernel_rfl) | (rw [el_rep]; kernel_rfl) | (rw [el_len]; kernel_rfl) | (rw [byts_len]; kernel_rfl) | (rw [us_len]; kernel_rfl) | kernel_rfl) (by first | (rw [lims_len, lims_len]) | (rw [el_rep, el_rep]) | (rw [el_rep, el_len]; rfl) | (rw [el_len, el_rep]; rfl) | (rw [el_len, el_len]; rfl) | (rw [byts_len, byts_len]) | (rw [lims_len]; rfl) | (rw [byts_len]; rfl) | (rw [us_len, us_len]; rfl) | rfl) (by first | exact lims_one _ _ | exact el_one _ | exact byts_one _ | exact us_one _ | (intro v hv; simp at hv; rcases hv with rfl | rfl | rfl | rfl <;> rfl)) ?_))
        refine Tx.start (fun w' => Below (wr).heap.size (wr) w') 9999 8 rfl (by kernel_rfl) ?_
        have hS_3 : Below (wr).heap.size (wr) (World.drew wr) := (Below.refl _ _).drew
        refine Tx.seg (A := ?_) 0 255 (by kernel_rfl) (by exact hS_3) [0, 1, 2, 3, 4, 5, 6, 7] (by kernel_rfl) ?_ ?_
        rotate_left
        · intro w' hB
          have e0 := k1.below hB
          have e1 := kG.below hB
          have c1 := (k1.below hB).cell g1.out
          have c2 := (kG.below hB).cell g2.out
          iterate 8 (first | (refine rd_skip rfl rfl ?_; simp only [Act.put, List.setIfInBounds_toArray, List.set_cons_zero, List.set_cons_succ]) | (refine rd_load_arr rfl rfl _ _ rfl _ rfl (by kernel_rfl) _ (by assumption) (by first | (rw [lims_len]; kernel_rfl) | (rw [el_rep]; kernel_rfl) | (rw [el_len]; kernel_rfl) | (rw [byts_len]; kernel_rfl) | (rw [us_len]; kernel_rfl) | kernel_rfl) ?_; simp only [Act.put, List.setIfInBounds_toArray, List.set_cons_zero, List.set_cons_succ]) | (refine rd_take (v := ?_) rfl rfl ?_ ?_; rotate_left; (focus (go_simp; try (with_reducible rfl))); simp only [Act.put, List.setIfInBounds_toArray, List.set_cons_zero, List.set_cons_succ]))
          exact rd_nil
        refine Tx.done (by kernel_rfl) ?_
        have k1 := k1.below hS_3
        have kG := kG.below hS_3
        have kb := bel kb hS_3
        clear hS_3
        go_upto_region 5 with (first | (refine wpList_load_arr2 rfl _ _ rfl _ rfl (by kernel_rfl) _ (by assumption) (by first | (rw [lims_len]; kernel_rfl) | (rw [el_rep]; kernel_rfl) | (rw [el_len]; kernel_rfl) | (rw [byts_len]; kernel_rfl) | (rw [us_len]; kernel_rfl) | kernel_rfl) ?_) | (refine wpList_store_arr rfl _ _ _ rfl _ _ rfl rfl _ (by first | assumption | exact Arr.new _ _ _) (by first | (rw [lims_len]; kernel_rfl) | (rw [el_rep]; kernel_rfl) | (rw [el_len]; kernel_rfl) | (rw [byts_len]; kernel_rfl) | (rw [us_len]; kernel_rfl) | kernel_rfl) (by first | (rw [lims_len, lims_len]) | (rw [el_rep, el_rep]) | (rw [el_rep, el_len]; rfl) | (rw [el_len, el_rep]; rfl) | (rw [el_len, el_len]; rfl) | (rw [byts_len, byts_len]) | (rw [lims_len]; rfl) | (rw [byts_len]; rfl) | (rw [us_len, us_len]; rfl) | rfl) (by first | exact lims_one _ _ | exact el_one _ | exact byts_one _ | exact us_one _ | (intro v hv; simp at hv; rcases hv with rfl | rfl | rfl | rfl <;> rfl)) ?_))
        refine Tx.start (fun w' => Below (wr.drew).heap.size (wr.drew) w') 9999 9 rfl (by kernel_rfl) ?_
        have hS_4 : Below (wr.drew).heap.size (wr.drew) (World.drew wr.drew) := (Below.refl _ _).drew
        refine Tx.seg (A := ?_) 0 511 (by kernel_rfl) (by exact hS_4) [0, 1, 2, 3, 4, 5, 6, 7, 8] (by kernel_rfl) ?_ ?_
        rotate_left
        · intro w' hB
          have e0 := k1.below hB
          have e1 := kG.below hB
          have c1 := (k1.below hB).cell g1.out
          have c2 := (kG.below hB).cell g2.out
          iterate 9 (first | (refine rd_skip rfl rfl ?_; simp only [Act.put, List.setIfInBounds_toArray, List.set_cons_zero, List.set_cons_succ]) | (refine rd_load_arr rfl rfl _ _ rfl _ rfl (by kernel_rfl) _ (by assumption) (by first | (rw [lims_len]; kernel_rfl) | (rw [el_rep]; kernel_rfl) | (rw [el_len]; kernel_rfl) | (rw [byts_len]; kernel_rfl) | (rw [us_len]; kernel_rfl) | kernel_rfl) ?_; simp only [Act.put, List.setIfInBounds_toArray, List.set_cons_zero, List.set_cons_succ]) | (refine rd_take (v := ?_) rfl rfl ?_ ?_; rotate_left; (focus (go_simp; try (with_reducible rfl))); simp only [Act.put, List.setIfInBounds_toArray, List.set_cons_zero, List.set_cons_succ]))
          exact rd_nil
        refine Tx.done (by kernel_rfl) ?_
        have k1 := k1.below hS_4
        have kG := kG.below hS_4
        have kb := bel kb hS_4
        clear hS_4
        go_wp2_with fail
        go_ret
        exact ⟨rfl, kb⟩

end Go.Proofs.YtdcbpilibaigmaaDoor
