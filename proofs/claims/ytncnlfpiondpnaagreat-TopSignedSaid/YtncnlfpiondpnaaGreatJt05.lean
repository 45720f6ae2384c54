/- TopSigned: part 5 of its proof: lemmas and contracts, each with its conditions in its own statement; the last part holds the law itself. -/
import Derived.Test.YtncnlfpiondpnaaGreatJt04
import Derived.Laws.Bits64
import Derived.StillTailTactics

set_option maxHeartbeats 4000000
set_option maxRecDepth 100000
namespace Go.Proofs.YtncnlfpiondpnaaGreat
open Go.RowKit
theorem bit_at (n k : Nat) : n / 18446744073709551616 ^ (k / 64) % 18446744073709551616 / 2 ^ (k % 64) % 2 = n / 2 ^ k % 2 := by
 have e : (2 : Nat) ^ k = 18446744073709551616 ^ (k / 64) * 2 ^ (k % 64) := by
  rw [show (18446744073709551616 : Nat) = 2 ^ 64 by decide, ← Nat.pow_mul, ← Nat.pow_add]
  congr 1; omega
 rw [e, ← Nat.div_div_eq_div_mul]
 generalize n / 18446744073709551616 ^ (k / 64) = m
 have e2 : (18446744073709551616 : Nat) = 2 ^ (k % 64) * 2 ^ (64 - k % 64) := by
  rw [← Nat.pow_add, show k % 64 + (64 - k % 64) = 64 by omega]
 conv => lhs; rw [e2]
 rw [Nat.mod_mul_right_div_self, Nat.mod_mod_of_dvd]
 exact ⟨2 ^ (63 - k % 64), by rw [← Nat.pow_succ']; congr 1; omega⟩
theorem limBit_any (n k : Nat) (hk : k < 256) (w : World) :
 Calls Tryz.prog 80 #[.agg (lims 4 n).toArray, .int .i64 k] w fun e w' => e = .returned (.int .u64 (n / 2 ^ k % 2 : Nat)) ∧ Below w.heap.size w w' := by
 have hq0 : (0 : Int) ≤ (k : Int) / 64 := by omega
 have hq1 : (k : Int) / 64 < 4 := by omega
 obtain ⟨x, hx⟩ : ∃ x, n / 18446744073709551616 ^ (k / 64) % 18446744073709551616 = x := ⟨_, rfl⟩
 have hx' := zH hx
 have hc := lims_get 4 n (k / 64) zOm
 rw [hx] at hc
 clear hx
 go_enter Tryz.func80, Tryz.ntmps80
 go_upto_region 1 with fail
 refine wp_new1 (fun W hsz h1 hb0 => ?_)
 have hc1 := h1.cell hc
 go_wp2_with fail
 go_ret
 refine ⟨?_, hb0⟩
 have e := bits_and_u64_nat (x / 2 ^ (k % 64)) 1 (by have := Nat.div_le_self x (2 ^ (k % 64)); have := hx'.out; omega) zDc
 rw [Nat.and_one_is_mod] at e
 have e2 := bit_at n k
 rw [hx'.out] at e2
 rw [e2] at e
 have e3 : ((x / 2 ^ (k % 64) : Nat) : Int) = (x : Int) / 2 ^ (k % 64) := by simp
 rw [e3] at e
 have e4 : bits BinOp.and IntKind.u64 ((x : Int) / 2 ^ (k % 64)) 1 = ((n / 2 ^ k % 2 : Nat) : Int) := e
 simp [e4]
def pickN (s a b : Nat) : Nat := if s = 1 then b else a
def mixl {α : Type} (k : Nat) (xs ys : List α) : List α := xs.take k ++ ys.drop k
theorem mixl_len {α : Type} {k : Nat} {xs ys : List α} (h : xs.length = ys.length) : (mixl k xs ys).length = ys.length := by
 simp only [mixl, List.length_append, List.length_take, List.length_drop]; omega
theorem mixl_zero {α : Type} (xs ys : List α) : mixl 0 xs ys = ys := by simp [mixl]
theorem mixl_all {α : Type} {xs ys : List α} (h : xs.length = ys.length) : mixl ys.length xs ys = xs := by simp [mixl, ← h]
theorem mixl_get {α : Type} {k j : Nat} {xs ys : List α} (h : xs.length = ys.length) (hj : j < ys.length) : (mixl k xs ys)[j]? = if j < k then xs[j]? else ys[j]? := by
 unfold mixl
 by_cases e : j < k
 · rw [if_pos e, List.getElem?_append_left (by simp; omega), List.getElem?_take, if_pos e]
 · rw [if_neg e, List.getElem?_append_right (by simp; omega), List.getElem?_drop]
   congr 1
   simp only [List.length_take]
   omega
theorem mixl_set {α : Type} {k : Nat} {xs ys : List α} {u : α} (h : xs.length = ys.length) (hu : xs[k]? = some u) : (mixl k xs ys).set k u = mixl (k + 1) xs ys := by
 have hk : k < xs.length := (List.getElem?_eq_some_iff.1 hu).1
 apply List.ext_getElem?
 intro j
 by_cases hj : j < ys.length
 · rw [List.getElem?_set, mixl_get h hj, mixl_get h hj, mixl_len h]
   by_cases e : k = j
   · subst e; rw [if_pos rfl, if_pos hj, if_pos zOm, hu]
   · rw [if_neg e]
     by_cases h2 : j < k
     · rw [if_pos h2, if_pos zOm]
     · rw [if_neg h2, if_neg zOm]
 · rw [List.getElem?_eq_none (by rw [List.length_set, mixl_len h]; omega), List.getElem?_eq_none (by rw [mixl_len h]; omega)]
theorem pick_mask (s : Nat) (hs : s ≤ 1) : IntKind.u64.wrap (-bits BinOp.and IntKind.u64 (s : Int) 1) = ((if s = 1 then 18446744073709551615 else 0 : Nat) : Int) := by
 have h : s = 0 ∨ s = 1 := by omega
 rcases h with rfl | rfl <;> decide
theorem pick_bits (x y s : Nat) (hx : x < 18446744073709551616) (hy : y < 18446744073709551616) :
 bits .xor .u64 (x : Int) (bits .and .u64 ((if s = 1 then 18446744073709551615 else 0 : Nat) : Int) (bits .xor .u64 (x : Int) (y : Int))) = ((if s = 1 then y else x : Nat) : Int) := by
 have hxy : x ^^^ y < 2 ^ 64 := Nat.xor_lt_two_pow zOm zOm
 have hxy' : x ^^^ y < 18446744073709551616 := by omega
 rw [bits_xor_u64_nat x y hx hy, bits_and_u64_nat _ _ (by split <;> omega) hxy']
 by_cases h : s = 1
 · rw [if_pos h, if_pos h, show (18446744073709551615 : Nat) = 2 ^ 64 - 1 by decide, Nat.and_comm, Nat.and_two_pow_sub_one_eq_mod, Nat.mod_eq_of_lt hxy, bits_xor_u64_nat _ _ hx hxy', ← Nat.xor_assoc, Nat.xor_self, Nat.zero_xor]
 · rw [if_neg h, if_neg h, Nat.zero_and, bits_xor_u64_nat _ _ hx zDc, Nat.xor_zero]
theorem limPick_any (a b s : Nat) (hs : s ≤ 1) (w : World) :
 Calls Tryz.prog 116 #[.agg (lims 4 a).toArray, .agg (lims 4 b).toArray, .int .u64 s] w fun e w' => e = .returned (.agg (lims 4 (pickN s a b)).toArray) ∧ Below w.heap.size w w' := by
 go_enter Tryz.func116, Tryz.ntmps116
 go_upto_region 1 with fail
 refine wp_new3 (fun W hsz h1 h2 h3 hb0 => ?_)
 go_wp2_with fail
 rw [pick_mask s hs]
 obtain ⟨m, hm⟩ : ∃ m : Nat, (if s = 1 then 18446744073709551615 else 0) = m := ⟨_, rfl⟩
 rw [hm]
 have hpb := fun x y hx hy => pick_bits x y s hx hy
 rw [hm] at hpb
 obtain ⟨r, hr⟩ : ∃ r, pickN s a b = r := ⟨_, rfl⟩
 have hll : (lims 4 r).length = (lims 4 a).length := by rw [lims_len, lims_len]
 have hr' := zH hr
 have hll' := zH hll
 clear hm hr hll
 go_loopw [12] (fun kv wr => ∃ k : Nat, k ≤ 4 ∧ kv = .int .i64 k ∧ Arr wr w.heap.size (mixl k (lims 4 r) (lims 4 a)) ∧ Arr wr (w.heap.size + 1) (lims 4 b) ∧ Arr wr (w.heap.size + 1 + 1) (lims 4 0) ∧ Below w.heap.size w wr) (fun kv _ => 4 - (intOf kv).toNat)
 case atStart => exact ⟨0, Nat.zero_le _, rfl, by rw [mixl_zero]; exact h1, h2, h3, hb0⟩
 case round =>
  obtain ⟨k, hk, rfl, k1, k2, k3, kb⟩ := hrel
  clear h1 h2 h3 hb0 hsz
  by_cases hlt : k < 4
  · obtain ⟨x, hx⟩ : ∃ x, a / 18446744073709551616 ^ k % 18446744073709551616 = x := ⟨_, rfl⟩
    obtain ⟨y, hy⟩ : ∃ y, b / 18446744073709551616 ^ k % 18446744073709551616 = y := ⟨_, rfl⟩
    have hxl : x < 18446744073709551616 := by rw [← hx]; exact Nat.mod_lt _ zDc
    have hyl : y < 18446744073709551616 := by rw [← hy]; exact Nat.mod_lt _ zDc
    have ha := k1.cell (j := k) (u := .int .u64 x) (by rw [mixl_get hll'.out (by rw [lims_len]; exact hlt), if_neg zOm, lims_get _ _ _ hlt, hx])
    have hbb := k2.cell (lims_get 4 b k hlt)
    rw [hy] at hbb
    have hfr := k1.frozen k
    have hx' := zH hx
    have hy' := zH hy
    clear hx hy
    have ik0 : (0 : Int) ≤ (k : Int) := by omega
    have ik4 : (k : Int) < 4 := by omega
    go_wp2_with fail
    go_still_tail 14, zKr
    change wpList _ _ _ _ _ wr.drew
    have ha2 : wr.drew.cell? ⟨w.heap.size, k, none⟩ = some (.int .u64 (x : Int)) := ha
    have hf2 : wr.drew.frozen? ⟨w.heap.size, k, none⟩ = false := hfr
    go_wp2_with fail
    refine ⟨⟨k + 1, by omega, by go_num, ?_, k2.other (by simp) _, k3.other (by simp; omega) _, (kb.setCell (by simp) _).drew⟩, by simp [intOf]; omega⟩
    have := k1.set k (.int .u64 ((if s = 1 then y else x : Nat) : Int))
    rw [mixl_set hll'.out (by rw [lims_get _ _ _ hlt, ← hr'.out, ← hx'.out, ← hy'.out]; unfold pickN; split <;> rfl)] at this
    exact this
  · obtain rfl : k = 4 := by omega
    have e := mixl_all hll'.out
    rw [lims_len] at e
    rw [e] at k1
    clear e
    go_wp2_with (first | (refine wpList_load_arr rfl 89 _ rfl w.heap.size rfl _ Tryz.underlying89 rfl _ k1 (by rw [lims_len]; kernel_rfl) ?_) | (refine wpList_store_arr rfl 89 _ _ rfl (w.heap.size + 1 + 1) (lims 4 r) rfl rfl _ k3 (by rw [lims_len]; kernel_rfl) (by rw [lims_len, lims_len]) (lims_one _ _) ?_))
    refine bodyPost_ret (v := .agg (lims 4 r).toArray) (results_arr Tryz.results116 _ _ (w.heap.size + 1 + 1) _ rfl Tryz.underlying89 rfl _ (k3.setRow _) (by rw [lims_len]; kernel_rfl)) rfl ⟨by rw [hr'.out], below_setRow kb zOm _⟩
end Go.Proofs.YtncnlfpiondpnaaGreat
