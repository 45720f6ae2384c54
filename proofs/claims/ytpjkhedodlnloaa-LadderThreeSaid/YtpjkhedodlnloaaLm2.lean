/- limb: Of. -/
import Derived.Test.YtpjkhedodlnloaaLm1
import Derived.Test.YtpjkhedodlnloaaReg
import Derived.Deep.CutRange
import Derived.Deep.CutBlock
import Derived.StillTailTactics
namespace Go.Proofs.Ytpjkhedodlnloaa
open Go.RowKit

theorem info_u8 : (Try.prog.info? 5).map (fun i => (i.zero, i.size, i.bytes)) = some (some (.int .u8 0), 1, 1) := by kernel_rfl

theorem of_step {n k l0 b0 : Nat} (hl : n % 256 ^ k / 18446744073709551616 ^ (k / 8) % 18446744073709551616 = l0) (hb : n / 256 ^ k % 256 = b0) :
    bits .or .u64 (l0 : Int) (IntKind.u64.wrap ((b0 * 2 ^ (8 * (k % 8)) : Nat) : Int)) = ((n % 256 ^ (k + 1) / 18446744073709551616 ^ (k / 8) % 18446744073709551616 : Nat) : Int) := by
  obtain ⟨h1, h2, h3⟩ := of_at n k
  have e : (2 : Nat) ^ (8 * (k % 8)) = 256 ^ (k % 8) := by rw [Nat.pow_mul]
  rw [h1, hb]
  rw [hb] at h3
  have hl2 : n % 256 ^ k / 18446744073709551616 ^ (k / 8) = l0 := by rw [← hl]; exact (Nat.mod_eq_of_lt (by omega)).symm
  rw [hl2] at h2 h3 ⊢
  clear hl hl2 h1 hb
  rw [e]
  generalize 256 ^ (k % 8) = P at *
  have h4 : (b0 * P) % 2 ^ (8 * (k % 8)) = 0 := by rw [e]; exact Nat.mul_mod_left _ _
  have h5 : l0 < 2 ^ (8 * (k % 8)) := by rw [e]; exact h2
  generalize b0 * P = x at *
  have hw : IntKind.u64.wrap (x : Int) = (x : Int) := by simp [IntKind.wrap, IntKind.bits, IntKind.signed]; omega
  rw [hw, u64_or_nat _ _ (by omega) (by omega)]
  congr 1
  rw [Nat.or_comm, nat_join _ _ _ h4 h5, Nat.add_comm]

theorem lims_set_of (n k : Nat) : (lims 4 (n % 256 ^ k)).set (k / 8) (.int .u64 ((n % 256 ^ (k + 1) / 18446744073709551616 ^ (k / 8) % 18446744073709551616 : Nat) : Int)) = lims 4 (n % 256 ^ (k + 1)) := by
  apply List.ext_getElem?
  intro j
  by_cases hj : j < 4
  · rw [List.getElem?_set, lims_get _ _ _ hj, lims_get _ _ _ hj, lims_len]
    by_cases h1 : k / 8 = j
    · subst h1; rw [if_pos rfl, if_pos hj]
    · rw [if_neg h1]
      rcases Nat.lt_or_ge j (k / 8) with h2 | h2
      · rw [of_low n k j h2]
      · rw [of_high n k j (by omega)]
  · rw [List.getElem?_eq_none (by rw [List.length_set, lims_len]; omega), List.getElem?_eq_none (by rw [lims_len]; omega)]

set_option maxHeartbeats 1000000 in
set_option maxRecDepth 100000 in
theorem limOf_any (n : Nat) (hn : n < 256 ^ 32) (w : World) :
    Calls Try.prog 12 #[.agg (byts n).toArray] w fun e w' => e = .returned (.agg (lims 4 n).toArray) ∧ Below w.heap.size w w' := by
  have hbl := byts_len n
  go_enter Try.func12, Try.ntmps12
  go_upto_region 2 with fail
  refine wp_new3 (fun W hsz h1 h2 h3 hb => ?_)
  go_wp2_with (refine wpList_load_arr rfl 23 _ rfl w.heap.size rfl _ Try.underlying23 rfl _ h1 (by rw [byts_len]; kernel_rfl) ?_)
  clear h1
  go_loopw [7] (fun kv wr => ∃ k : Nat, k ≤ 32 ∧ kv = .int .i64 k ∧ Arr wr (w.heap.size + 1 + 1) (lims 4 (n % 256 ^ k)) ∧ Arr wr (w.heap.size + 1) (lims 4 0) ∧ Below w.heap.size w wr) (fun kv _ => 32 - (intOf kv).toNat)
  case atStart => exact ⟨0, Nat.zero_le _, rfl, by rw [Nat.pow_zero, Nat.mod_one]; exact h3, h2, hb⟩
  case round =>
    obtain ⟨k, hk, rfl, k3, k2, kb⟩ := hrel
    clear h2 h3 hb hsz
    by_cases hlt : k < 32
    · have hc := k3.cell (lims_get 4 (n % 256 ^ k) (k / 8) (by omega))
      have hf := k3.frozen (k / 8)
      have hbk := byts_get n k hlt
      obtain ⟨b0, hb0⟩ : ∃ b0, n / 256 ^ k % 256 = b0 := ⟨_, rfl⟩
      obtain ⟨l0, hl0⟩ : ∃ l0, n % 256 ^ k / 18446744073709551616 ^ (k / 8) % 18446744073709551616 = l0 := ⟨_, rfl⟩
      rw [hb0] at hbk
      rw [hl0] at hc
      have hb1 : b0 < 256 := by omega
      have hl1 : l0 < 18446744073709551616 := by omega
      have hb0' := Lib.hid hb0
      have hl0' := Lib.hid hl0
      clear hb0 hl0
      obtain ⟨i, hi, hz0, hz1, hz2⟩ := info_parts info_u8
      have hix := run_index_arr (P := Try.prog) wr 23 5 32 _ i Try.underlying23 Try.underlying5 rfl hi hz1 (byts n) k _ hlt hbk
      go_wp2_with fail
      have hq0 : (0 : Int) ≤ (k : Int) / 8 := by omega
      have hq1 : (k : Int) / 8 < 4 := by omega
      have ew1 : IntKind.i64.wrap ((k : Int) / 8) = (k : Int) / 8 := i64_in (by omega)
      have et : ((k : Int) / 8).toNat = k / 8 := by omega
      have em : ((k : Int)).tmod 8 = (k : Int) % 8 := Int.tmod_eq_emod_of_nonneg (by omega)
      have eb : IntKind.u64.wrap (b0 : Int) = (b0 : Int) := by simp [IntKind.wrap, IntKind.bits, IntKind.signed]; omega
      have hs0 : (0 : Int) ≤ 8 * ((k : Int) % 8) := by omega
      have ew2 : IntKind.i64.wrap ((k : Int) % 8) = (k : Int) % 8 := i64_in (by omega)
      have ew3 : IntKind.i64.wrap (8 * ((k : Int) % 8)) = 8 * ((k : Int) % 8) := i64_in (by omega)
      go_still_tail 12, (by kernel_rfl)
      change wpList _ _ _ _ _ wr.drew
      have hc2 : wr.drew.cell? ⟨w.heap.size + 1 + 1, k / 8, none⟩ = some (.int .u64 (l0 : Int)) := hc
      have hf2 : wr.drew.frozen? ⟨w.heap.size + 1 + 1, k / 8, none⟩ = false := hf
      go_wp2_with fail
      have hexp : (8 * ((k : Int) % 8)).toNat = 8 * (k % 8) := by omega
      try rw [hexp]
      rw [show (b0 : Int) * 2 ^ (8 * (k % 8)) = ((b0 * 2 ^ (8 * (k % 8)) : Nat) : Int) by simp, of_step hl0'.out hb0'.out]
      refine ⟨⟨k + 1, by omega, by go_num, ?_, (k2.other (by simp) _), (kb.setCell (by simp; omega) _).drew⟩, by simp [intOf]; omega⟩
      have := k3.set (k / 8) (.int .u64 ((n % 256 ^ (k + 1) / 18446744073709551616 ^ (k / 8) % 18446744073709551616 : Nat) : Int))
      rw [lims_set_of] at this
      exact this
    · obtain rfl : k = 32 := by omega
      rw [Nat.mod_eq_of_lt hn] at k3
      have hl := lims_len 4 n
      have hone : ∀ v ∈ lims 4 n, v.oneCell' = true := by
        intro v hv
        simp only [lims, List.mem_map] at hv
        obtain ⟨x, -, rfl⟩ := hv
        rfl
      go_wp2_with (first | (refine wpList_load_arr rfl 35 _ rfl (w.heap.size + 1 + 1) rfl _ Try.underlying35 rfl _ k3 (by rw [hl]; kernel_rfl) ?_) | (refine wpList_store_arr rfl 35 _ _ rfl (w.heap.size + 1) (lims 4 n) rfl rfl _ k2 (by rw [hl]; kernel_rfl) (by rw [hl, lims_len]) hone ?_))
      refine bodyPost_ret (v := .agg (lims 4 n).toArray) (results_arr Try.results12 _ _ (w.heap.size + 1) _ rfl Try.underlying35 rfl _ (k2.setRow _) (by rw [hl]; kernel_rfl)) rfl ⟨rfl, below_setRow kb (by omega) _⟩

end Go.Proofs.Ytpjkhedodlnloaa
