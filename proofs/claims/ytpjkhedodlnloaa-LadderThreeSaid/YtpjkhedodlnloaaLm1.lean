/- limb: Num. -/
import Derived.Test.YtpjkhedodlnloaaRows
import Derived.Test.YtpjkhedodlnloaaAr
import Derived.Test.YtpjkhedodlnloaaReg
namespace Go.Proofs.Ytpjkhedodlnloaa
open Go.RowKit

/-- The k lowest limbs of n. -/
def lims (k n : Nat) : List Value := (digs 18446744073709551616 k n).map fun (x : Nat) => .int .u64 (x : Int)
/-- The 32 bytes of n. -/
def byts (n : Nat) : List Value := (digs 256 32 n).map fun (x : Nat) => .int .u8 (x : Int)

theorem lims_len (k n : Nat) : (lims k n).length = k := by simp [lims, digs_len]
theorem byts_len (n : Nat) : (byts n).length = 32 := by simp [byts, digs_len]
theorem lims_get (k n i : Nat) (h : i < k) : (lims k n)[i]? = some (.int .u64 ((n / 18446744073709551616 ^ i % 18446744073709551616 : Nat) : Int)) := by simp [lims, digs_get _ _ _ _ h]
theorem byts_get (n i : Nat) (h : i < 32) : (byts n)[i]? = some (.int .u8 ((n / 256 ^ i % 256 : Nat) : Int)) := by simp [byts, digs_get _ _ _ _ h]

theorem lims_one (k n : Nat) : ∀ v ∈ lims k n, v.oneCell' = true := by
  intro v hv
  simp only [lims, List.mem_map] at hv
  obtain ⟨x, -, rfl⟩ := hv
  rfl
theorem byts_one (n : Nat) : ∀ v ∈ byts n, v.oneCell' = true := by
  intro v hv
  simp only [byts, List.mem_map] at hv
  obtain ⟨x, -, rfl⟩ := hv
  rfl

set_option maxHeartbeats 1000000 in
theorem limNum_any (n : Nat) (w : World) :
    Calls Try.prog 20 #[.agg (lims 4 n).toArray] w fun e w' => e = .returned (.agg (byts n).toArray) ∧ Below w.heap.size w w' := by
  go_enter Try.func20, Try.ntmps20
  go_wp2_with fail
  refine wp_new3 (fun W hsz h1 h2 h3 hb => ?_)
  go_loopw [5] (fun kv wr => ∃ k : Nat, k ≤ 32 ∧ kv = .int .i64 k ∧ Arr wr w.heap.size (lims 4 n) ∧ Arr wr (w.heap.size + 1 + 1) (part k (byts n) (.int .u8 0)) ∧ Arr wr (w.heap.size + 1) (List.replicate 32 (.int .u8 0)) ∧ Below w.heap.size w wr) (fun kv _ => 32 - (intOf kv).toNat)
  case atStart => exact ⟨0, Nat.zero_le _, rfl, h1, h3, h2, hb⟩
  case round =>
    obtain ⟨k, hk, rfl, k1, k3, k2, kb⟩ := hrel
    clear h1 h2 h3 hb hsz
    by_cases hlt : k < 32
    · have hc := k1.cell (lims_get 4 n (k / 8) (by omega))
      have hf := k3.frozen k
      have hd := k3.cell (j := k) (u := .int .u8 0) (by rw [part_get k k (byts n) (.int .u8 0) (by rw [byts_len]; exact hlt), if_neg (by omega)])
      go_wp2_with fail
      have e : (n : Int) / 18446744073709551616 ^ (k / 8) % 18446744073709551616 / 2 ^ (8 * (k % 8)) % 256 = ((n / 256 ^ k % 256 : Nat) : Int) := by
        rw [← limb_byte]; simp
      rw [e]
      refine ⟨⟨k + 1, by omega, by go_num, k1.other (by simp; omega) _, ?_, k2.other (by simp) _, kb.setCell (by simp; omega) _⟩, by simp [intOf]; omega⟩
      have := k3.set k (.int .u8 ((n / 256 ^ k % 256 : Nat) : Int))
      rwa [part_set (byts_get n k hlt)] at this
    · obtain rfl : k = 32 := by omega
      have h4 : Arr wr (w.heap.size + 1 + 1) (byts n) := by
        have e := part_all (byts n) (.int .u8 0)
        rw [byts_len] at e
        rwa [e] at k3
      have hl := byts_len n
      have hone : ∀ v ∈ byts n, v.oneCell' = true := by
        intro v hv
        simp only [byts, List.mem_map] at hv
        obtain ⟨x, -, rfl⟩ := hv
        rfl
      clear k3
      go_wp2_with (first | (refine wpList_load_arr rfl 23 _ rfl (w.heap.size + 1 + 1) rfl _ Try.underlying23 rfl _ h4 (by rw [hl]; kernel_rfl) ?_) | (refine wpList_store_arr rfl 23 _ _ rfl (w.heap.size + 1) (byts n) rfl rfl _ k2 (by rw [hl]; kernel_rfl) (by rw [hl]; simp) hone ?_))
      refine bodyPost_ret (v := .agg (byts n).toArray) (results_arr Try.results20 _ _ (w.heap.size + 1) _ rfl Try.underlying23 rfl _ (k2.setRow _) (by rw [hl]; kernel_rfl)) rfl ⟨rfl, below_setRow kb (by omega) _⟩

end Go.Proofs.Ytpjkhedodlnloaa
