/- field: Square, Root. -/
import Derived.Test.YtpjkhedodlnloaaFd5
import Derived.Test.YtpjkhedodlnloaaEq
import Derived.Test.YtpjkhedodlnloaaNq
namespace Go.Proofs.Ytpjkhedodlnloaa
open Go.RowKit

def eN : Nat := 7237005577332262213973186563042994240829374041602535252466099000494570602494
def hN : Nat := 28948022309329048855892746252171976963317496166410141009864396001978282409974
def iN : Nat := 19681161376707505956807079304988542015446066515923890162744021073123829784752
theorem hN_two : 2 * hN = pN - 1 := by decide
theorem eN_four : 4 * eN = hN + 2 := by decide
theorem iN_sq : iN * iN % pN = pN - 1 := by decide
theorem pN_odd : pN % 2 = 1 := by decide
theorem pN_prime : Nt.Prime pN := Nt.prime_p
theorem lims_e : (lims 4 eN).toArray = #[.int .u64 18446744073709551614, .int .u64 18446744073709551615, .int .u64 18446744073709551615, .int .u64 1152921504606846975] := by kernel_rfl
theorem lims_i : (lims 4 iN).toArray = #[.int .u64 14190309331451158704, .int .u64 3405592160176694392, .int .u64 3120150775007532967, .int .u64 3135389899092516619] := by kernel_rfl

theorem eq_lims (m n : Nat) (hm : m < 18446744073709551616 ^ 4) (hn : n < 18446744073709551616 ^ 4) (w : World) :
    (Op.equalIn 10000 35 (.agg (lims 4 m).toArray) (.agg (lims 4 n).toArray)).run Try.prog w = .ok (decide (m = n)) w := by
  have h := run_eq_ints (P := Try.prog) (t := 35) (e := 33) (k := .u64) (n := 4) Try.underlying35 Try.underlying33 (by kernel_rfl) (by kernel_rfl) ((digs 18446744073709551616 4 m).map Int.ofNat) ((digs 18446744073709551616 4 n).map Int.ofNat) (by simp [digs_len]) (by simp [digs_len]) w
  have e : ∀ k, ((digs 18446744073709551616 4 k).map Int.ofNat).map (Value.int .u64) = lims 4 k := by intro k; simp only [lims, List.map_map]; rfl
  rw [e, e] at h
  have e2 : ((digs 18446744073709551616 4 m).map Int.ofNat = (digs 18446744073709551616 4 n).map Int.ofNat) = (m = n) := by
    refine propext ⟨fun h1 => digs_inj ((List.map_inj_right (fun a b h => Int.ofNat.inj h)).1 h1) hm hn, ?_⟩
    rintro rfl; rfl
  rw [h]
  simp only [e2]

theorem rtok_def (a : Nat) : Nt.rtok pN eN iN a = decide (Nt.rtx pN eN iN a * Nt.rtx pN eN iN a % pN = a) := by
  unfold Nt.rtok
  rw [Bool.eq_iff_iff]
  simp

end Go.Proofs.Ytpjkhedodlnloaa
