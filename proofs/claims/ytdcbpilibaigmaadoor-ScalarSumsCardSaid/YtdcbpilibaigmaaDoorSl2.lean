/- The walk of ScalarRules. -/
import Derived.Test.YtdcbpilibaigmaaDoorSl1
import Derived.Test.YtdcbpilibaigmaaDoorInN
namespace Go.Proofs.YtdcbpilibaigmaaDoor
open Go.RowKit

theorem byts_u8s (a : Nat) : byts a = u8s ((digs 256 32 a).map UInt8.ofNat) := by
  simp only [byts, u8s, List.map_map]
  apply List.map_congr_left
  intro x hx
  have := digs_lt 256 32 a (by decide) x hx
  simp
  omega

theorem val_u8s (a : Nat) (ha : a < 256 ^ 32) : val 256 ((((digs 256 32 a).map UInt8.ofNat).take 64).map (·.toNat)) = a := by
  rw [List.take_of_length_le (by simp [digs_len]), List.map_map]
  have e : List.map ((fun x => x.toNat) ∘ UInt8.ofNat) (digs 256 32 a) = digs 256 32 a := by
    conv => rhs; rw [← List.map_id (digs 256 32 a)]
    apply List.map_congr_left
    intro x hx
    have := digs_lt 256 32 a (by decide) x hx
    simp
    omega
  rw [e, val_digs, Nat.mod_eq_of_lt ha]

/-- Reduce of a whole Num. -/
theorem scReduceArr (a : Nat) (ha : a < 256 ^ 32) (g : Nat) (w : World) (h : Arr w g (byts a)) :
    Calls Tryd.prog 7 #[.slice (some ⟨g, 0, none⟩) 32 32] w fun e w' => e = .returned (.agg (byts (a % qN)).toArray) ∧ Below w.heap.size w w' := by
  have hs := Sl.of_arr h (by rw [byts_len]; decide)
  rw [byts_len, byts_u8s] at hs
  have := scReduce_any _ _ _ _ w hs
  rwa [val_u8s a ha] at this

theorem scMulOne (a : Nat) (ha : a < 256 ^ 32) (w : World) :
    Calls Tryd.prog 12 #[.agg (byts a).toArray, .agg #[.int .u8 1, .int .u8 0, .int .u8 0, .int .u8 0, .int .u8 0, .int .u8 0, .int .u8 0, .int .u8 0, .int .u8 0, .int .u8 0, .int .u8 0, .int .u8 0, .int .u8 0, .int .u8 0, .int .u8 0, .int .u8 0, .int .u8 0, .int .u8 0, .int .u8 0, .int .u8 0, .int .u8 0, .int .u8 0, .int .u8 0, .int .u8 0, .int .u8 0, .int .u8 0, .int .u8 0, .int .u8 0, .int .u8 0, .int .u8 0, .int .u8 0, .int .u8 0]] w fun e w' => e = .returned (.agg (byts (a * 1 % qN)).toArray) ∧ Below w.heap.size w w' := scMul_any a 1 ha (by decide) w
theorem scAddZero (a : Nat) (ha : a < 256 ^ 32) (w : World) :
    Calls Tryd.prog 10 #[.agg (byts a).toArray, .agg #[.int .u8 0, .int .u8 0, .int .u8 0, .int .u8 0, .int .u8 0, .int .u8 0, .int .u8 0, .int .u8 0, .int .u8 0, .int .u8 0, .int .u8 0, .int .u8 0, .int .u8 0, .int .u8 0, .int .u8 0, .int .u8 0, .int .u8 0, .int .u8 0, .int .u8 0, .int .u8 0, .int .u8 0, .int .u8 0, .int .u8 0, .int .u8 0, .int .u8 0, .int .u8 0, .int .u8 0, .int .u8 0, .int .u8 0, .int .u8 0, .int .u8 0, .int .u8 0]] w fun e w' => e = .returned (.agg (byts ((a + 0) % qN)).toArray) ∧ Below w.heap.size w w' := scAdd_any a 0 ha (by decide) w

theorem scAdd_r {a b r : Nat} (hr : Hid ((a + b) % qN = r)) (ha : a < 256 ^ 32) (hb : b < 256 ^ 32) (w : World) :
    Calls Tryd.prog 10 #[.agg (byts a).toArray, .agg (byts b).toArray] w fun e w' => e = .returned (.agg (byts r).toArray) ∧ Below w.heap.size w w' := by rw [← hr.out]; exact scAdd_any a b ha hb w
theorem scMul_r {a b r : Nat} (hr : Hid (a * b % qN = r)) (ha : a < 256 ^ 32) (hb : b < 256 ^ 32) (w : World) :
    Calls Tryd.prog 12 #[.agg (byts a).toArray, .agg (byts b).toArray] w fun e w' => e = .returned (.agg (byts r).toArray) ∧ Below w.heap.size w w' := by rw [← hr.out]; exact scMul_any a b ha hb w
theorem scReduceArr_r {a r : Nat} (hr : Hid (a % qN = r)) (ha : a < 256 ^ 32) {g : Nat} {w : World} (h : Arr w g (byts a)) :
    Calls Tryd.prog 7 #[.slice (some ⟨g, 0, none⟩) 32 32] w fun e w' => e = .returned (.agg (byts r).toArray) ∧ Below w.heap.size w w' := by rw [← hr.out]; exact scReduceArr a ha g w h
theorem scMulOne_r {a r : Nat} (hr : Hid (a % qN = r)) (ha : a < 256 ^ 32) (w : World) :
    Calls Tryd.prog 12 #[.agg (byts a).toArray, .agg #[.int .u8 1, .int .u8 0, .int .u8 0, .int .u8 0, .int .u8 0, .int .u8 0, .int .u8 0, .int .u8 0, .int .u8 0, .int .u8 0, .int .u8 0, .int .u8 0, .int .u8 0, .int .u8 0, .int .u8 0, .int .u8 0, .int .u8 0, .int .u8 0, .int .u8 0, .int .u8 0, .int .u8 0, .int .u8 0, .int .u8 0, .int .u8 0, .int .u8 0, .int .u8 0, .int .u8 0, .int .u8 0, .int .u8 0, .int .u8 0, .int .u8 0, .int .u8 0]] w fun e w' => e = .returned (.agg (byts r).toArray) ∧ Below w.heap.size w w' := by rw [← hr.out]; have := scMulOne a ha w; rwa [Nat.mul_one] at this
theorem scAddZero_r {a r : Nat} (hr : Hid (a % qN = r)) (ha : a < 256 ^ 32) (w : World) :
    Calls Tryd.prog 10 #[.agg (byts a).toArray, .agg #[.int .u8 0, .int .u8 0, .int .u8 0, .int .u8 0, .int .u8 0, .int .u8 0, .int .u8 0, .int .u8 0, .int .u8 0, .int .u8 0, .int .u8 0, .int .u8 0, .int .u8 0, .int .u8 0, .int .u8 0, .int .u8 0, .int .u8 0, .int .u8 0, .int .u8 0, .int .u8 0, .int .u8 0, .int .u8 0, .int .u8 0, .int .u8 0, .int .u8 0, .int .u8 0, .int .u8 0, .int .u8 0, .int .u8 0, .int .u8 0, .int .u8 0, .int .u8 0]] w fun e w' => e = .returned (.agg (byts r).toArray) ∧ Below w.heap.size w w' := by rw [← hr.out]; have := scAddZero a ha w; rwa [Nat.add_zero] at this

theorem mod_q_lt (n : Nat) : n % qN < 256 ^ 32 := Nat.lt_trans (Nat.mod_lt _ qN_pos) (by decide)

/-- Equal numbers. -/
theorem eq_true (m n : Nat) (h : m = n) (hm : m < 256 ^ 32) (w : World) : (Op.equalIn 10000 25 (.agg (byts m).toArray) (.agg (byts n).toArray)).run Tryd.prog w = .ok true w := by
  rw [eq_byts m n hm (h ▸ hm) w, decide_eq_true h]

end Go.Proofs.YtdcbpilibaigmaaDoor
