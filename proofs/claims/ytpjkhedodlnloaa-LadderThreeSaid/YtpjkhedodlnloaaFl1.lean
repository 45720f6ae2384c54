/- Field laws: small, alive, FieldPicks' walk. -/
import Derived.Test.YtpjkhedodlnloaaFd6
import Derived.Test.YtpjkhedodlnloaaInN
namespace Go.Proofs.Ytpjkhedodlnloaa
open Go.RowKit

theorem byts_lit (v : Nat) (hv : v < 256) : (byts v).toArray = #[.int .u8 (v : Int), .int .u8 0, .int .u8 0, .int .u8 0, .int .u8 0, .int .u8 0, .int .u8 0, .int .u8 0, .int .u8 0, .int .u8 0, .int .u8 0, .int .u8 0, .int .u8 0, .int .u8 0, .int .u8 0, .int .u8 0, .int .u8 0, .int .u8 0, .int .u8 0, .int .u8 0, .int .u8 0, .int .u8 0, .int .u8 0, .int .u8 0, .int .u8 0, .int .u8 0, .int .u8 0, .int .u8 0, .int .u8 0, .int .u8 0, .int .u8 0, .int .u8 0] := by
  have e : ∀ i, 0 < i → v / 256 ^ i % 256 = 0 := by
    intro i hi
    obtain ⟨j, rfl⟩ : ∃ j, i = j + 1 := ⟨i - 1, by omega⟩
    rw [Nat.pow_succ, Nat.mul_comm, ← Nat.div_div_eq_div_mul, Nat.div_eq_of_lt hv, Nat.zero_div]
  simp only [byts, digs, show List.range 32 = 0 :: (List.range' 1 31) from by decide, List.map_cons, List.map_map, Nat.pow_zero, Nat.div_one, Nat.mod_eq_of_lt hv]
  rw [show List.map ((fun (x : Nat) => Value.int IntKind.u8 (x : Int)) ∘ fun i => v / 256 ^ i % 256) (List.range' 1 31) = List.map (fun _ => Value.int .u8 0) (List.range' 1 31) from List.map_congr_left (fun i hi => by
    simp only [List.mem_range'_1] at hi
    simp only [Function.comp_apply, e i (by omega)]
    rfl)]
  rfl
theorem byts_0 : (byts 0).toArray = #[.int .u8 0, .int .u8 0, .int .u8 0, .int .u8 0, .int .u8 0, .int .u8 0, .int .u8 0, .int .u8 0, .int .u8 0, .int .u8 0, .int .u8 0, .int .u8 0, .int .u8 0, .int .u8 0, .int .u8 0, .int .u8 0, .int .u8 0, .int .u8 0, .int .u8 0, .int .u8 0, .int .u8 0, .int .u8 0, .int .u8 0, .int .u8 0, .int .u8 0, .int .u8 0, .int .u8 0, .int .u8 0, .int .u8 0, .int .u8 0, .int .u8 0, .int .u8 0] := byts_lit 0 (by decide)

theorem eq_num {m n : Nat} {b : Bool} (hb : decide (m = n) = b) (hm : m < 256 ^ 32) (hn : n < 256 ^ 32) (w : World) :
    (Op.equalIn 10000 23 (.agg (byts m).toArray) (.agg (byts n).toArray)).run Try.prog w = .ok b w := by rw [eq_byts m n hm hn w, hb]
theorem eq_num0 {m : Nat} {b : Bool} (hb : decide (m = 0) = b) (hm : m < 256 ^ 32) (w : World) :
    (Op.equalIn 10000 23 (.agg (byts m).toArray) (.agg #[.int .u8 0, .int .u8 0, .int .u8 0, .int .u8 0, .int .u8 0, .int .u8 0, .int .u8 0, .int .u8 0, .int .u8 0, .int .u8 0, .int .u8 0, .int .u8 0, .int .u8 0, .int .u8 0, .int .u8 0, .int .u8 0, .int .u8 0, .int .u8 0, .int .u8 0, .int .u8 0, .int .u8 0, .int .u8 0, .int .u8 0, .int .u8 0, .int .u8 0, .int .u8 0, .int .u8 0, .int .u8 0, .int .u8 0, .int .u8 0, .int .u8 0, .int .u8 0])).run Try.prog w = .ok b w := by
  have := eq_byts m 0 hm (by decide) w
  rw [byts_0, hb] at this
  exact this

end Go.Proofs.Ytpjkhedodlnloaa
