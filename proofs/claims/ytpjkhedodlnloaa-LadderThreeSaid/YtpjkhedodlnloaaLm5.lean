/- limb: Less, Bit. -/
import Derived.Test.YtpjkhedodlnloaaLm4
namespace Go.Proofs.Ytpjkhedodlnloaa
open Go.RowKit

/-- 2^256. -/
theorem two256 : (18446744073709551616 : Nat) ^ 4 = 115792089237316195423570985008687907853269984665640564039457584007913129639936 := by decide

theorem borrow_all {a b : Nat} (ha : a < 18446744073709551616 ^ 4) (hb : b < 18446744073709551616 ^ 4) : borrow 18446744073709551616 4 a b = if a < b then 1 else 0 := by
  unfold borrow
  rw [Nat.mod_eq_of_lt ha, Nat.mod_eq_of_lt hb]

end Go.Proofs.Ytpjkhedodlnloaa
