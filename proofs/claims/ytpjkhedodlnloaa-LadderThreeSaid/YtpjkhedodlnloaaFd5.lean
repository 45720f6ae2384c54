/- field: of, Canon, Add, Sub, Mul, Inv, Pow, Pick. -/
import Derived.Test.YtpjkhedodlnloaaFd4
namespace Go.Proofs.Ytpjkhedodlnloaa
open Go.RowKit

theorem p_lt32 (n : Nat) : n % pN < 256 ^ 32 := Nat.lt_trans (Nat.mod_lt _ pN_pos) (by decide)
theorem lim_of32 {n : Nat} (h : n < 256 ^ 32) : n < 18446744073709551616 ^ 4 := Nat.lt_of_lt_of_le h (by decide)

end Go.Proofs.Ytpjkhedodlnloaa
