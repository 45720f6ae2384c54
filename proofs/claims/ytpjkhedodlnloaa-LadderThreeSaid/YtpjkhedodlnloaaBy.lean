/- Bytes of a number that are set. -/
import Derived.Test.YtpjkhedodlnloaaFl1
namespace Go.Proofs.Ytpjkhedodlnloaa
open Go.RowKit

theorem byts_set {n k v m : Nat} (hk : k < 32) (hn : n < 256 ^ 32) (hv : v < 256) (h : m + 256 ^ k * (n / 256 ^ k % 256) = n + 256 ^ k * v) : (byts n).set k (.int .u8 (v : Int)) = byts m := by
  have h1 := val_set 256 (digs 256 32 n) k _ v (digs_get 256 32 n k hk)
  rw [val_digs, Nat.mod_eq_of_lt hn] at h1
  have h2 : val 256 ((digs 256 32 n).set k v) = m := by omega
  have h3 := digs_val 256 (by decide) ((digs 256 32 n).set k v) (set_lt (digs_lt 256 32 n (by decide)) hv)
  rw [List.length_set, digs_len, h2] at h3
  rw [byts, byts, h3, List.map_set]

theorem byts_lit2 (x y : Nat) (hx : x < 256) (hy : y < 256) : (byts (x + 256 * y)).toArray = #[.int .u8 (x : Int), .int .u8 (y : Int), .int .u8 0, .int .u8 0, .int .u8 0, .int .u8 0, .int .u8 0, .int .u8 0, .int .u8 0, .int .u8 0, .int .u8 0, .int .u8 0, .int .u8 0, .int .u8 0, .int .u8 0, .int .u8 0, .int .u8 0, .int .u8 0, .int .u8 0, .int .u8 0, .int .u8 0, .int .u8 0, .int .u8 0, .int .u8 0, .int .u8 0, .int .u8 0, .int .u8 0, .int .u8 0, .int .u8 0, .int .u8 0, .int .u8 0, .int .u8 0] := by
  have h := byts_set (n := x) (k := 1) (v := y) (m := x + 256 * y) (by decide) (Nat.lt_trans hx (by decide)) hy (by rw [Nat.pow_one, Nat.div_eq_of_lt hx]; rfl)
  rw [← h]
  have h2 := byts_lit x hx
  have h3 : byts x = _ := congrArg Array.toList h2
  rw [h3]
  rfl

theorem byts_fill (k : Nat) (hk : k < 32) : (byts (256 ^ k - 1)).set k (.int .u8 255) = byts (256 ^ (k + 1) - 1) := by
  have hp : 0 < 256 ^ k := Nat.pow_pos (by decide)
  have hle : 256 ^ k ≤ 256 ^ 32 := Nat.pow_le_pow_right (by decide) (by omega)
  refine byts_set (v := 255) hk (by omega) (by decide) ?_
  rw [Nat.div_eq_of_lt (by omega), Nat.pow_succ]
  omega

end Go.Proofs.Ytpjkhedodlnloaa
