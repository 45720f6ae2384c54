import Derived.Test.YtmlmggmnlgcbcaaGreatJb25

namespace Go.Proofs.YtmlmggmnlgcbcaaGreat
open Go.RowKit
theorem byts_set {n k v m : Nat} (hk : k < 32) (hn : n < 256 ^ 32) (hv : v < 256) (h : m + 256 ^ k * (n / 256 ^ k % 256) = n + 256 ^ k * v) : (byts n).set k (.int .u8 (v : Int)) = byts m := by
  have h1 := val_set 256 (digs 256 32 n) k _ v (digs_get 256 32 n k hk)
  rw [val_digs, Nat.mod_eq_of_lt hn] at h1
  have h2 : val 256 ((digs 256 32 n).set k v) = m := by omega
  have h3 := digs_val 256 (by decide) ((digs 256 32 n).set k v) (set_lt (digs_lt 256 32 n (by decide)) hv)
  rw [List.length_set, digs_len, h2] at h3
  rw [byts, byts, h3, List.map_set]
end Go.Proofs.YtmlmggmnlgcbcaaGreat

