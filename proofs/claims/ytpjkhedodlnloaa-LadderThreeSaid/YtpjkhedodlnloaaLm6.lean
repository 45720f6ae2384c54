/- limb: Mul64, digits of a product. -/
import Derived.Test.YtpjkhedodlnloaaLm5
import Derived.WalkKit
import Derived.Lib.Mul64
import Derived.Laws.Bits64b
namespace Go.Proofs.Ytpjkhedodlnloaa
open Go.RowKit Go.Lib

namespace M64
theorem maskN (a : Nat) (ha : a < 18446744073709551616) : bits .and .u64 (a : Int) 4294967295 = ((a % 4294967296 : Nat) : Int) := by
  have h := bits_and_u64_nat a 4294967295 ha (by omega)
  have e : a &&& 4294967295 = a % 4294967296 := Nat.and_two_pow_sub_one_eq_mod a 32
  rw [e] at h
  exact h
theorem divN (a : Nat) : (a : Int) / 4294967296 = ((a / 4294967296 : Nat) : Int) := by omega
theorem mulN (a b : Nat) : (a : Int) * (b : Int) = ((a * b : Nat) : Int) := (Int.natCast_mul a b).symm
theorem addN (a b : Nat) : (a : Int) + (b : Int) = ((a + b : Nat) : Int) := (Int.natCast_add a b).symm
theorem wrapN (a : Nat) (ha : a < 18446744073709551616) : IntKind.u64.wrap (a : Int) = (a : Int) := by rw [IntKind.wrap_u64]; omega
theorem wrapM (a : Nat) : IntKind.u64.wrap (a : Int) = ((a % 18446744073709551616 : Nat) : Int) := by rw [IntKind.wrap_u64]; omega
end M64

set_option maxHeartbeats 1000000 in
theorem mul64 (x y : Nat) (hx : x < 18446744073709551616) (hy : y < 18446744073709551616) (w : World) :
    Calls Try.prog 34 #[.int .u64 x, .int .u64 y] w fun e w' => e = .returned (.tuple #[.int .u64 ((x * y / 18446744073709551616 : Nat) : Int), .int .u64 ((x * y % 18446744073709551616 : Nat) : Int)]) ∧ w' = w := by
  obtain ⟨bd, bt, bw, hhi⟩ := Lib.mul64_hi x y hx hy
  have ba := Lib.half_mul_le (a := x / 4294967296) (b := y / 4294967296) (by omega) (by omega)
  have bb := Lib.half_mul_le (a := x / 4294967296) (b := y % 4294967296) (by omega) (by omega)
  have bc := Lib.half_mul_le (a := x % 4294967296) (b := y / 4294967296) (by omega) (by omega)
  have ba' : x / 4294967296 * (y / 4294967296) < 18446744073709551616 := by omega
  have bb' : x / 4294967296 * (y % 4294967296) < 18446744073709551616 := by omega
  have bc' : x % 4294967296 * (y / 4294967296) < 18446744073709551616 := by omega
  have bh1 : x / 4294967296 * (y / 4294967296) + (x / 4294967296 * (y % 4294967296) + x % 4294967296 * (y % 4294967296) / 4294967296) / 4294967296 < 18446744073709551616 := by omega
  have bh : x / 4294967296 * (y / 4294967296) + (x / 4294967296 * (y % 4294967296) + x % 4294967296 * (y % 4294967296) / 4294967296) / 4294967296 + ((x / 4294967296 * (y % 4294967296) + x % 4294967296 * (y % 4294967296) / 4294967296) % 4294967296 + x % 4294967296 * (y / 4294967296)) / 4294967296 < 18446744073709551616 := by omega
  go_enter Try.func34, Try.ntmps34
  go_wp2
  simp only [M64.maskN x hx, M64.maskN y hy, M64.divN, M64.mulN, M64.addN, M64.wrapN _ bd, M64.wrapN _ bb', M64.wrapN _ bt, M64.maskN _ bt, M64.wrapN _ bc', M64.wrapN _ bw, M64.wrapN _ ba', M64.wrapN _ bh1, M64.wrapN _ bh, M64.wrapM (x * y)]
  rw [hhi]
  go_ret2
  exact ⟨rfl, rfl⟩

theorem add64z (x y : Nat) (w : World) :
    (callFunc 35 #[.int .u64 x, .int .u64 y, .int .u64 0]).run Try.prog w =
      .ok (.value (.tuple #[.int .u64 (((x + y) % 18446744073709551616 : Nat) : Int), .int .u64 (((x + y) / 18446744073709551616 : Nat) : Int)])) w :=
  add64 x y 0 (by decide) w

/-- Limbs as values. -/
def us (ds : List Nat) : List Value := ds.map fun (x : Nat) => .int .u64 (x : Int)
theorem lims_us (k n : Nat) : lims k n = us (digs 18446744073709551616 k n) := rfl
theorem us_len (ds : List Nat) : (us ds).length = ds.length := by simp [us]
theorem us_get (ds : List Nat) (j x : Nat) (h : ds[j]? = some x) : (us ds)[j]? = some (.int .u64 (x : Int)) := by simp [us, h]
theorem us_set (ds : List Nat) (j x : Nat) : (us ds).set j (.int .u64 (x : Int)) = us (ds.set j x) := by simp [us, List.map_set]
theorem us_one (ds : List Nat) : ∀ v ∈ us ds, v.oneCell' = true := by
  intro v hv
  simp only [us, List.mem_map] at hv
  obtain ⟨x, -, rfl⟩ := hv
  rfl
theorem us_zeros (k : Nat) : List.replicate k (Value.int .u64 0) = us (List.replicate k 0) := by simp [us]

/-- The number of digits. -/
def val (b : Nat) : List Nat → Nat
  | [] => 0
  | d :: ds => d + b * val b ds

theorem val_zeros (b k : Nat) : val b (List.replicate k 0) = 0 := by
  induction k with
  | zero => rfl
  | succ k ih => rw [List.replicate_succ, val, ih, Nat.mul_zero]

theorem val_set (b : Nat) : ∀ (ds : List Nat) (j d x : Nat), ds[j]? = some d → val b (ds.set j x) + b ^ j * d = val b ds + b ^ j * x
  | [], j, d, x, h => by simp at h
  | e :: ds, 0, d, x, h => by
    simp only [List.getElem?_cons_zero, Option.some.injEq] at h
    subst h
    simp only [List.set_cons_zero, val, Nat.pow_zero]; omega
  | e :: ds, j + 1, d, x, h => by
    simp only [List.getElem?_cons_succ] at h
    have := val_set b ds j d x h
    have h2 := congrArg (b * ·) this
    simp only [Nat.mul_add, ← Nat.mul_assoc] at h2
    simp only [List.set_cons_succ, val, Nat.pow_succ, Nat.mul_comm (b ^ j) b]
    omega

theorem val_digs (b k n : Nat) : val b (digs b k n) = n % b ^ k := by
  induction k generalizing n with
  | zero => simp [digs, val, Nat.mod_one]
  | succ k ih =>
    have e : digs b (k + 1) n = n % b :: digs b k (n / b) := by
      simp only [digs, List.range_succ_eq_map, List.map_cons, List.map_map, Nat.pow_zero, Nat.div_one]
      congr 1
      apply List.map_congr_left
      intro i _
      simp only [Function.comp_apply, Nat.pow_succ, Nat.mul_comm (b ^ i) b, Nat.div_div_eq_div_mul]
    rw [e, val, ih, Nat.pow_succ, Nat.mul_comm (b ^ k) b, Nat.mod_mul]

theorem digs_val (b : Nat) (hb : 0 < b) : ∀ (ds : List Nat), (∀ d ∈ ds, d < b) → digs b ds.length (val b ds) = ds
  | [], _ => rfl
  | d :: ds, h => by
    have hd := h d (by simp)
    have ih := digs_val b hb ds (fun x hx => h x (by simp [hx]))
    have e : digs b (ds.length + 1) (d + b * val b ds) = (d + b * val b ds) % b :: digs b ds.length ((d + b * val b ds) / b) := by
      simp only [digs, List.range_succ_eq_map, List.map_cons, List.map_map, Nat.pow_zero, Nat.div_one]
      congr 1
      apply List.map_congr_left
      intro i _
      simp only [Function.comp_apply, Nat.pow_succ, Nat.mul_comm (b ^ i) b, Nat.div_div_eq_div_mul]
    rw [List.length_cons, val, e, Nat.add_mul_mod_self_left, Nat.mod_eq_of_lt hd, Nat.add_mul_div_left _ _ hb, Nat.div_eq_of_lt hd, Nat.zero_add, ih]

theorem digs_lt (b k n : Nat) (hb : 0 < b) : ∀ d ∈ digs b k n, d < b := by
  intro d hd
  simp only [digs, List.mem_map] at hd
  obtain ⟨i, -, rfl⟩ := hd
  exact Nat.mod_lt _ hb

theorem val_lt (b : Nat) (hb : 0 < b) : ∀ (ds : List Nat), (∀ d ∈ ds, d < b) → val b ds < b ^ ds.length
  | [], _ => by simp [val]
  | d :: ds, h => by
    have hd := h d (by simp)
    have ih := val_lt b hb ds (fun x hx => h x (by simp [hx]))
    have := Nat.mul_le_mul_left b ih
    rw [Nat.mul_succ] at this
    rw [val, List.length_cons, Nat.pow_succ, Nat.mul_comm (b ^ ds.length) b]
    omega

theorem set_lt {b : Nat} {ds : List Nat} (h : ∀ d ∈ ds, d < b) {j x : Nat} (hx : x < b) : ∀ d ∈ ds.set j x, d < b := by
  intro d hd
  rcases List.mem_or_eq_of_mem_set hd with h1 | h1
  · exact h d h1
  · rw [h1]; exact hx

end Go.Proofs.Ytpjkhedodlnloaa
