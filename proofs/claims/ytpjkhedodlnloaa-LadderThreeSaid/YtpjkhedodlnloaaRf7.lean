/- Reference of the field: Canon, Add, Sub, Mul. -/
import Derived.Test.YtpjkhedodlnloaaRf6
import Derived.Test.YtpjkhedodlnloaaFl1
namespace Go.Proofs.Ytpjkhedodlnloaa
open Go.RowKit

/-- Digits of a number modulo p, that are not too great. -/
def El (n : Int) (xs : List Int) : Prop := xs.length = 16 ∧ Bd 262144 xs ∧ (-(65536 ^ 16 * 4) ≤ valZ xs ∧ valZ xs < 65536 ^ 16 * 4) ∧ valZ xs % pN = n % pN
def addL (xs ys : List Int) : List Int := rep (valZ xs + valZ ys)
def subL (xs ys : List Int) : List Int := rep (valZ xs - valZ ys)
def mulL (xs ys : List Int) : List Int := rep (fv (mulZ xs ys))

theorem El.mkrep {V n K : Int} (h0 : -(65536 ^ 16 * K) ≤ V) (h1 : V < 65536 ^ 16 * K) (hK : K ≤ 1024) (hn : V % pN = n % pN) : El n (rep V) := by
  refine ⟨rep_len V, fun x hx => ?_, ?_, by rw [valZ_rep, fv_mod, hn]⟩
  · have := rep_bd h0 h1 x hx
    constructor <;> omega
  · rw [valZ_rep]
    have := fv_bd h0 h1
    constructor <;> omega

theorem El.add {a b : Int} {xs ys : List Int} (hx : El a xs) (hy : El b ys) : El (a + b) (addL xs ys) := by
  refine El.mkrep (K := 8) ?_ ?_ (by decide) (by rw [Int.add_emod, hx.2.2.2, hy.2.2.2, ← Int.add_emod])
  · have := hx.2.2.1; have := hy.2.2.1; omega
  · have := hx.2.2.1; have := hy.2.2.1; omega
theorem El.sub {a b : Int} {xs ys : List Int} (hx : El a xs) (hy : El b ys) : El (a - b) (subL xs ys) := by
  refine El.mkrep (K := 8) ?_ ?_ (by decide) (by rw [Int.sub_emod, hx.2.2.2, hy.2.2.2, ← Int.sub_emod])
  · have := hx.2.2.1; have := hy.2.2.1; omega
  · have := hx.2.2.1; have := hy.2.2.1; omega
theorem El.mul {a b : Int} {xs ys : List Int} (hx : El a xs) (hy : El b ys) : El (a * b) (mulL xs ys) := by
  have ho := (Bd.outer (C := 262144) (by decide) hx.2.1 hy.2.1 16).mono (B := 17592186044416) (by decide)
  have hob := ofunZ_bd (by decide) ho 16
  have hvb := valZ_bd (by decide) _ hob
  rw [ofunZ_len, show valZ (ofunZ (outerZ xs ys 16) 16) = mulZ xs ys from rfl] at hvb
  have hf := fv_bd (K := 2251799813685248) (V := mulZ xs ys) (by omega) (by omega)
  refine El.mkrep (K := 2) ?_ ?_ (by decide) ?_
  · omega
  · omega
  · rw [fv_mod, mulZ_mod hx.1 hy.1, Int.mul_emod, hx.2.2.2, hy.2.2.2, ← Int.mul_emod]
theorem El.of {n : Nat} (hn : n < 256 ^ 32) : El n (rep n) := by
  have h2 : ((256 ^ 32 : Nat) : Int) = 65536 ^ 16 := by decide
  exact El.mkrep (K := 1) (by omega) (by omega) (by decide) rfl
theorem El.cong {m n : Int} {xs : List Int} (h : El m xs) (e : m % pN = n % pN) : El n xs := ⟨h.1, h.2.1, h.2.2.1, by rw [h.2.2.2, e]⟩
theorem El.len {n : Int} {xs : List Int} (h : El n xs) : (el xs).length = 16 := by rw [el_len, h.1]

theorem radd_el {a b : Int} {xs ys : List Int} (hx : El a xs) (hy : El b ys) (w : World) :
    Calls Try.prog 24 #[.agg (el xs).toArray, .agg (el ys).toArray] w fun e w' => e = .returned (.agg (el (addL xs ys)).toArray) ∧ Below w.heap.size w w' :=
  radd_any xs ys hx.1 hy.1 (hx.2.1.mono (by decide)) (hy.2.1.mono (by decide)) w
theorem rsub_el {a b : Int} {xs ys : List Int} (hx : El a xs) (hy : El b ys) (w : World) :
    Calls Try.prog 26 #[.agg (el xs).toArray, .agg (el ys).toArray] w fun e w' => e = .returned (.agg (el (subL xs ys)).toArray) ∧ Below w.heap.size w w' :=
  rsub_any xs ys hx.1 hy.1 (hx.2.1.mono (by decide)) (hy.2.1.mono (by decide)) w
theorem rmul_el {a b : Int} {xs ys : List Int} (hx : El a xs) (hy : El b ys) (w : World) :
    Calls Try.prog 25 #[.agg (el xs).toArray, .agg (el ys).toArray] w fun e w' => e = .returned (.agg (el (mulL xs ys)).toArray) ∧ Below w.heap.size w w' :=
  rmul_any xs ys hx.1 hy.1 hx.2.1 hy.2.1 w
theorem rout_el {n : Int} {xs : List Int} {r : Nat} (hx : El n xs) (hr : n % pN = r) (w : World) :
    Calls Try.prog 27 #[.agg (el xs).toArray] w fun e w' => e = .returned (.agg (byts r).toArray) ∧ Below w.heap.size w w' := by
  have := rout_any xs hx.1 (hx.2.1.mono (by decide)) w
  rw [hx.2.2.2, hr, Int.toNat_natCast] at this
  exact this

theorem sub_modZ (a b : Nat) : ((a : Int) - (b : Int)) % pN = ((a % pN + pN - b % pN) % pN : Nat) := by
  have hb := Nat.mod_lt b pN_pos
  rw [Int.natCast_emod, Int.ofNat_sub (by omega), Int.natCast_add, Int.natCast_emod, Int.natCast_emod]
  have h1 := Int.mul_ediv_add_emod (a : Int) pN
  have h2 := Int.mul_ediv_add_emod (b : Int) pN
  have e : (a : Int) - b = ((a : Int) % pN + pN - (b : Int) % pN) + pN * ((a : Int) / pN - (b : Int) / pN - 1) := by
    rw [Int.mul_sub, Int.mul_sub, Int.mul_one]; omega
  rw [e, Int.add_mul_emod_self_left]

end Go.Proofs.Ytpjkhedodlnloaa
