/- Reference of the field: carry. -/
import Derived.Test.YtpjkhedodlnloaaRf0
import Derived.Test.YtpjkhedodlnloaaBt
namespace Go.Proofs.Ytpjkhedodlnloaa
open Go.RowKit

/-- Digits as cells. -/
def el (xs : List Int) : List Value := xs.map (Value.int .i64)
theorem el_len (xs : List Int) : (el xs).length = xs.length := by simp [el]
theorem el_get {xs : List Int} {i : Nat} {x : Int} (h : xs[i]? = some x) : (el xs)[i]? = some (.int .i64 x) := by simp [el, h]
theorem el_set (xs : List Int) (i : Nat) (x : Int) : (el xs).set i (.int .i64 x) = el (xs.set i x) := by simp [el, List.map_set]
theorem el_one (xs : List Int) : ∀ v ∈ el xs, v.oneCell' = true := by
  intro u hu
  obtain ⟨_, _, rfl⟩ := List.mem_map.1 hu
  rfl

theorem mid_get {α : Type} {a : List α} {i : Nat} (h : a.length = i) (y : α) (t : List α) : (a ++ y :: t)[i]? = some y := by
  subst h; simp
theorem mid_set {α : Type} {a : List α} {i : Nat} (h : a.length = i) (y z : α) (t : List α) : (a ++ y :: t).set i z = a ++ z :: t := by
  subst h; simp

theorem car_digit {V y T : Int} {i : Nat} (h : y + 65536 * T = V / 65536 ^ i) : y % 65536 = V / 65536 ^ i % 65536 := by rw [← h]; omega
theorem car_next {V y x T : Int} {i : Nat} (h : y + 65536 * (x + 65536 * T) = V / 65536 ^ i) : (x + y / 65536) + 65536 * T = V / 65536 ^ (i + 1) := by
  rw [Int.pow_succ, ← Int.ediv_ediv_of_nonneg (Int.pow_nonneg (by decide)), ← h]; omega

def Bd (B : Int) (xs : List Int) : Prop := ∀ x ∈ xs, -B ≤ x ∧ x ≤ B

set_option maxHeartbeats 4000000 in
set_option maxRecDepth 100000 in
theorem carry_any (xs : List Int) (hl : xs.length = 16) (hb : Bd 1152921504606846976 xs) (w : World) :
    Calls Try.prog 38 #[.agg (el xs).toArray] w fun e w' => e = .returned (.agg (el (rep (valZ xs))).toArray) ∧ Below w.heap.size w w' := by
  obtain ⟨V, hV⟩ : ∃ V, valZ xs = V := ⟨_, rfl⟩
  rw [hV]
  obtain ⟨y0, t0, rfl⟩ : ∃ y t, xs = y :: t := by cases xs with | nil => cases hl | cons y t => exact ⟨y, t, rfl⟩
  replace hV := Lib.hid hV
  replace hl := Lib.hid hl
  replace hb := Lib.hid hb
  go_enter Try.func38, Try.ntmps38
  go_upto_region 1 with fail
  refine wp_new2 (fun W hsz k1 k2 kb => ?_)
  have k2 : Arr W (w.heap.size + 1) (el (List.replicate 16 0)) := k2
  go_wp2_with fail
  go_loopw [3] (fun kv wr => ∃ (i : Nat) (ys : List Int), kv = .int .i64 i ∧ ((i < 16 ∧ ∃ y tl, tl.length = 15 - i ∧ ys = digsZ i V ++ y :: tl ∧ y + 65536 * valZ tl = V / 65536 ^ i ∧ Bd 1152921504606846976 tl ∧ -2305843009213693952 ≤ y ∧ y ≤ 2305843009213693952) ∨ (i = 16 ∧ ys = rep V)) ∧ Arr wr w.heap.size (el ys) ∧ Arr wr (w.heap.size + 1) (el (List.replicate 16 0)) ∧ Below w.heap.size w wr) (fun kv _ => 16 - (intOf kv).toNat)
  case atStart =>
    refine ⟨0, y0 :: t0, rfl, .inl ⟨by decide, y0, t0, ?_, rfl, ?_, ?_, ?_⟩, k1, k2, kb⟩
    · have := hl.out; simp at this; omega
    · have := hV.out; rw [valZ] at this; rw [this]; simp
    · exact fun x hx => hb.out x (List.mem_cons_of_mem _ hx)
    · have := hb.out y0 (by simp); omega
  case round =>
    clear k1 k2 kb
    obtain ⟨i, ys, rfl, hcase, k1, k2, kb⟩ := hrel
    rcases hcase with ⟨hi, y, tl, htl, rfl, hval, hbd, hy1, hy2⟩ | ⟨rfl, rfl⟩
    · have hcell := k1.cell (el_get (mid_get (digsZ_len i V) y tl))
      have hfr := k1.frozen i
      go_upto_region 6 with fail
      refine code_cell k1 (fun w1 k1 hoth hbel => ?_)
      have k2 := hoth _ _ (by omega) k2
      have kb := hbel _ _ (by omega) kb
      clear hoth hbel hcell hfr
      rw [show y - y / 65536 * 65536 = y % 65536 by omega] at k1 ⊢
      rw [el_set, mid_set (digsZ_len i V)] at k1
      have hdig := car_digit hval
      by_cases h15 : i < 15
      · obtain ⟨x, t, rfl⟩ : ∃ x t, tl = x :: t := by cases tl with | nil => simp at htl; omega | cons x t => exact ⟨x, t, rfl⟩
        have hx := hbd x (by simp)
        have hnext := car_next (by rw [valZ] at hval; exact hval)
        have hsn := digsZ_snoc i V
        have hsp : digsZ i V ++ y % 65536 :: x :: t = digsZ (i + 1) V ++ x :: t := by rw [hsn, hdig, List.append_assoc]; rfl
        rw [hsp] at k1
        have hcell := k1.cell (el_get (mid_get (digsZ_len (i + 1) V) x t))
        have hfr := k1.frozen (i + 1)
        replace hdig := Lib.hid hdig
        replace hval := Lib.hid hval
        replace hnext := Lib.hid hnext
        replace hsn := Lib.hid hsn
        replace hsp := Lib.hid hsp
        replace hbd := Lib.hid hbd
        replace htl := Lib.hid htl
        go_wp2_with fail
        refine ⟨⟨i + 1, _, by go_num, .inl ⟨by omega, x + y / 65536, t, by have := htl.out; simp at this; omega, rfl, hnext.out, fun z hz => hbd.out z (List.mem_cons_of_mem _ hz), by omega, by omega⟩, ?_, k2.other (by simp) _, kb.setCell (by simp) _⟩, by simp [intOf]; omega⟩
        have := k1.set (i + 1) (.int .i64 (x + y / 65536))
        rw [el_set, mid_set (digsZ_len (i + 1) V)] at this
        exact this
      · obtain rfl : i = 15 := by omega
        obtain rfl : tl = [] := List.eq_nil_of_length_eq_zero (by omega)
        have hsp : digsZ 15 V ++ [y % 65536] = digsZ 16 V := by rw [digsZ_snoc 15 V, hdig]
        rw [hsp] at k1
        have hc : y / 65536 = V / 65536 ^ 16 := by
          rw [valZ] at hval
          rw [Int.pow_succ, ← Int.ediv_ediv_of_nonneg (Int.pow_nonneg (by decide)), ← hval]; omega
        have hcell := k1.cell (el_get (digsZ_get 16 V 0 (by decide)))
        rw [Int.pow_zero, Int.ediv_one] at hcell
        have hfr := k1.frozen 0
        have hv1 : 0 ≤ V % 65536 := Int.emod_nonneg _ (by decide)
        have hv2 : V % 65536 < 65536 := Int.emod_lt_of_pos _ (by decide)
        replace hdig := Lib.hid hdig
        replace hval := Lib.hid hval
        replace hsp := Lib.hid hsp
        replace hbd := Lib.hid hbd
        replace htl := Lib.hid htl
        replace hc := Lib.hid hc
        go_wp2_with fail
        refine ⟨⟨16, rep V, by go_num, .inr ⟨rfl, rfl⟩, ?_, k2.other (by simp) _, kb.setCell (by simp) _⟩, by simp [intOf]⟩
        have := k1.set 0 (.int .i64 (V % 65536 + 38 * (y / 65536)))
        rw [el_set] at this
        have e : (digsZ 16 V).set 0 (V % 65536 + 38 * (y / 65536)) = rep V := by rw [hc.out]; rfl
        rw [e] at this
        exact this
    · have hlen := rep_len V
      replace hlen := Lib.hid hlen
      go_wp2_with (first | (refine wpList_load_arr2 rfl _ _ rfl _ rfl (by kernel_rfl) _ k1 (by rw [el_len, hlen.out]; kernel_rfl) ?_) | (refine wpList_store_arr rfl _ _ _ rfl _ _ rfl rfl _ k2 (by rw [el_len, hlen.out]; kernel_rfl) (by rw [el_len, el_len, hlen.out]; rfl) (el_one _) ?_))
      exact bodyPost_ret (results_arr2 Try.results38 _ _ _ rfl (by kernel_rfl) _ (k2.setRow _) (by rw [el_len, hlen.out]; kernel_rfl)) rfl ⟨rfl, below_setRow kb (by omega) _⟩

end Go.Proofs.Ytpjkhedodlnloaa
