/- Reference of the field: Canon, Add, Sub, Mul. -/
import Derived.Test.YtdggikbaemigbaaRf6
import Derived.Test.YtdggikbaemigbaaFl1
namespace Go.Proofs.Ytdggikbaemigbaa
open Go.RowKit

/-- Digits of a number modulo p, that are not too great. -/
def El (n : Int) (xs : List Int) : Prop := xs.length = 16 ∧ Bd 262144 xs ∧ (-(65536 ^ 16 * 4) ≤ valZ xs ∧ valZ xs < 65536 ^ 16 * 4) ∧ valZ xs % pN = n % pN
def addL (xs ys : List Int) : List Int := rep (valZ xs + valZ ys)
def subL (xs ys : List Int) : List Int := rep (valZ xs - valZ ys)
def mulL (xs ys : List Int) : List Int := rep (fv (mulZ xs ys))

theorem El.mkrep {V n K : Int} (h0 : -(65536 ^ 16 * K) ≤ V) (h1 : V < 65536 ^ 16 * K) (hK : K ≤ 1024) (hn : V % pN = n % pN) : El n (rep V) := by
  refine ⟨rep_len V, fun x hx => ?_, ?_, by rw [valZ_rep, fv_mod, hn]⟩
  · have := rep_bd h0 h1 x hx
    constructor <;> omega
  · rw [valZ_rep]
    have := fv_bd h0 h1
    constructor <;> omega

theorem El.add {a b : Int} {xs ys : List Int} (hx : El a xs) (hy : El b ys) : El (a + b) (addL xs ys) := by
  refine El.mkrep (K := 8) ?_ ?_ (by decide) (by rw [Int.add_emod, hx.2.2.2, hy.2.2.2, ← Int.add_emod])
  · have := hx.2.2.1; have := hy.2.2.1; omega
  · have := hx.2.2.1; have := hy.2.2.1; omega
theorem El.sub {a b : Int} {xs ys : List Int} (hx : El a xs) (hy : El b ys) : El (a - b) (subL xs ys) := by
  refine El.mkrep (K := 8) ?_ ?_ (by decide) (by rw [Int.sub_emod, hx.2.2.2, hy.2.2.2, ← Int.sub_emod])
  · have := hx.2.2.1; have := hy.2.2.1; omega
  · have := hx.2.2.1; have := hy.2.2.1; omega
theorem El.mul {a b : Int} {xs ys : List Int} (hx : El a xs) (hy : El b ys) : El (a * b) (mulL xs ys) := by
  have ho := (Bd.outer (C := 262144) (by decide) hx.2.1 hy.2.1 16).mono (B := 17592186044416) (by decide)
  have hob := ofunZ_bd (by decide) ho 16
  have hvb := valZ_bd (by decide) _ hob
  rw [ofunZ_len, show valZ (ofunZ (outerZ xs ys 16) 16) = mulZ xs ys from rfl] at hvb
  have hf := fv_bd (K := 2251799813685248) (V := mulZ xs ys) (by omega) (by omega)
  refine El.mkrep (K := 2) ?_ ?_ (by decide) ?_
  · omega
  · omega
  · rw [fv_mod, mulZ_mod hx.1 hy.1, Int.mul_emod, hx.2.2.2, hy.2.2.2, ← Int.mul_emod]
theorem El.of {n : Nat} (hn : n < 256 ^ 32) : El n (rep n) := by
  have h2 : ((256 ^ 32 : Nat) : Int) = 65536 ^ 16 := by decide
  exact El.mkrep (K := 1) (by omega) (by omega) (by decide) rfl
theorem El.cong {m n : Int} {xs : List Int} (h : El m xs) (e : m % pN = n % pN) : El n xs := ⟨h.1, h.2.1, h.2.2.1, by rw [h.2.2.2, e]⟩
theorem El.len {n : Int} {xs : List Int} (h : El n xs) : (el xs).length = 16 := by rw [el_len, h.1]

theorem radd_el {a b : Int} {xs ys : List Int} (hx : El a xs) (hy : El b ys) (w : World) :
    Calls Try.prog 74 #[.agg (el xs).toArray, .agg (el ys).toArray] w fun e w' => e = .returned (.agg (el (addL xs ys)).toArray) ∧ Below w.heap.size w w' :=
  radd_any xs ys hx.1 hy.1 (hx.2.1.mono (by decide)) (hy.2.1.mono (by decide)) w
theorem rsub_el {a b : Int} {xs ys : List Int} (hx : El a xs) (hy : El b ys) (w : World) :
    Calls Try.prog 75 #[.agg (el xs).toArray, .agg (el ys).toArray] w fun e w' => e = .returned (.agg (el (subL xs ys)).toArray) ∧ Below w.heap.size w w' :=
  rsub_any xs ys hx.1 hy.1 (hx.2.1.mono (by decide)) (hy.2.1.mono (by decide)) w
theorem rmul_el {a b : Int} {xs ys : List Int} (hx : El a xs) (hy : El b ys) (w : World) :
    Calls Try.prog 77 #[.agg (el xs).toArray, .agg (el ys).toArray] w fun e w' => e = .returned (.agg (el (mulL xs ys)).toArray) ∧ Below w.heap.size w w' :=
  rmul_any xs ys hx.1 hy.1 hx.2.1 hy.2.1 w
theorem rout_el {n : Int} {xs : List Int} {r : Nat} (hx : El n xs) (hr : n % pN = r) (w : World) :
    Calls Try.prog 72 #[.agg (el xs).toArray] w fun e w' => e = .returned (.agg (byts r).toArray) ∧ Below w.heap.size w w' := by
  have := rout_any xs hx.1 (hx.2.1.mono (by decide)) w
  rw [hx.2.2.2, hr, Int.toNat_natCast] at this
  exact this

theorem sub_modZ (a b : Nat) : ((a : Int) - (b : Int)) % pN = ((a % pN + pN - b % pN) % pN : Nat) := by
  have hb := Nat.mod_lt b pN_pos
  rw [Int.natCast_emod, Int.ofNat_sub (by omega), Int.natCast_add, Int.natCast_emod, Int.natCast_emod]
  have h1 := Int.mul_ediv_add_emod (a : Int) pN
  have h2 := Int.mul_ediv_add_emod (b : Int) pN
  have e : (a : Int) - b = ((a : Int) % pN + pN - (b : Int) % pN) + pN * ((a : Int) / pN - (b : Int) / pN - 1) := by
    rw [Int.mul_sub, Int.mul_sub, Int.mul_one]; omega
  rw [e, Int.add_mul_emod_self_left]

set_option maxHeartbeats 2000000 in
set_option maxRecDepth 100000 in
theorem rCanon_r {a r : Nat} (hr : Hid (a % pN = r)) (ha : a < 256 ^ 32) (w : World) :
    Calls Try.prog 37 #[.agg (byts a).toArray] w fun e w' => e = .returned (.agg (byts r).toArray) ∧ Below w.heap.size w w' := by
  have c0 := Lib.hid (fun w => rin_any a ha w)
  have c1 := Lib.hid (fun w => rout_el (r := r) (El.of ha) (by rw [← hr.out, Int.natCast_emod]) w)
  clear hr
  go_enter Try.func37, Try.ntmps37
  go_upto_region 1 with fail
  refine wp_new2 (fun W hsz k1 k2 kb => ?_)
  have k2 : Arr W (w.heap.size + 1) (byts 0) := k2
  go_wp2_with (first | (refine wpList_load_arr2 rfl _ _ rfl _ rfl (by kernel_rfl) _ (by assumption) (by first | (rw [lims_len]; kernel_rfl) | (rw [el_rep]; kernel_rfl) | (rw [el_len]; kernel_rfl) | (rw [byts_len]; kernel_rfl) | (rw [us_len]; kernel_rfl) | kernel_rfl) ?_) | (refine wpList_store_arr rfl _ _ _ rfl _ _ rfl rfl _ (by first | assumption | exact Arr.new _ _ _) (by first | (rw [lims_len]; kernel_rfl) | (rw [el_rep]; kernel_rfl) | (rw [el_len]; kernel_rfl) | (rw [byts_len]; kernel_rfl) | (rw [us_len]; kernel_rfl) | kernel_rfl) (by first | (rw [lims_len, lims_len]) | (rw [el_rep, el_rep]) | (rw [el_rep, el_len]; rfl) | (rw [el_len, el_rep]; rfl) | (rw [el_len, el_len]; rfl) | (rw [byts_len, byts_len]) | (rw [lims_len]; rfl) | (rw [byts_len]; rfl) | (rw [us_len, us_len]; rfl) | rfl) (by first | exact lims_one _ _ | exact el_one _ | exact byts_one _ | exact us_one _ | (intro v hv; simp at hv; rcases hv with rfl | rfl | rfl | rfl <;> rfl)) ?_))
  refine (c0.out _).mono ?_
  rintro e w_1 ⟨rfl, hb_1⟩
  have k2 := k2.below hb_1
  have kb := bel kb hb_1
  clear hb_1
  go_wp2_with (first | (refine wpList_load_arr2 rfl _ _ rfl _ rfl (by kernel_rfl) _ (by assumption) (by first | (rw [lims_len]; kernel_rfl) | (rw [el_rep]; kernel_rfl) | (rw [el_len]; kernel_rfl) | (rw [byts_len]; kernel_rfl) | (rw [us_len]; kernel_rfl) | kernel_rfl) ?_) | (refine wpList_store_arr rfl _ _ _ rfl _ _ rfl rfl _ (by first | assumption | exact Arr.new _ _ _) (by first | (rw [lims_len]; kernel_rfl) | (rw [el_rep]; kernel_rfl) | (rw [el_len]; kernel_rfl) | (rw [byts_len]; kernel_rfl) | (rw [us_len]; kernel_rfl) | kernel_rfl) (by first | (rw [lims_len, lims_len]) | (rw [el_rep, el_rep]) | (rw [el_rep, el_len]; rfl) | (rw [el_len, el_rep]; rfl) | (rw [el_len, el_len]; rfl) | (rw [byts_len, byts_len]) | (rw [lims_len]; rfl) | (rw [byts_len]; rfl) | (rw [us_len, us_len]; rfl) | rfl) (by first | exact lims_one _ _ | exact el_one _ | exact byts_one _ | exact us_one _ | (intro v hv; simp at hv; rcases hv with rfl | rfl | rfl | rfl <;> rfl)) ?_))
  refine (c1.out _).mono ?_
  rintro e w_2 ⟨rfl, hb_2⟩
  have k2 := k2.below hb_2
  have kb := bel kb hb_2
  clear hb_2
  go_wp2_with (first | (refine wpList_load_arr2 rfl _ _ rfl _ rfl (by kernel_rfl) _ (by assumption) (by first | (rw [lims_len]; kernel_rfl) | (rw [el_rep]; kernel_rfl) | (rw [el_len]; kernel_rfl) | (rw [byts_len]; kernel_rfl) | (rw [us_len]; kernel_rfl) | kernel_rfl) ?_) | (refine wpList_store_arr rfl _ _ _ rfl _ _ rfl rfl _ (by first | assumption | exact Arr.new _ _ _) (by first | (rw [lims_len]; kernel_rfl) | (rw [el_rep]; kernel_rfl) | (rw [el_len]; kernel_rfl) | (rw [byts_len]; kernel_rfl) | (rw [us_len]; kernel_rfl) | kernel_rfl) (by first | (rw [lims_len, lims_len]) | (rw [el_rep, el_rep]) | (rw [el_rep, el_len]; rfl) | (rw [el_len, el_rep]; rfl) | (rw [el_len, el_len]; rfl) | (rw [byts_len, byts_len]) | (rw [lims_len]; rfl) | (rw [byts_len]; rfl) | (rw [us_len, us_len]; rfl) | rfl) (by first | exact lims_one _ _ | exact el_one _ | exact byts_one _ | exact us_one _ | (intro v hv; simp at hv; rcases hv with rfl | rfl | rfl | rfl <;> rfl)) ?_))
  exact bodyPost_ret (results_arr2 Try.results37 _ _ _ rfl (by kernel_rfl) _ (by first | assumption | exact Arr.setRow (by assumption) _) (by first | (rw [lims_len]; kernel_rfl) | (rw [el_rep]; kernel_rfl) | (rw [el_len]; kernel_rfl) | (rw [byts_len]; kernel_rfl) | (rw [us_len]; kernel_rfl) | kernel_rfl)) rfl ⟨rfl, below_setRow kb (by omega) _⟩

set_option maxHeartbeats 2000000 in
set_option maxRecDepth 100000 in
theorem rAdd_r {a b r : Nat} (hr : Hid ((a + b) % pN = r)) (ha : a < 256 ^ 32) (hb : b < 256 ^ 32) (w : World) :
    Calls Try.prog 38 #[.agg (byts a).toArray, .agg (byts b).toArray] w fun e w' => e = .returned (.agg (byts r).toArray) ∧ Below w.heap.size w w' := by
  have c0 := Lib.hid (fun w => rin_any a ha w)
  have c1 := Lib.hid (fun w => rin_any b hb w)
  have c2 := Lib.hid (fun w => radd_el (El.of ha) (El.of hb) w)
  have c3 := Lib.hid (fun w => rout_el (r := r) (El.add (El.of ha) (El.of hb)) (by rw [← hr.out, Int.natCast_emod, Int.natCast_add]) w)
  clear hr
  go_enter Try.func38, Try.ntmps38
  go_upto_region 1 with fail
  refine wp_new3 (fun W hsz k1 k2 k3 kb => ?_)
  have k3 : Arr W (w.heap.size + 1 + 1) (byts 0) := k3
  go_upto_region 1 with (first | (refine wpList_load_arr2 rfl _ _ rfl _ rfl (by kernel_rfl) _ (by assumption) (by first | (rw [lims_len]; kernel_rfl) | (rw [el_rep]; kernel_rfl) | (rw [el_len]; kernel_rfl) | (rw [byts_len]; kernel_rfl) | (rw [us_len]; kernel_rfl) | kernel_rfl) ?_) | (refine wpList_store_arr rfl _ _ _ rfl _ _ rfl rfl _ (by first | assumption | exact Arr.new _ _ _) (by first | (rw [lims_len]; kernel_rfl) | (rw [el_rep]; kernel_rfl) | (rw [el_len]; kernel_rfl) | (rw [byts_len]; kernel_rfl) | (rw [us_len]; kernel_rfl) | kernel_rfl) (by first | (rw [lims_len, lims_len]) | (rw [el_rep, el_rep]) | (rw [el_rep, el_len]; rfl) | (rw [el_len, el_rep]; rfl) | (rw [el_len, el_len]; rfl) | (rw [byts_len, byts_len]) | (rw [lims_len]; rfl) | (rw [byts_len]; rfl) | (rw [us_len, us_len]; rfl) | rfl) (by first | exact lims_one _ _ | exact el_one _ | exact byts_one _ | exact us_one _ | (intro v hv; simp at hv; rcases hv with rfl | rfl | rfl | rfl <;> rfl)) ?_))
  refine Tx.start (fun w' => Below (W).heap.size (W) w') 6 7 rfl (by kernel_rfl) ?_
  have hS_3 : Below (W).heap.size (W) (World.drew W) := (Below.refl _ _).drew
  refine Tx.seg (A := ?_) 5 5 (by kernel_rfl) (by exact hS_3) [0, 2] (by kernel_rfl) ?_ ?_
  rotate_left
  · intro w' hB
    have e0 := k1.below hB
    have e1 := k2.below hB
    have e2 := k3.below hB
    iterate 2 (first | (refine rd_skip rfl rfl ?_; simp only [Act.put, List.setIfInBounds_toArray, List.set_cons_zero, List.set_cons_succ]) | (refine rd_load_arr rfl rfl _ _ rfl _ rfl (by kernel_rfl) _ (by assumption) (by first | (rw [lims_len]; kernel_rfl) | (rw [el_rep]; kernel_rfl) | (rw [el_len]; kernel_rfl) | (rw [byts_len]; kernel_rfl) | (rw [us_len]; kernel_rfl) | kernel_rfl) ?_; simp only [Act.put, List.setIfInBounds_toArray, List.set_cons_zero, List.set_cons_succ]) | (refine rd_take (v := ?_) rfl rfl ?_ ?_; rotate_left; (focus (go_simp; try (with_reducible rfl))); simp only [Act.put, List.setIfInBounds_toArray, List.set_cons_zero, List.set_cons_succ]))
    exact rd_nil
  refine Tx.eff 1 7 rfl (by decide +kernel) (fun K hK => ?_)
  go_simp
  refine (c0.out _).mono ?_
  rintro e w_4 ⟨rfl, hb_4⟩
  have hS_4 := ext_trans hS_3 (Nat.le_refl _) hb_4
  refine hK (fun w' => Below (W).heap.size (W) w') _ _ hS_4 (fun _ h => h) ?_
  clear hK K hb_4 hS_3
  try simp only [Act.put, List.setIfInBounds_toArray, List.set_cons_zero, List.set_cons_succ]
  refine Tx.eff 3 15 rfl (by decide +kernel) (fun K hK => ?_)
  go_simp
  refine (c1.out _).mono ?_
  rintro e w_5 ⟨rfl, hb_5⟩
  have hS_5 := ext_trans hS_4 (Nat.le_refl _) hb_5
  refine hK (fun w' => Below (W).heap.size (W) w') _ _ hS_5 (fun _ h => h) ?_
  clear hK K hb_5 hS_4
  try simp only [Act.put, List.setIfInBounds_toArray, List.set_cons_zero, List.set_cons_succ]
  refine Tx.eff 4 31 rfl (by decide +kernel) (fun K hK => ?_)
  go_simp
  refine (c2.out _).mono ?_
  rintro e w_6 ⟨rfl, hb_6⟩
  have hS_6 := ext_trans hS_5 (Nat.le_refl _) hb_6
  refine hK (fun w' => Below (W).heap.size (W) w') _ _ hS_6 (fun _ h => h) ?_
  clear hK K hb_6 hS_5
  try simp only [Act.put, List.setIfInBounds_toArray, List.set_cons_zero, List.set_cons_succ]
  refine Tx.eff 5 63 rfl (by decide +kernel) (fun K hK => ?_)
  go_simp
  refine (c3.out _).mono ?_
  rintro e w_7 ⟨rfl, hb_7⟩
  have hS_7 := ext_trans hS_6 (Nat.le_refl _) hb_7
  refine hK (fun w' => Below (W).heap.size (W) w') _ _ hS_7 (fun _ h => h) ?_
  clear hK K hb_7 hS_6
  try simp only [Act.put, List.setIfInBounds_toArray, List.set_cons_zero, List.set_cons_succ]
  have k1 := k1.below hS_7
  have k2 := k2.below hS_7
  have k3 := k3.below hS_7
  have kb := bel kb hS_7
  refine Tx.bar 127 rfl (by decide +kernel) (fun K hK => ?_)
  refine step_store_arr rfl _ _ _ rfl _ _ rfl rfl _ (by assumption) (by first | (rw [lims_len]; kernel_rfl) | (rw [el_rep]; kernel_rfl) | (rw [el_len]; kernel_rfl) | (rw [byts_len]; kernel_rfl) | (rw [us_len]; kernel_rfl) | kernel_rfl) (by first | (rw [lims_len, lims_len]) | (rw [el_rep, el_rep]) | (rw [el_rep, el_len]; rfl) | (rw [el_len, el_rep]; rfl) | (rw [el_len, el_len]; rfl) | (rw [byts_len, byts_len]) | (rw [lims_len]; rfl) | (rw [byts_len]; rfl) | (rw [us_len, us_len]; rfl) | rfl) (by first | exact lims_one _ _ | exact el_one _ | exact byts_one _ | exact us_one _ | (intro v hv; simp at hv; rcases hv with rfl | rfl | rfl | rfl <;> rfl)) ?_
  refine hK (fun _ => True) 9999 _ _ ?_
  clear hK K
  try simp only [Act.put]
  try simp only [List.setIfInBounds_toArray, List.set_cons_zero, List.set_cons_succ]
  refine Tx.done (by kernel_rfl) ?_
  refine then_row k3 (fun w_8 k3 hoth hbel => ?_)
  have k1 := hoth _ _ (by omega) k1
  have k2 := hoth _ _ (by omega) k2
  have kb := hbel _ _ (by omega) kb
  clear hoth hbel
  go_wp2_with (first | (refine wpList_load_arr2 rfl _ _ rfl _ rfl (by kernel_rfl) _ (by assumption) (by first | (rw [lims_len]; kernel_rfl) | (rw [el_rep]; kernel_rfl) | (rw [el_len]; kernel_rfl) | (rw [byts_len]; kernel_rfl) | (rw [us_len]; kernel_rfl) | kernel_rfl) ?_) | (refine wpList_store_arr rfl _ _ _ rfl _ _ rfl rfl _ (by first | assumption | exact Arr.new _ _ _) (by first | (rw [lims_len]; kernel_rfl) | (rw [el_rep]; kernel_rfl) | (rw [el_len]; kernel_rfl) | (rw [byts_len]; kernel_rfl) | (rw [us_len]; kernel_rfl) | kernel_rfl) (by first | (rw [lims_len, lims_len]) | (rw [el_rep, el_rep]) | (rw [el_rep, el_len]; rfl) | (rw [el_len, el_rep]; rfl) | (rw [el_len, el_len]; rfl) | (rw [byts_len, byts_len]) | (rw [lims_len]; rfl) | (rw [byts_len]; rfl) | (rw [us_len, us_len]; rfl) | rfl) (by first | exact lims_one _ _ | exact el_one _ | exact byts_one _ | exact us_one _ | (intro v hv; simp at hv; rcases hv with rfl | rfl | rfl | rfl <;> rfl)) ?_))
  exact bodyPost_ret (results_arr2 Try.results38 _ _ _ rfl (by kernel_rfl) _ (by first | assumption | exact Arr.setRow (by assumption) _) (by first | (rw [lims_len]; kernel_rfl) | (rw [el_rep]; kernel_rfl) | (rw [el_len]; kernel_rfl) | (rw [byts_len]; kernel_rfl) | (rw [us_len]; kernel_rfl) | kernel_rfl)) rfl ⟨rfl, kb⟩

set_option maxHeartbeats 2000000 in
set_option maxRecDepth 100000 in
theorem rSub_r {a b r : Nat} (hr : Hid ((a % pN + pN - b % pN) % pN = r)) (ha : a < 256 ^ 32) (hb : b < 256 ^ 32) (w : World) :
    Calls Try.prog 39 #[.agg (byts a).toArray, .agg (byts b).toArray] w fun e w' => e = .returned (.agg (byts r).toArray) ∧ Below w.heap.size w w' := by
  have c0 := Lib.hid (fun w => rin_any a ha w)
  have c1 := Lib.hid (fun w => rin_any b hb w)
  have c2 := Lib.hid (fun w => rsub_el (El.of ha) (El.of hb) w)
  have c3 := Lib.hid (fun w => rout_el (r := r) (El.sub (El.of ha) (El.of hb)) (by rw [← hr.out, sub_modZ]) w)
  clear hr
  go_enter Try.func39, Try.ntmps39
  go_upto_region 1 with fail
  refine wp_new3 (fun W hsz k1 k2 k3 kb => ?_)
  have k3 : Arr W (w.heap.size + 1 + 1) (byts 0) := k3
  go_upto_region 1 with (first | (refine wpList_load_arr2 rfl _ _ rfl _ rfl (by kernel_rfl) _ (by assumption) (by first | (rw [lims_len]; kernel_rfl) | (rw [el_rep]; kernel_rfl) | (rw [el_len]; kernel_rfl) | (rw [byts_len]; kernel_rfl) | (rw [us_len]; kernel_rfl) | kernel_rfl) ?_) | (refine wpList_store_arr rfl _ _ _ rfl _ _ rfl rfl _ (by first | assumption | exact Arr.new _ _ _) (by first | (rw [lims_len]; kernel_rfl) | (rw [el_rep]; kernel_rfl) | (rw [el_len]; kernel_rfl) | (rw [byts_len]; kernel_rfl) | (rw [us_len]; kernel_rfl) | kernel_rfl) (by first | (rw [lims_len, lims_len]) | (rw [el_rep, el_rep]) | (rw [el_rep, el_len]; rfl) | (rw [el_len, el_rep]; rfl) | (rw [el_len, el_len]; rfl) | (rw [byts_len, byts_len]) | (rw [lims_len]; rfl) | (rw [byts_len]; rfl) | (rw [us_len, us_len]; rfl) | rfl) (by first | exact lims_one _ _ | exact el_one _ | exact byts_one _ | exact us_one _ | (intro v hv; simp at hv; rcases hv with rfl | rfl | rfl | rfl <;> rfl)) ?_))
  refine Tx.start (fun w' => Below (W).heap.size (W) w') 6 7 rfl (by kernel_rfl) ?_
  have hS_9 : Below (W).heap.size (W) (World.drew W) := (Below.refl _ _).drew
  refine Tx.seg (A := ?_) 5 5 (by kernel_rfl) (by exact hS_9) [0, 2] (by kernel_rfl) ?_ ?_
  rotate_left
  · intro w' hB
    have e0 := k1.below hB
    have e1 := k2.below hB
    have e2 := k3.below hB
    iterate 2 (first | (refine rd_skip rfl rfl ?_; simp only [Act.put, List.setIfInBounds_toArray, List.set_cons_zero, List.set_cons_succ]) | (refine rd_load_arr rfl rfl _ _ rfl _ rfl (by kernel_rfl) _ (by assumption) (by first | (rw [lims_len]; kernel_rfl) | (rw [el_rep]; kernel_rfl) | (rw [el_len]; kernel_rfl) | (rw [byts_len]; kernel_rfl) | (rw [us_len]; kernel_rfl) | kernel_rfl) ?_; simp only [Act.put, List.setIfInBounds_toArray, List.set_cons_zero, List.set_cons_succ]) | (refine rd_take (v := ?_) rfl rfl ?_ ?_; rotate_left; (focus (go_simp; try (with_reducible rfl))); simp only [Act.put, List.setIfInBounds_toArray, List.set_cons_zero, List.set_cons_succ]))
    exact rd_nil
  refine Tx.eff 1 7 rfl (by decide +kernel) (fun K hK => ?_)
  go_simp
  refine (c0.out _).mono ?_
  rintro e w_10 ⟨rfl, hb_10⟩
  have hS_10 := ext_trans hS_9 (Nat.le_refl _) hb_10
  refine hK (fun w' => Below (W).heap.size (W) w') _ _ hS_10 (fun _ h => h) ?_
  clear hK K hb_10 hS_9
  try simp only [Act.put, List.setIfInBounds_toArray, List.set_cons_zero, List.set_cons_succ]
  refine Tx.eff 3 15 rfl (by decide +kernel) (fun K hK => ?_)
  go_simp
  refine (c1.out _).mono ?_
  rintro e w_11 ⟨rfl, hb_11⟩
  have hS_11 := ext_trans hS_10 (Nat.le_refl _) hb_11
  refine hK (fun w' => Below (W).heap.size (W) w') _ _ hS_11 (fun _ h => h) ?_
  clear hK K hb_11 hS_10
  try simp only [Act.put, List.setIfInBounds_toArray, List.set_cons_zero, List.set_cons_succ]
  refine Tx.eff 4 31 rfl (by decide +kernel) (fun K hK => ?_)
  go_simp
  refine (c2.out _).mono ?_
  rintro e w_12 ⟨rfl, hb_12⟩
  have hS_12 := ext_trans hS_11 (Nat.le_refl _) hb_12
  refine hK (fun w' => Below (W).heap.size (W) w') _ _ hS_12 (fun _ h => h) ?_
  clear hK K hb_12 hS_11
  try simp only [Act.put, List.setIfInBounds_toArray, List.set_cons_zero, List.set_cons_succ]
  refine Tx.eff 5 63 rfl (by decide +kernel) (fun K hK => ?_)
  go_simp
  refine (c3.out _).mono ?_
  rintro e w_13 ⟨rfl, hb_13⟩
  have hS_13 := ext_trans hS_12 (Nat.le_refl _) hb_13
  refine hK (fun w' => Below (W).heap.size (W) w') _ _ hS_13 (fun _ h => h) ?_
  clear hK K hb_13 hS_12
  try simp only [Act.put, List.setIfInBounds_toArray, List.set_cons_zero, List.set_cons_succ]
  have k1 := k1.below hS_13
  have k2 := k2.below hS_13
  have k3 := k3.below hS_13
  have kb := bel kb hS_13
  refine Tx.bar 127 rfl (by decide +kernel) (fun K hK => ?_)
  refine step_store_arr rfl _ _ _ rfl _ _ rfl rfl _ (by assumption) (by first | (rw [lims_len]; kernel_rfl) | (rw [el_rep]; kernel_rfl) | (rw [el_len]; kernel_rfl) | (rw [byts_len]; kernel_rfl) | (rw [us_len]; kernel_rfl) | kernel_rfl) (by first | (rw [lims_len, lims_len]) | (rw [el_rep, el_rep]) | (rw [el_rep, el_len]; rfl) | (rw [el_len, el_rep]; rfl) | (rw [el_len, el_len]; rfl) | (rw [byts_len, byts_len]) | (rw [lims_len]; rfl) | (rw [byts_len]; rfl) | (rw [us_len, us_len]; rfl) | rfl) (by first | exact lims_one _ _ | exact el_one _ | exact byts_one _ | exact us_one _ | (intro v hv; simp at hv; rcases hv with rfl | rfl | rfl | rfl <;> rfl)) ?_
  refine hK (fun _ => True) 9999 _ _ ?_
  clear hK K
  try simp only [Act.put]
  try simp only [List.setIfInBounds_toArray, List.set_cons_zero, List.set_cons_succ]
  refine Tx.done (by kernel_rfl) ?_
  refine then_row k3 (fun w_14 k3 hoth hbel => ?_)
  have k1 := hoth _ _ (by omega) k1
  have k2 := hoth _ _ (by omega) k2
  have kb := hbel _ _ (by omega) kb
  clear hoth hbel
  go_wp2_with (first | (refine wpList_load_arr2 rfl _ _ rfl _ rfl (by kernel_rfl) _ (by assumption) (by first | (rw [lims_len]; kernel_rfl) | (rw [el_rep]; kernel_rfl) | (rw [el_len]; kernel_rfl) | (rw [byts_len]; kernel_rfl) | (rw [us_len]; kernel_rfl) | kernel_rfl) ?_) | (refine wpList_store_arr rfl _ _ _ rfl _ _ rfl rfl _ (by first | assumption | exact Arr.new _ _ _) (by first | (rw [lims_len]; kernel_rfl) | (rw [el_rep]; kernel_rfl) | (rw [el_len]; kernel_rfl) | (rw [byts_len]; kernel_rfl) | (rw [us_len]; kernel_rfl) | kernel_rfl) (by first | (rw [lims_len, lims_len]) | (rw [el_rep, el_rep]) | (rw [el_rep, el_len]; rfl) | (rw [el_len, el_rep]; rfl) | (rw [el_len, el_len]; rfl) | (rw [byts_len, byts_len]) | (rw [lims_len]; rfl) | (rw [byts_len]; rfl) | (rw [us_len, us_len]; rfl) | rfl) (by first | exact lims_one _ _ | exact el_one _ | exact byts_one _ | exact us_one _ | (intro v hv; simp at hv; rcases hv with rfl | rfl | rfl | rfl <;> rfl)) ?_))
  exact bodyPost_ret (results_arr2 Try.results39 _ _ _ rfl (by kernel_rfl) _ (by first | assumption | exact Arr.setRow (by assumption) _) (by first | (rw [lims_len]; kernel_rfl) | (rw [el_rep]; kernel_rfl) | (rw [el_len]; kernel_rfl) | (rw [byts_len]; kernel_rfl) | (rw [us_len]; kernel_rfl) | kernel_rfl)) rfl ⟨rfl, kb⟩

set_option maxHeartbeats 2000000 in
set_option maxRecDepth 100000 in
theorem rMul_r {a b r : Nat} (hr : Hid (a * b % pN = r)) (ha : a < 256 ^ 32) (hb : b < 256 ^ 32) (w : World) :
    Calls Try.prog 41 #[.agg (byts a).toArray, .agg (byts b).toArray] w fun e w' => e = .returned (.agg (byts r).toArray) ∧ Below w.heap.size w w' := by
  have c0 := Lib.hid (fun w => rin_any a ha w)
  have c1 := Lib.hid (fun w => rin_any b hb w)
  have c2 := Lib.hid (fun w => rmul_el (El.of ha) (El.of hb) w)
  have c3 := Lib.hid (fun w => rout_el (r := r) (El.mul (El.of ha) (El.of hb)) (by rw [← hr.out, Int.natCast_emod, Int.natCast_mul]) w)
  clear hr
  go_enter Try.func41, Try.ntmps41
  go_upto_region 1 with fail
  refine wp_new3 (fun W hsz k1 k2 k3 kb => ?_)
  have k3 : Arr W (w.heap.size + 1 + 1) (byts 0) := k3
  go_upto_region 1 with (first | (refine wpList_load_arr2 rfl _ _ rfl _ rfl (by kernel_rfl) _ (by assumption) (by first | (rw [lims_len]; kernel_rfl) | (rw [el_rep]; kernel_rfl) | (rw [el_len]; kernel_rfl) | (rw [byts_len]; kernel_rfl) | (rw [us_len]; kernel_rfl) | kernel_rfl) ?_) | (refine wpList_store_arr rfl _ _ _ rfl _ _ rfl rfl _ (by first | assumption | exact Arr.new _ _ _) (by first | (rw [lims_len]; kernel_rfl) | (rw [el_rep]; kernel_rfl) | (rw [el_len]; kernel_rfl) | (rw [byts_len]; kernel_rfl) | (rw [us_len]; kernel_rfl) | kernel_rfl) (by first | (rw [lims_len, lims_len]) | (rw [el_rep, el_rep]) | (rw [el_rep, el_len]; rfl) | (rw [el_len, el_rep]; rfl) | (rw [el_len, el_len]; rfl) | (rw [byts_len, byts_len]) | (rw [lims_len]; rfl) | (rw [byts_len]; rfl) | (rw [us_len, us_len]; rfl) | rfl) (by first | exact lims_one _ _ | exact el_one _ | exact byts_one _ | exact us_one _ | (intro v hv; simp at hv; rcases hv with rfl | rfl | rfl | rfl <;> rfl)) ?_))
  refine Tx.start (fun w' => Below (W).heap.size (W) w') 6 7 rfl (by kernel_rfl) ?_
  have hS_15 : Below (W).heap.size (W) (World.drew W) := (Below.refl _ _).drew
  refine Tx.seg (A := ?_) 5 5 (by kernel_rfl) (by exact hS_15) [0, 2] (by kernel_rfl) ?_ ?_
  rotate_left
  · intro w' hB
    have e0 := k1.below hB
    have e1 := k2.below hB
    have e2 := k3.below hB
    iterate 2 (first | (refine rd_skip rfl rfl ?_; simp only [Act.put, List.setIfInBounds_toArray, List.set_cons_zero, List.set_cons_succ]) | (refine rd_load_arr rfl rfl _ _ rfl _ rfl (by kernel_rfl) _ (by assumption) (by first | (rw [lims_len]; kernel_rfl) | (rw [el_rep]; kernel_rfl) | (rw [el_len]; kernel_rfl) | (rw [byts_len]; kernel_rfl) | (rw [us_len]; kernel_rfl) | kernel_rfl) ?_; simp only [Act.put, List.setIfInBounds_toArray, List.set_cons_zero, List.set_cons_succ]) | (refine rd_take (v := ?_) rfl rfl ?_ ?_; rotate_left; (focus (go_simp; try (with_reducible rfl))); simp only [Act.put, List.setIfInBounds_toArray, List.set_cons_zero, List.set_cons_succ]))
    exact rd_nil
  refine Tx.eff 1 7 rfl (by decide +kernel) (fun K hK => ?_)
  go_simp
  refine (c0.out _).mono ?_
  rintro e w_16 ⟨rfl, hb_16⟩
  have hS_16 := ext_trans hS_15 (Nat.le_refl _) hb_16
  refine hK (fun w' => Below (W).heap.size (W) w') _ _ hS_16 (fun _ h => h) ?_
  clear hK K hb_16 hS_15
  try simp only [Act.put, List.setIfInBounds_toArray, List.set_cons_zero, List.set_cons_succ]
  refine Tx.eff 3 15 rfl (by decide +kernel) (fun K hK => ?_)
  go_simp
  refine (c1.out _).mono ?_
  rintro e w_17 ⟨rfl, hb_17⟩
  have hS_17 := ext_trans hS_16 (Nat.le_refl _) hb_17
  refine hK (fun w' => Below (W).heap.size (W) w') _ _ hS_17 (fun _ h => h) ?_
  clear hK K hb_17 hS_16
  try simp only [Act.put, List.setIfInBounds_toArray, List.set_cons_zero, List.set_cons_succ]
  refine Tx.eff 4 31 rfl (by decide +kernel) (fun K hK => ?_)
  go_simp
  refine (c2.out _).mono ?_
  rintro e w_18 ⟨rfl, hb_18⟩
  have hS_18 := ext_trans hS_17 (Nat.le_refl _) hb_18
  refine hK (fun w' => Below (W).heap.size (W) w') _ _ hS_18 (fun _ h => h) ?_
  clear hK K hb_18 hS_17
  try simp only [Act.put, List.setIfInBounds_toArray, List.set_cons_zero, List.set_cons_succ]
  refine Tx.eff 5 63 rfl (by decide +kernel) (fun K hK => ?_)
  go_simp
  refine (c3.out _).mono ?_
  rintro e w_19 ⟨rfl, hb_19⟩
  have hS_19 := ext_trans hS_18 (Nat.le_refl _) hb_19
  refine hK (fun w' => Below (W).heap.size (W) w') _ _ hS_19 (fun _ h => h) ?_
  clear hK K hb_19 hS_18
  try simp only [Act.put, List.setIfInBounds_toArray, List.set_cons_zero, List.set_cons_succ]
  have k1 := k1.below hS_19
  have k2 := k2.below hS_19
  have k3 := k3.below hS_19
  have kb := bel kb hS_19
  refine Tx.bar 127 rfl (by decide +kernel) (fun K hK => ?_)
  refine step_store_arr rfl _ _ _ rfl _ _ rfl rfl _ (by assumption) (by first | (rw [lims_len]; kernel_rfl) | (rw [el_rep]; kernel_rfl) | (rw [el_len]; kernel_rfl) | (rw [byts_len]; kernel_rfl) | (rw [us_len]; kernel_rfl) | kernel_rfl) (by first | (rw [lims_len, lims_len]) | (rw [el_rep, el_rep]) | (rw [el_rep, el_len]; rfl) | (rw [el_len, el_rep]; rfl) | (rw [el_len, el_len]; rfl) | (rw [byts_len, byts_len]) | (rw [lims_len]; rfl) | (rw [byts_len]; rfl) | (rw [us_len, us_len]; rfl) | rfl) (by first | exact lims_one _ _ | exact el_one _ | exact byts_one _ | exact us_one _ | (intro v hv; simp at hv; rcases hv with rfl | rfl | rfl | rfl <;> rfl)) ?_
  refine hK (fun _ => True) 9999 _ _ ?_
  clear hK K
  try simp only [Act.put]
  try simp only [List.setIfInBounds_toArray, List.set_cons_zero, List.set_cons_succ]
  refine Tx.done (by kernel_rfl) ?_
  refine then_row k3 (fun w_20 k3 hoth hbel => ?_)
  have k1 := hoth _ _ (by omega) k1
  have k2 := hoth _ _ (by omega) k2
  have kb := hbel _ _ (by omega) kb
  clear hoth hbel
  go_wp2_with (first | (refine wpList_load_arr2 rfl _ _ rfl _ rfl (by kernel_rfl) _ (by assumption) (by first | (rw [lims_len]; kernel_rfl) | (rw [el_rep]; kernel_rfl) | (rw [el_len]; kernel_rfl) | (rw [byts_len]; kernel_rfl) | (rw [us_len]; kernel_rfl) | kernel_rfl) ?_) | (refine wpList_store_arr rfl _ _ _ rfl _ _ rfl rfl _ (by first | assumption | exact Arr.new _ _ _) (by first | (rw [lims_len]; kernel_rfl) | (rw [el_rep]; kernel_rfl) | (rw [el_len]; kernel_rfl) | (rw [byts_len]; kernel_rfl) | (rw [us_len]; kernel_rfl) | kernel_rfl) (by first | (rw [lims_len, lims_len]) | (rw [el_rep, el_rep]) | (rw [el_rep, el_len]; rfl) | (rw [el_len, el_rep]; rfl) | (rw [el_len, el_len]; rfl) | (rw [byts_len, byts_len]) | (rw [lims_len]; rfl) | (rw [byts_len]; rfl) | (rw [us_len, us_len]; rfl) | rfl) (by first | exact lims_one _ _ | exact el_one _ | exact byts_one _ | exact us_one _ | (intro v hv; simp at hv; rcases hv with rfl | rfl | rfl | rfl <;> rfl)) ?_))
  exact bodyPost_ret (results_arr2 Try.results41 _ _ _ rfl (by kernel_rfl) _ (by first | assumption | exact Arr.setRow (by assumption) _) (by first | (rw [lims_len]; kernel_rfl) | (rw [el_rep]; kernel_rfl) | (rw [el_len]; kernel_rfl) | (rw [byts_len]; kernel_rfl) | (rw [us_len]; kernel_rfl) | kernel_rfl)) rfl ⟨rfl, kb⟩

end Go.Proofs.Ytdggikbaemigbaa
