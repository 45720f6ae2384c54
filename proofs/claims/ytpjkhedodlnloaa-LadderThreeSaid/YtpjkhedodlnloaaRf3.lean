/- Reference of the field: add, sub. -/
import Derived.Test.YtpjkhedodlnloaaRf2
namespace Go.Proofs.Ytpjkhedodlnloaa
open Go.RowKit

theorem get_lt {α : Type} {xs : List α} {i : Nat} (h : i < xs.length) : xs[i]? = some xs[i] := List.getElem?_eq_getElem h

theorem valZ_radd : ∀ (xs ys : List Int), xs.length = ys.length → valZ (List.zipWith (fun x y => x + y) xs ys) = valZ xs + valZ ys
  | [], [], _ => rfl
  | [], _ :: _, h => by simp at h
  | _ :: _, [], h => by simp at h
  | x :: xs, y :: ys, h => by
    simp only [List.length_cons, Nat.add_right_cancel_iff] at h
    rw [List.zipWith_cons_cons, valZ, valZ, valZ, valZ_radd xs ys h]
    omega

set_option maxHeartbeats 2000000 in
set_option maxRecDepth 100000 in
theorem radd_any (xs ys : List Int) (hx : xs.length = 16) (hy : ys.length = 16) (bx : Bd 288230376151711744 xs) (by' : Bd 288230376151711744 ys) (w : World) :
    Calls Try.prog 24 #[.agg (el xs).toArray, .agg (el ys).toArray] w fun e w' => e = .returned (.agg (el (rep (valZ xs + valZ ys))).toArray) ∧ Below w.heap.size w w' := by
  obtain ⟨zs, hz⟩ : ∃ zs, List.zipWith (fun x y => x + y) xs ys = zs := ⟨_, rfl⟩
  have hzl : zs.length = 16 := by rw [← hz, List.length_zipWith, hx, hy]; rfl
  have hzx : zs.length = xs.length := by rw [hzl, hx]
  have hzg : ∀ (i : Nat) (x y : Int), xs[i]? = some x → ys[i]? = some y → zs[i]? = some (x + y) := by
    intro i x y h1 h2
    rw [← hz, List.getElem?_zipWith, h1, h2]
  have bz : Bd 1152921504606846976 zs := by
    intro z hzm
    rw [← hz] at hzm
    obtain ⟨i, hi, rfl⟩ := List.getElem_of_mem hzm
    rw [List.getElem_zipWith]
    rw [List.length_zipWith] at hi
    have h1 := bx xs[i] (List.getElem_mem _)
    have h2 := by' ys[i] (List.getElem_mem _)
    constructor <;> omega
  have hv := valZ_radd xs ys (by rw [hx, hy])
  rw [hz] at hv
  rw [← hv]
  have cc := Lib.hid (fun w => carry_any zs hzl bz w)
  replace hv := Lib.hid hv
  replace hz := Lib.hid hz
  replace hzl := Lib.hid hzl
  replace hx := Lib.hid hx
  replace hy := Lib.hid hy
  replace hzx := Lib.hid hzx
  replace hzg := Lib.hid hzg
  replace bx := Lib.hid bx
  replace by' := Lib.hid by'
  clear bz
  go_enter Try.func24, Try.ntmps24
  go_upto_region 1 with fail
  refine wp_new3 (fun W hsz k1 k2 k3 kb => ?_)
  have k3 : Arr W (w.heap.size + 1 + 1) (el (List.replicate 16 0)) := k3
  clear hsz
  have k1 : Arr W w.heap.size (el (mixl 0 zs xs)) := by rw [mixl_zero]; exact k1
  go_wp2_with fail
  go_loopw [5] (fun kv wr => ∃ i : Nat, i ≤ 16 ∧ kv = .int .i64 i ∧ Arr wr w.heap.size (el (mixl i zs xs)) ∧ Arr wr (w.heap.size + 1) (el ys) ∧ Arr wr (w.heap.size + 1 + 1) (el (List.replicate 16 0)) ∧ Below w.heap.size w wr) (fun kv _ => 16 - (intOf kv).toNat)
  case atStart => exact ⟨0, by omega, rfl, k1, k2, k3, kb⟩
  case round =>
    clear k1 k2 k3 kb
    obtain ⟨i, hi, rfl, k1, k2, k3, kb⟩ := hrel
    by_cases hlt : i < 16
    · obtain ⟨x, gx⟩ : ∃ x, xs[i]? = some x := ⟨_, get_lt (by rw [hx.out]; exact hlt)⟩
      obtain ⟨y, gy⟩ : ∃ y, ys[i]? = some y := ⟨_, get_lt (by rw [hy.out]; exact hlt)⟩
      have gz := hzg.out i x y gx gy
      have gm : (mixl i zs xs)[i]? = some x := by rw [mixl_get hzx.out (by rw [hx.out]; exact hlt), if_neg (Nat.lt_irrefl i), gx]
      have hbx := bx.out x (List.mem_of_getElem? gx)
      have hby := by'.out y (List.mem_of_getElem? gy)
      have hset := mixl_set hzx.out gz
      replace gx := Lib.hid gx
      replace gy := Lib.hid gy
      replace gz := Lib.hid gz
      replace gm := Lib.hid gm
      replace hset := Lib.hid hset
      have iw : IntKind.i64.wrap (x + y) = x + y := i64_in (by omega)
      go_upto_region 4 with (first | (refine wpList_load_arr2 rfl _ _ rfl _ rfl (by decide +kernel) _ (by assumption) (by first | (rw [lims_len]; kernel_rfl) | (rw [el_rep]; kernel_rfl) | (rw [el_len]; kernel_rfl) | (rw [byts_len]; kernel_rfl) | (rw [us_len]; kernel_rfl) | (rw [bytn_len]; kernel_rfl) | (rw [ens_len, digs_len]; kernel_rfl) | kernel_rfl) ?_) | (refine wpList_store_arr rfl _ _ _ rfl _ _ rfl rfl _ (by first | assumption | exact Arr.new _ _ _) (by first | (rw [lims_len]; kernel_rfl) | (rw [el_rep]; kernel_rfl) | (rw [el_len]; kernel_rfl) | (rw [byts_len]; kernel_rfl) | (rw [us_len]; kernel_rfl) | (rw [bytn_len]; kernel_rfl) | (rw [ens_len, digs_len]; kernel_rfl) | kernel_rfl) (by first | (rw [lims_len, lims_len]) | (rw [el_rep, el_rep]) | (rw [el_rep, el_len]; rfl) | (rw [el_len, el_rep]; rfl) | (rw [el_len, el_len]; rfl) | (rw [byts_len, byts_len]) | (rw [lims_len]; rfl) | (rw [byts_len]; rfl) | (rw [us_len, us_len]; rfl) | (rw [bytn_len, bytn_len]) | (rw [bytn_len]; rfl) | (rw [ens_len, ens_len, digs_len, digs_len]) | rfl) (by first | exact lims_one _ _ | exact el_one _ | exact byts_one _ | exact us_one _ | exact bytn_one _ _ | exact ens_one _ | (intro v hv; simp at hv; rcases hv with rfl | rfl | rfl | rfl <;> rfl)) ?_))
      refine Tx.start (fun w' => Below (wr).heap.size (wr) w') 9 10 rfl (by kernel_rfl) ?_
      have hS_1 : Below (wr).heap.size (wr) (World.drew wr) := (Below.refl _ _).drew
      refine Tx.seg (A := ?_) 1 511 (by kernel_rfl) (by exact hS_1) [0, 1, 2, 3, 4, 5, 6, 7, 8] (by kernel_rfl) ?_ ?_
      rotate_left
      · intro w' hB
        have e0 := k1.below hB
        have e1 := k2.below hB
        have e2 := k3.below hB
        have c1 := (k1.below hB).cell (el_get gm.out)
        have c2 := (k2.below hB).cell (el_get gy.out)
        iterate 9 (first | (refine rd_skip rfl rfl ?_; simp only [Act.put, List.setIfInBounds_toArray, List.set_cons_zero, List.set_cons_succ]) | (refine rd_load_arr rfl rfl _ _ rfl _ rfl (by decide +kernel) _ (by assumption) (by first | (rw [lims_len]; kernel_rfl) | (rw [el_rep]; kernel_rfl) | (rw [el_len]; kernel_rfl) | (rw [byts_len]; kernel_rfl) | (rw [us_len]; kernel_rfl) | (rw [bytn_len]; kernel_rfl) | (rw [ens_len, digs_len]; kernel_rfl) | kernel_rfl) ?_; simp only [Act.put, List.setIfInBounds_toArray, List.set_cons_zero, List.set_cons_succ]) | (refine rd_take (v := ?_) rfl rfl ?_ ?_; rotate_left; (focus (go_simp; try (with_reducible rfl))); simp only [Act.put, List.setIfInBounds_toArray, List.set_cons_zero, List.set_cons_succ]) | (refine rd_take (v := ?_) rfl rfl ?_ ?_; rotate_left; (focus (try go_simp); fail)))
        exact rd_nil
      have k1 := k1.below hS_1
      have k2 := k2.below hS_1
      have k3 := k3.below hS_1
      have kb := bel kb hS_1
      have hcel := k1.cell (el_get gm.out)
      have hfro := fun j => k1.frozen j
      refine Tx.bar 1023 rfl (by decide +kernel) (fun K hK => ?_)
      go_simp
      refine hK (fun _ => True) 9999 _ _ ?_
      clear hK K
      try simp only [Act.put]
      try simp only [List.setIfInBounds_toArray, List.set_cons_zero, List.set_cons_succ]
      refine Tx.done (by kernel_rfl) ?_
      first | refine then_cellD k1 (fun w_2 k1 hoth hbel => ?_) | refine inb_cellD k1 (fun w_2 k1 hoth hbel => ?_)
      have k2 := hoth _ _ (by omega) k2
      have k3 := hoth _ _ (by omega) k3
      have kb := hbel _ _ (by omega) kb
      clear hoth hbel
      clear hcel hfro
      rw [el_set, hset.out] at k1
      go_wp2_with fail
      exact ⟨⟨i + 1, by omega, by go_num, k1, k2, k3, kb⟩, by simp [intOf]; omega⟩
    · obtain rfl : i = 16 := by omega
      have e : mixl 16 zs xs = zs := by have := mixl_all hzx.out; rw [hx.out] at this; exact this
      rw [e] at k1
      have hl1 : (el zs).length = 16 := by rw [el_len, hzl.out]
      replace hl1 := Lib.hid hl1
      clear e
      go_wp2_with (refine wpList_load_arr2 rfl _ _ rfl _ rfl (by kernel_rfl) _ k1 (by rw [hl1.out]; kernel_rfl) ?_)
      refine (cc.out _).mono ?_
      rintro e w_3 ⟨rfl, hb_3⟩
      have k3 := k3.below hb_3
      have kb := bel kb hb_3
      clear hb_3
      go_wp2_with (first | (refine wpList_load_arr2 rfl _ _ rfl _ rfl (by decide +kernel) _ (by assumption) (by first | (rw [lims_len]; kernel_rfl) | (rw [el_rep]; kernel_rfl) | (rw [el_len]; kernel_rfl) | (rw [byts_len]; kernel_rfl) | (rw [us_len]; kernel_rfl) | (rw [bytn_len]; kernel_rfl) | (rw [ens_len, digs_len]; kernel_rfl) | kernel_rfl) ?_) | (refine wpList_store_arr rfl _ _ _ rfl _ _ rfl rfl _ (by first | assumption | exact Arr.new _ _ _) (by first | (rw [lims_len]; kernel_rfl) | (rw [el_rep]; kernel_rfl) | (rw [el_len]; kernel_rfl) | (rw [byts_len]; kernel_rfl) | (rw [us_len]; kernel_rfl) | (rw [bytn_len]; kernel_rfl) | (rw [ens_len, digs_len]; kernel_rfl) | kernel_rfl) (by first | (rw [lims_len, lims_len]) | (rw [el_rep, el_rep]) | (rw [el_rep, el_len]; rfl) | (rw [el_len, el_rep]; rfl) | (rw [el_len, el_len]; rfl) | (rw [byts_len, byts_len]) | (rw [lims_len]; rfl) | (rw [byts_len]; rfl) | (rw [us_len, us_len]; rfl) | (rw [bytn_len, bytn_len]) | (rw [bytn_len]; rfl) | (rw [ens_len, ens_len, digs_len, digs_len]) | rfl) (by first | exact lims_one _ _ | exact el_one _ | exact byts_one _ | exact us_one _ | exact bytn_one _ _ | exact ens_one _ | (intro v hv; simp at hv; rcases hv with rfl | rfl | rfl | rfl <;> rfl)) ?_))
      exact bodyPost_ret (results_arr2 Try.results24 _ _ _ rfl (by kernel_rfl) _ (by first | assumption | exact Arr.setRow (by assumption) _) (by first | (rw [lims_len]; kernel_rfl) | (rw [el_rep]; kernel_rfl) | (rw [el_len]; kernel_rfl) | (rw [byts_len]; kernel_rfl) | (rw [us_len]; kernel_rfl) | (rw [bytn_len]; kernel_rfl) | (rw [ens_len, digs_len]; kernel_rfl) | kernel_rfl)) rfl ⟨rfl, below_setRow kb (by omega) _⟩

theorem valZ_rsub : ∀ (xs ys : List Int), xs.length = ys.length → valZ (List.zipWith (fun x y => x - y) xs ys) = valZ xs - valZ ys
  | [], [], _ => rfl
  | [], _ :: _, h => by simp at h
  | _ :: _, [], h => by simp at h
  | x :: xs, y :: ys, h => by
    simp only [List.length_cons, Nat.add_right_cancel_iff] at h
    rw [List.zipWith_cons_cons, valZ, valZ, valZ, valZ_rsub xs ys h]
    omega

set_option maxHeartbeats 2000000 in
set_option maxRecDepth 100000 in
theorem rsub_any (xs ys : List Int) (hx : xs.length = 16) (hy : ys.length = 16) (bx : Bd 288230376151711744 xs) (by' : Bd 288230376151711744 ys) (w : World) :
    Calls Try.prog 26 #[.agg (el xs).toArray, .agg (el ys).toArray] w fun e w' => e = .returned (.agg (el (rep (valZ xs - valZ ys))).toArray) ∧ Below w.heap.size w w' := by
  obtain ⟨zs, hz⟩ : ∃ zs, List.zipWith (fun x y => x - y) xs ys = zs := ⟨_, rfl⟩
  have hzl : zs.length = 16 := by rw [← hz, List.length_zipWith, hx, hy]; rfl
  have hzx : zs.length = xs.length := by rw [hzl, hx]
  have hzg : ∀ (i : Nat) (x y : Int), xs[i]? = some x → ys[i]? = some y → zs[i]? = some (x - y) := by
    intro i x y h1 h2
    rw [← hz, List.getElem?_zipWith, h1, h2]
  have bz : Bd 1152921504606846976 zs := by
    intro z hzm
    rw [← hz] at hzm
    obtain ⟨i, hi, rfl⟩ := List.getElem_of_mem hzm
    rw [List.getElem_zipWith]
    rw [List.length_zipWith] at hi
    have h1 := bx xs[i] (List.getElem_mem _)
    have h2 := by' ys[i] (List.getElem_mem _)
    constructor <;> omega
  have hv := valZ_rsub xs ys (by rw [hx, hy])
  rw [hz] at hv
  rw [← hv]
  have cc := Lib.hid (fun w => carry_any zs hzl bz w)
  replace hv := Lib.hid hv
  replace hz := Lib.hid hz
  replace hzl := Lib.hid hzl
  replace hx := Lib.hid hx
  replace hy := Lib.hid hy
  replace hzx := Lib.hid hzx
  replace hzg := Lib.hid hzg
  replace bx := Lib.hid bx
  replace by' := Lib.hid by'
  clear bz
  go_enter Try.func26, Try.ntmps26
  go_upto_region 1 with fail
  refine wp_new3 (fun W hsz k1 k2 k3 kb => ?_)
  have k3 : Arr W (w.heap.size + 1 + 1) (el (List.replicate 16 0)) := k3
  clear hsz
  have k1 : Arr W w.heap.size (el (mixl 0 zs xs)) := by rw [mixl_zero]; exact k1
  go_wp2_with fail
  go_loopw [5] (fun kv wr => ∃ i : Nat, i ≤ 16 ∧ kv = .int .i64 i ∧ Arr wr w.heap.size (el (mixl i zs xs)) ∧ Arr wr (w.heap.size + 1) (el ys) ∧ Arr wr (w.heap.size + 1 + 1) (el (List.replicate 16 0)) ∧ Below w.heap.size w wr) (fun kv _ => 16 - (intOf kv).toNat)
  case atStart => exact ⟨0, by omega, rfl, k1, k2, k3, kb⟩
  case round =>
    clear k1 k2 k3 kb
    obtain ⟨i, hi, rfl, k1, k2, k3, kb⟩ := hrel
    by_cases hlt : i < 16
    · obtain ⟨x, gx⟩ : ∃ x, xs[i]? = some x := ⟨_, get_lt (by rw [hx.out]; exact hlt)⟩
      obtain ⟨y, gy⟩ : ∃ y, ys[i]? = some y := ⟨_, get_lt (by rw [hy.out]; exact hlt)⟩
      have gz := hzg.out i x y gx gy
      have gm : (mixl i zs xs)[i]? = some x := by rw [mixl_get hzx.out (by rw [hx.out]; exact hlt), if_neg (Nat.lt_irrefl i), gx]
      have hbx := bx.out x (List.mem_of_getElem? gx)
      have hby := by'.out y (List.mem_of_getElem? gy)
      have hset := mixl_set hzx.out gz
      replace gx := Lib.hid gx
      replace gy := Lib.hid gy
      replace gz := Lib.hid gz
      replace gm := Lib.hid gm
      replace hset := Lib.hid hset
      have iw : IntKind.i64.wrap (x - y) = x - y := i64_in (by omega)
      go_upto_region 4 with (first | (refine wpList_load_arr2 rfl _ _ rfl _ rfl (by decide +kernel) _ (by assumption) (by first | (rw [lims_len]; kernel_rfl) | (rw [el_rep]; kernel_rfl) | (rw [el_len]; kernel_rfl) | (rw [byts_len]; kernel_rfl) | (rw [us_len]; kernel_rfl) | (rw [bytn_len]; kernel_rfl) | (rw [ens_len, digs_len]; kernel_rfl) | kernel_rfl) ?_) | (refine wpList_store_arr rfl _ _ _ rfl _ _ rfl rfl _ (by first | assumption | exact Arr.new _ _ _) (by first | (rw [lims_len]; kernel_rfl) | (rw [el_rep]; kernel_rfl) | (rw [el_len]; kernel_rfl) | (rw [byts_len]; kernel_rfl) | (rw [us_len]; kernel_rfl) | (rw [bytn_len]; kernel_rfl) | (rw [ens_len, digs_len]; kernel_rfl) | kernel_rfl) (by first | (rw [lims_len, lims_len]) | (rw [el_rep, el_rep]) | (rw [el_rep, el_len]; rfl) | (rw [el_len, el_rep]; rfl) | (rw [el_len, el_len]; rfl) | (rw [byts_len, byts_len]) | (rw [lims_len]; rfl) | (rw [byts_len]; rfl) | (rw [us_len, us_len]; rfl) | (rw [bytn_len, bytn_len]) | (rw [bytn_len]; rfl) | (rw [ens_len, ens_len, digs_len, digs_len]) | rfl) (by first | exact lims_one _ _ | exact el_one _ | exact byts_one _ | exact us_one _ | exact bytn_one _ _ | exact ens_one _ | (intro v hv; simp at hv; rcases hv with rfl | rfl | rfl | rfl <;> rfl)) ?_))
      refine Tx.start (fun w' => Below (wr).heap.size (wr) w') 9 10 rfl (by kernel_rfl) ?_
      have hS_4 : Below (wr).heap.size (wr) (World.drew wr) := (Below.refl _ _).drew
      refine Tx.seg (A := ?_) 1 511 (by kernel_rfl) (by exact hS_4) [0, 1, 2, 3, 4, 5, 6, 7, 8] (by kernel_rfl) ?_ ?_
      rotate_left
      · intro w' hB
        have e0 := k1.below hB
        have e1 := k2.below hB
        have e2 := k3.below hB
        have c1 := (k1.below hB).cell (el_get gm.out)
        have c2 := (k2.below hB).cell (el_get gy.out)
        iterate 9 (first | (refine rd_skip rfl rfl ?_; simp only [Act.put, List.setIfInBounds_toArray, List.set_cons_zero, List.set_cons_succ]) | (refine rd_load_arr rfl rfl _ _ rfl _ rfl (by decide +kernel) _ (by assumption) (by first | (rw [lims_len]; kernel_rfl) | (rw [el_rep]; kernel_rfl) | (rw [el_len]; kernel_rfl) | (rw [byts_len]; kernel_rfl) | (rw [us_len]; kernel_rfl) | (rw [bytn_len]; kernel_rfl) | (rw [ens_len, digs_len]; kernel_rfl) | kernel_rfl) ?_; simp only [Act.put, List.setIfInBounds_toArray, List.set_cons_zero, List.set_cons_succ]) | (refine rd_take (v := ?_) rfl rfl ?_ ?_; rotate_left; (focus (go_simp; try (with_reducible rfl))); simp only [Act.put, List.setIfInBounds_toArray, List.set_cons_zero, List.set_cons_succ]) | (refine rd_take (v := ?_) rfl rfl ?_ ?_; rotate_left; (focus (try go_simp); fail)))
        exact rd_nil
      have k1 := k1.below hS_4
      have k2 := k2.below hS_4
      have k3 := k3.below hS_4
      have kb := bel kb hS_4
      have hcel := k1.cell (el_get gm.out)
      have hfro := fun j => k1.frozen j
      refine Tx.bar 1023 rfl (by decide +kernel) (fun K hK => ?_)
      go_simp
      refine hK (fun _ => True) 9999 _ _ ?_
      clear hK K
      try simp only [Act.put]
      try simp only [List.setIfInBounds_toArray, List.set_cons_zero, List.set_cons_succ]
      refine Tx.done (by kernel_rfl) ?_
      first | refine then_cellD k1 (fun w_5 k1 hoth hbel => ?_) | refine inb_cellD k1 (fun w_5 k1 hoth hbel => ?_)
      have k2 := hoth _ _ (by omega) k2
      have k3 := hoth _ _ (by omega) k3
      have kb := hbel _ _ (by omega) kb
      clear hoth hbel
      clear hcel hfro
      rw [el_set, hset.out] at k1
      go_wp2_with fail
      exact ⟨⟨i + 1, by omega, by go_num, k1, k2, k3, kb⟩, by simp [intOf]; omega⟩
    · obtain rfl : i = 16 := by omega
      have e : mixl 16 zs xs = zs := by have := mixl_all hzx.out; rw [hx.out] at this; exact this
      rw [e] at k1
      have hl1 : (el zs).length = 16 := by rw [el_len, hzl.out]
      replace hl1 := Lib.hid hl1
      clear e
      go_wp2_with (refine wpList_load_arr2 rfl _ _ rfl _ rfl (by kernel_rfl) _ k1 (by rw [hl1.out]; kernel_rfl) ?_)
      refine (cc.out _).mono ?_
      rintro e w_6 ⟨rfl, hb_6⟩
      have k3 := k3.below hb_6
      have kb := bel kb hb_6
      clear hb_6
      go_wp2_with (first | (refine wpList_load_arr2 rfl _ _ rfl _ rfl (by decide +kernel) _ (by assumption) (by first | (rw [lims_len]; kernel_rfl) | (rw [el_rep]; kernel_rfl) | (rw [el_len]; kernel_rfl) | (rw [byts_len]; kernel_rfl) | (rw [us_len]; kernel_rfl) | (rw [bytn_len]; kernel_rfl) | (rw [ens_len, digs_len]; kernel_rfl) | kernel_rfl) ?_) | (refine wpList_store_arr rfl _ _ _ rfl _ _ rfl rfl _ (by first | assumption | exact Arr.new _ _ _) (by first | (rw [lims_len]; kernel_rfl) | (rw [el_rep]; kernel_rfl) | (rw [el_len]; kernel_rfl) | (rw [byts_len]; kernel_rfl) | (rw [us_len]; kernel_rfl) | (rw [bytn_len]; kernel_rfl) | (rw [ens_len, digs_len]; kernel_rfl) | kernel_rfl) (by first | (rw [lims_len, lims_len]) | (rw [el_rep, el_rep]) | (rw [el_rep, el_len]; rfl) | (rw [el_len, el_rep]; rfl) | (rw [el_len, el_len]; rfl) | (rw [byts_len, byts_len]) | (rw [lims_len]; rfl) | (rw [byts_len]; rfl) | (rw [us_len, us_len]; rfl) | (rw [bytn_len, bytn_len]) | (rw [bytn_len]; rfl) | (rw [ens_len, ens_len, digs_len, digs_len]) | rfl) (by first | exact lims_one _ _ | exact el_one _ | exact byts_one _ | exact us_one _ | exact bytn_one _ _ | exact ens_one _ | (intro v hv; simp at hv; rcases hv with rfl | rfl | rfl | rfl <;> rfl)) ?_))
      exact bodyPost_ret (results_arr2 Try.results26 _ _ _ rfl (by kernel_rfl) _ (by first | assumption | exact Arr.setRow (by assumption) _) (by first | (rw [lims_len]; kernel_rfl) | (rw [el_rep]; kernel_rfl) | (rw [el_len]; kernel_rfl) | (rw [byts_len]; kernel_rfl) | (rw [us_len]; kernel_rfl) | (rw [bytn_len]; kernel_rfl) | (rw [ens_len, digs_len]; kernel_rfl) | kernel_rfl)) rfl ⟨rfl, below_setRow kb (by omega) _⟩

end Go.Proofs.Ytpjkhedodlnloaa
