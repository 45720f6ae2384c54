/- Reference of the field: mul. -/
import Derived.Test.YtpjkhedodlnloaaRf5
namespace Go.Proofs.Ytpjkhedodlnloaa
open Go.RowKit

theorem getD_get {xs : List Int} {i : Nat} (h : i < xs.length) : xs[i]? = some (xs.getD i 0) := by
  rw [List.getD_eq_getElem?_getD, List.getElem?_eq_getElem h]; rfl
theorem ofunZ_succ (t : List Int) (n : Nat) : ofunZ t (n + 1) = ofunZ t n ++ [t.getD n 0 + (if n < 15 then 38 * t.getD (n + 16) 0 else 0)] := by
  unfold ofunZ; rw [List.range_succ, List.map_append]; rfl
theorem rep_succ (n : Nat) (h : n < 16) : List.replicate (16 - n) (0 : Int) = 0 :: List.replicate (15 - n) 0 := by
  rw [show 16 - n = (15 - n) + 1 by omega, List.replicate_succ]

theorem bd_rep60 {U : Int} {K : Int} (h0 : -(65536 ^ 16 * K) ≤ U) (h1 : U < 65536 ^ 16 * K) (hK : K ≤ 18014398509481984) : Bd 1152921504606846976 (rep U) := by
  intro x hx
  have := rep_bd h0 h1 x hx
  constructor <;> omega

set_option maxHeartbeats 4000000 in
set_option maxRecDepth 100000 in
theorem rmul_any (xs ys : List Int) (hx : xs.length = 16) (hy : ys.length = 16) (bx : Bd 262144 xs) (by' : Bd 262144 ys) (w : World) :
    Calls Try.prog 25 #[.agg (el xs).toArray, .agg (el ys).toArray] w fun e w' => e = .returned (.agg (el (rep (fv (mulZ xs ys)))).toArray) ∧ Below w.heap.size w w' := by
  have ho := Bd.outer (C := 262144) (by decide) bx by'
  have hoi := fun i j => Bd.inner (C := 262144) (by decide) bx by' (ho i) (Int.mul_nonneg (Int.natCast_nonneg i) (by decide)) i j
  obtain ⟨T, hT⟩ : ∃ T, outerZ xs ys 16 = T := ⟨_, rfl⟩
  have hTl : T.length = 31 := by rw [← hT, outerZ_len]
  have hTb := ho 16
  rw [hT] at hTb
  have hTb' : Bd 17592186044416 T := hTb.mono (by decide)
  have hob := ofunZ_bd (by decide) hTb' 16
  have c1 := carry_any (ofunZ T 16) (ofunZ_len _ _) (hob.mono (by decide))
  have hmz : valZ (ofunZ T 16) = mulZ xs ys := by rw [mulZ, hT]
  have hvb := valZ_bd (by decide) (ofunZ T 16) hob
  rw [ofunZ_len, hmz] at hvb
  have c2 := carry_any (rep (mulZ xs ys)) (rep_len _) (bd_rep60 (K := 2251799813685248) (by omega) (by omega) (by decide))
  rw [hmz] at c1
  rw [valZ_rep] at c2
  generalize mulZ xs ys = P at *
  have hlx : (el xs).length = 16 := by rw [el_len, hx]
  have hly : (el ys).length = 16 := by rw [el_len, hy]
  have hlo : (el (ofunZ T 16)).length = 16 := by rw [el_len, ofunZ_len]
  replace c1 := Lib.hid c1
  replace c2 := Lib.hid c2
  replace hx := Lib.hid hx
  replace hy := Lib.hid hy
  replace bx := Lib.hid bx
  replace by' := Lib.hid by'
  replace hlx := Lib.hid hlx
  replace hly := Lib.hid hly
  replace hlo := Lib.hid hlo
  have hT' : ∀ n, n = 16 → outerZ xs ys n = T := by rintro n rfl; exact hT
  replace hT' := Lib.hid hT'
  clear hT
  replace hTl := Lib.hid hTl
  replace hTb' := Lib.hid hTb'
  replace hoi := Lib.hid hoi
  clear hvb hmz hob hTb ho
  go_enter Try.func25, Try.ntmps25
  go_upto_region 1 with fail
  refine wp_new3 (fun W hsz k1 k2 k3 kb => ?_)
  have k3 : Arr W (w.heap.size + 1 + 1) (el (List.replicate 16 0)) := k3
  clear hsz
  have lt1 := k1.lt
  have lt2 := k2.lt
  have lt3 := k3.lt
  go_upto_region 2 with fail
  refine wp_new1 (fun w9 hsz9 k4 hb9 => ?_)
  have k1 := k1.below hb9
  have k2 := k2.below hb9
  have k3 := k3.below hb9
  have kb := bel kb hb9
  generalize W.heap.size = g at k4 lt1 lt2 lt3 ⊢
  have k4 : Arr w9 g (el (outerZ xs ys 0)) := k4
  clear hsz9 hb9
  go_wp2_with fail
  go_loopw [6] (fun iv wr => ∃ i : Nat, i ≤ 16 ∧ iv = .int .i64 i ∧ Arr wr w.heap.size (el xs) ∧ Arr wr (w.heap.size + 1) (el ys) ∧ Arr wr (w.heap.size + 1 + 1) (el (List.replicate 16 0)) ∧ Arr wr g (el (outerZ xs ys i)) ∧ Below w.heap.size w wr) (fun iv _ => 16 - (intOf iv).toNat)
  case atStart => exact ⟨0, by omega, rfl, k1, k2, k3, k4, kb⟩
  case round =>
    clear k1 k2 k3 k4 kb
    obtain ⟨i, hi, rfl, k1, k2, k3, k4, kb⟩ := hrel
    by_cases hlt : i < 16
    · have k4 : Arr wr g (el (innerZ xs ys i 0 (outerZ xs ys i))) := k4
      have tl := outerZ_len xs ys i
      obtain ⟨t0, ht0⟩ : ∃ t, outerZ xs ys i = t := ⟨_, rfl⟩
      have hoi := hoi.out i
      rw [ht0] at k4 tl hoi
      have hsucc := outerZ_succ xs ys i
      rw [ht0] at hsucc
      obtain ⟨x, hxi⟩ : ∃ x, xs.getD i 0 = x := ⟨_, rfl⟩
      have gx := el_get (getD_get (xs := xs) (i := i) (by rw [hx.out]; exact hlt))
      rw [hxi] at gx
      have hbx := bx.out.getD (by decide) i
      rw [hxi] at hbx
      replace gx := Lib.hid gx
      replace hxi := Lib.hid hxi
      replace hsucc := Lib.hid hsucc
      replace ht0 := Lib.hid ht0
      replace tl := Lib.hid tl
      replace hoi := Lib.hid hoi
      obtain ⟨hbx1, hbx2⟩ := hbx
      have iw7 : (i : Int) < 16 := by omega
      go_wp2_with fail
      go_loopw [7] (fun kv wr => ∃ j : Nat, j ≤ 16 ∧ kv = .int .i64 j ∧ Arr wr w.heap.size (el xs) ∧ Arr wr (w.heap.size + 1) (el ys) ∧ Arr wr (w.heap.size + 1 + 1) (el (List.replicate 16 0)) ∧ Arr wr g (el (innerZ xs ys i j t0)) ∧ Below w.heap.size w wr) (fun kv _ => 16 - (intOf kv).toNat)
      case atStart => exact ⟨0, by omega, rfl, k1, k2, k3, k4, kb⟩
      case round =>
        clear k1 k2 k3 k4 kb
        obtain ⟨j, hj, rfl, k1, k2, k3, k4, kb⟩ := hrel
        by_cases hltj : j < 16
        · obtain ⟨y, hyj⟩ : ∃ y, ys.getD j 0 = y := ⟨_, rfl⟩
          have gy := el_get (getD_get (xs := ys) (i := j) (by rw [hy.out]; exact hltj))
          have hby := by'.out.getD (by decide) j
          have hst := innerZ_succ xs ys i j t0
          have hbt := hoi.out j
          have tl' := innerZ_len xs ys i t0 j
          rw [tl.out] at tl'
          obtain ⟨t, ht⟩ : ∃ t, innerZ xs ys i j t0 = t := ⟨_, rfl⟩
          rw [ht] at k4 hst hbt tl'
          rw [hyj] at gy hby hst
          rw [hxi.out] at hst
          obtain ⟨z, hz⟩ : ∃ z, t.getD (i + j) 0 = z := ⟨_, rfl⟩
          have gz := el_get (getD_get (xs := t) (i := i + j) (by rw [tl']; omega))
          have hbz := hbt.getD (by omega) (i + j)
          rw [hz] at gz hbz
          have hxy := bd_mul ⟨hbx1, hbx2⟩ hby
          obtain ⟨p, hp⟩ : ∃ p, x * y = p := ⟨_, rfl⟩
          rw [hp] at hxy
          have hst2 : t.set (i + j) (z + p) = innerZ xs ys i (j + 1) t0 := by rw [hst]; unfold updZ; rw [hz, hp]
          have iw1 : IntKind.i64.wrap p = p := i64_in (by omega)
          have iw2 : IntKind.i64.wrap (z + p) = z + p := i64_in (by omega)
          have iw3 : IntKind.i64.wrap ((i : Int) + (j : Int)) = (i : Int) + (j : Int) := i64_in (by omega)
          have iw4 : ((i : Int) + (j : Int)).toNat = i + j := by omega
          have iw5 : (0 : Int) ≤ (i : Int) + (j : Int) := by omega
          have iw6 : (i : Int) + (j : Int) < 31 := by omega
          have iw8 : (j : Int) < 16 := by omega
          replace hp := Lib.hid hp
          replace hz := Lib.hid hz
          replace hst2 := Lib.hid hst2
          replace gz := Lib.hid gz
          replace gy := Lib.hid gy
          replace hbz := Lib.hid hbz
          replace hxy := Lib.hid hxy
          replace hyj := Lib.hid hyj
          replace ht := Lib.hid ht
          clear hst hbt tl' hby
          go_upto_region 8 with (first | (refine wpList_load_arr2 rfl _ _ rfl _ rfl (by decide +kernel) _ (by assumption) (by first | (rw [lims_len]; kernel_rfl) | (rw [el_rep]; kernel_rfl) | (rw [el_len]; kernel_rfl) | (rw [byts_len]; kernel_rfl) | (rw [us_len]; kernel_rfl) | (rw [bytn_len]; kernel_rfl) | (rw [ens_len, digs_len]; kernel_rfl) | kernel_rfl) ?_) | (refine wpList_store_arr rfl _ _ _ rfl _ _ rfl rfl _ (by first | assumption | exact Arr.new _ _ _) (by first | (rw [lims_len]; kernel_rfl) | (rw [el_rep]; kernel_rfl) | (rw [el_len]; kernel_rfl) | (rw [byts_len]; kernel_rfl) | (rw [us_len]; kernel_rfl) | (rw [bytn_len]; kernel_rfl) | (rw [ens_len, digs_len]; kernel_rfl) | kernel_rfl) (by first | (rw [lims_len, lims_len]) | (rw [el_rep, el_rep]) | (rw [el_rep, el_len]; rfl) | (rw [el_len, el_rep]; rfl) | (rw [el_len, el_len]; rfl) | (rw [byts_len, byts_len]) | (rw [lims_len]; rfl) | (rw [byts_len]; rfl) | (rw [us_len, us_len]; rfl) | (rw [bytn_len, bytn_len]) | (rw [bytn_len]; rfl) | (rw [ens_len, ens_len, digs_len, digs_len]) | rfl) (by first | exact lims_one _ _ | exact el_one _ | exact byts_one _ | exact us_one _ | exact bytn_one _ _ | exact ens_one _ | (intro v hv; simp at hv; rcases hv with rfl | rfl | rfl | rfl <;> rfl)) ?_))
          refine Tx.start (fun w' => Below (wr).heap.size (wr) w') 17 18 rfl (by kernel_rfl) ?_
          have hS_1 : Below (wr).heap.size (wr) (World.drew wr) := (Below.refl _ _).drew
          refine Tx.seg (A := ?_) 1 131071 (by kernel_rfl) (by exact hS_1) [0, 1, 2, 3, 4, 5, 6, 7, 8, 9, 10, 11, 12, 13, 14, 15, 16] (by kernel_rfl) ?_ ?_
          rotate_left
          · intro w' hB
            have e0 := k1.below hB
            have e1 := k2.below hB
            have e2 := k3.below hB
            have e3 := k4.below hB
            have c1 := (k1.below hB).cell gx.out
            have c2 := (k2.below hB).cell gy.out
            have c3 := (k4.below hB).cell gz.out
            have c4 := hp.out
            iterate 17 (first | (refine rd_skip rfl rfl ?_; simp only [Act.put, List.setIfInBounds_toArray, List.set_cons_zero, List.set_cons_succ]) | (refine rd_load_arr rfl rfl _ _ rfl _ rfl (by decide +kernel) _ (by assumption) (by first | (rw [lims_len]; kernel_rfl) | (rw [el_rep]; kernel_rfl) | (rw [el_len]; kernel_rfl) | (rw [byts_len]; kernel_rfl) | (rw [us_len]; kernel_rfl) | (rw [bytn_len]; kernel_rfl) | (rw [ens_len, digs_len]; kernel_rfl) | kernel_rfl) ?_; simp only [Act.put, List.setIfInBounds_toArray, List.set_cons_zero, List.set_cons_succ]) | (refine rd_take (v := ?_) rfl rfl ?_ ?_; rotate_left; (focus (go_simp; try (with_reducible rfl))); simp only [Act.put, List.setIfInBounds_toArray, List.set_cons_zero, List.set_cons_succ]) | (refine rd_take (v := ?_) rfl rfl ?_ ?_; rotate_left; (focus (try go_simp); fail)))
            exact rd_nil
          have k1 := k1.below hS_1
          have k2 := k2.below hS_1
          have k3 := k3.below hS_1
          have k4 := k4.below hS_1
          have kb := bel kb hS_1
          have hcel := k4.cell gz.out
          have hfro := fun j => k4.frozen j
          refine Tx.bar 262143 rfl (by decide +kernel) (fun K hK => ?_)
          go_simp
          refine hK (fun _ => True) 9999 _ _ ?_
          clear hK K
          try simp only [Act.put]
          try simp only [List.setIfInBounds_toArray, List.set_cons_zero, List.set_cons_succ]
          refine Tx.done (by kernel_rfl) ?_
          first | refine then_cellD k4 (fun w_2 k4 hoth hbel => ?_) | refine inb_cellD k4 (fun w_2 k4 hoth hbel => ?_)
          have k1 := hoth _ _ (by omega) k1
          have k2 := hoth _ _ (by omega) k2
          have k3 := hoth _ _ (by omega) k3
          have kb := hbel _ _ (by omega) kb
          clear hoth hbel
          clear hcel hfro
          rw [el_set, hst2.out] at k4
          clear iw1 iw2 iw3 iw4 iw5 iw6
          go_wp2_with fail
          exact ⟨⟨j + 1, by omega, by go_num, k1, k2, k3, k4, kb⟩, by simp [intOf]; omega⟩
        · obtain rfl : j = 16 := by omega
          rw [← hsucc.out] at k4
          go_wp2_with fail
          exact ⟨⟨i + 1, by omega, by go_num, k1, k2, k3, k4, kb⟩, by simp [intOf]; omega⟩
    · have hi16 : i = 16 := by omega
      rw [hT'.out i hi16] at k4
      subst hi16
      have lt4 := k4.lt
      clear hT' hoi bx by' hlx hly hx hy
      go_upto_region 10 with fail
      refine wp_new1 (fun w9 hsz9 k5 hb9 => ?_)
      have k3 := k3.below hb9
      have k4 := k4.below hb9
      have kb := bel kb hb9
      generalize wr.heap.size = h at k5 lt4 ⊢
      have k5 : Arr w9 h (el (ofunZ T 0 ++ List.replicate (16 - 0) 0)) := k5
      clear hsz9 hb9 k1 k2
      go_wp2_with fail
      go_loopw [9] (fun kv wr => ∃ n : Nat, n ≤ 16 ∧ kv = .int .i64 n ∧ Arr wr (w.heap.size + 1 + 1) (el (List.replicate 16 0)) ∧ Arr wr g (el T) ∧ Arr wr h (el (ofunZ T n ++ List.replicate (16 - n) 0)) ∧ Below w.heap.size w wr) (fun kv _ => 16 - (intOf kv).toNat)
      case atStart => exact ⟨0, by omega, rfl, k3, k4, k5, kb⟩
      case round =>
        clear k3 k4 k5 kb
        obtain ⟨n, hn, rfl, k3, k4, k5, kb⟩ := hrel
        by_cases hlt : n < 16
        · have hsn := ofunZ_succ T n
          have hz := rep_succ n hlt
          rw [hz] at k5
          obtain ⟨x, hx⟩ : ∃ x, T.getD n 0 = x := ⟨_, rfl⟩
          have hbx := hTb'.out.getD (by decide) n
          have gx := el_get (getD_get (xs := T) (i := n) (by rw [hTl.out]; omega))
          rw [hx] at gx hsn hbx
          have g5 := el_get (mid_get (ofunZ_len T n) 0 (List.replicate (15 - n) 0))
          have hcel := k4.cell gx
          have hc5 := k5.cell g5
          have hfro := fun j => k5.frozen j
          obtain ⟨hbx1, hbx2⟩ := hbx
          have iw7 : (n : Int) < 16 := by omega
          replace hsn := Lib.hid hsn
          replace hz := Lib.hid hz
          replace hx := Lib.hid hx
          replace gx := Lib.hid gx
          replace g5 := Lib.hid g5
          go_upto_region 14 with fail
          refine code_cell k5 (fun w_3 k5 hoth hbel => ?_)
          have k3 := hoth _ _ (by omega) k3
          have k4 := hoth _ _ (by omega) k4
          have kb := hbel _ _ (by omega) kb
          clear hoth hbel
          rw [el_set, mid_set (ofunZ_len T n)] at k5
          clear hcel hc5 hfro
          by_cases h15 : n < 15
          · obtain ⟨y, hy⟩ : ∃ y, T.getD (n + 16) 0 = y := ⟨_, rfl⟩
            have hby := hTb'.out.getD (by decide) (n + 16)
            have gy := el_get (getD_get (xs := T) (i := n + 16) (by rw [hTl.out]; omega))
            have hsn := hsn.out
            rw [if_pos h15, hy] at hsn
            rw [hy] at hby gy
            obtain ⟨hby1, hby2⟩ := hby
            have g5 := el_get (mid_get (ofunZ_len T n) x (List.replicate (15 - n) 0))
            have iw1 : IntKind.i64.wrap (38 * y) = 38 * y := i64_in (by omega)
            have iw2 : IntKind.i64.wrap (x + 38 * y) = x + 38 * y := i64_in (by omega)
            have iw3 : IntKind.i64.wrap ((n : Int) + 16) = (n : Int) + 16 := i64_in (by omega)
            have iw4 : ((n : Int) + 16).toNat = n + 16 := by omega
            have iw5 : (0 : Int) ≤ (n : Int) + 16 := by omega
            have iw6 : (n : Int) + 16 < 31 := by omega
            replace hsn := Lib.hid hsn
            replace hy := Lib.hid hy
            replace gy := Lib.hid gy
            replace g5 := Lib.hid g5
            go_upto_region 15 with fail
            go_upto_region 15 with (first | (refine wpList_load_arr2 rfl _ _ rfl _ rfl (by decide +kernel) _ (by assumption) (by first | (rw [lims_len]; kernel_rfl) | (rw [el_rep]; kernel_rfl) | (rw [el_len]; kernel_rfl) | (rw [byts_len]; kernel_rfl) | (rw [us_len]; kernel_rfl) | (rw [bytn_len]; kernel_rfl) | (rw [ens_len, digs_len]; kernel_rfl) | kernel_rfl) ?_) | (refine wpList_store_arr rfl _ _ _ rfl _ _ rfl rfl _ (by first | assumption | exact Arr.new _ _ _) (by first | (rw [lims_len]; kernel_rfl) | (rw [el_rep]; kernel_rfl) | (rw [el_len]; kernel_rfl) | (rw [byts_len]; kernel_rfl) | (rw [us_len]; kernel_rfl) | (rw [bytn_len]; kernel_rfl) | (rw [ens_len, digs_len]; kernel_rfl) | kernel_rfl) (by first | (rw [lims_len, lims_len]) | (rw [el_rep, el_rep]) | (rw [el_rep, el_len]; rfl) | (rw [el_len, el_rep]; rfl) | (rw [el_len, el_len]; rfl) | (rw [byts_len, byts_len]) | (rw [lims_len]; rfl) | (rw [byts_len]; rfl) | (rw [us_len, us_len]; rfl) | (rw [bytn_len, bytn_len]) | (rw [bytn_len]; rfl) | (rw [ens_len, ens_len, digs_len, digs_len]) | rfl) (by first | exact lims_one _ _ | exact el_one _ | exact byts_one _ | exact us_one _ | exact bytn_one _ _ | exact ens_one _ | (intro v hv; simp at hv; rcases hv with rfl | rfl | rfl | rfl <;> rfl)) ?_))
            refine Tx.start (fun w' => Below (w_3).heap.size (w_3) w') 11 12 rfl (by kernel_rfl) ?_
            have hS_4 : Below (w_3).heap.size (w_3) (World.drew w_3) := (Below.refl _ _).drew
            refine Tx.seg (A := ?_) 1 2047 (by kernel_rfl) (by exact hS_4) [0, 1, 2, 3, 4, 5, 6, 7, 8, 9, 10] (by kernel_rfl) ?_ ?_
            rotate_left
            · intro w' hB
              have e0 := k3.below hB
              have e1 := k4.below hB
              have e2 := k5.below hB
              have c1 := (k4.below hB).cell gy.out
              have c2 := (k5.below hB).cell g5.out
              iterate 11 (first | (refine rd_skip rfl rfl ?_; simp only [Act.put, List.setIfInBounds_toArray, List.set_cons_zero, List.set_cons_succ]) | (refine rd_load_arr rfl rfl _ _ rfl _ rfl (by decide +kernel) _ (by assumption) (by first | (rw [lims_len]; kernel_rfl) | (rw [el_rep]; kernel_rfl) | (rw [el_len]; kernel_rfl) | (rw [byts_len]; kernel_rfl) | (rw [us_len]; kernel_rfl) | (rw [bytn_len]; kernel_rfl) | (rw [ens_len, digs_len]; kernel_rfl) | kernel_rfl) ?_; simp only [Act.put, List.setIfInBounds_toArray, List.set_cons_zero, List.set_cons_succ]) | (refine rd_take (v := ?_) rfl rfl ?_ ?_; rotate_left; (focus (go_simp; try (with_reducible rfl))); simp only [Act.put, List.setIfInBounds_toArray, List.set_cons_zero, List.set_cons_succ]) | (refine rd_take (v := ?_) rfl rfl ?_ ?_; rotate_left; (focus (try go_simp); fail)))
              exact rd_nil
            have k3 := k3.below hS_4
            have k4 := k4.below hS_4
            have k5 := k5.below hS_4
            have kb := bel kb hS_4
            have hcel := k5.cell g5.out
            have hfro := fun j => k5.frozen j
            refine Tx.bar 4095 rfl (by decide +kernel) (fun K hK => ?_)
            go_simp
            refine hK (fun _ => True) 9999 _ _ ?_
            clear hK K
            try simp only [Act.put]
            try simp only [List.setIfInBounds_toArray, List.set_cons_zero, List.set_cons_succ]
            refine Tx.done (by kernel_rfl) ?_
            first | refine then_cellD k5 (fun w_5 k5 hoth hbel => ?_) | refine inb_cellD k5 (fun w_5 k5 hoth hbel => ?_)
            have k3 := hoth _ _ (by omega) k3
            have k4 := hoth _ _ (by omega) k4
            have kb := hbel _ _ (by omega) kb
            clear hoth hbel
            clear hcel hfro
            rw [el_set, mid_set (ofunZ_len T n)] at k5
            clear iw1 iw2 iw3 iw4 iw5 iw6
            go_wp2_with fail
            refine ⟨⟨n + 1, by omega, by go_num, k3, k4, ?_, kb⟩, by simp [intOf]; omega⟩
            rw [hsn.out, List.append_assoc, show 16 - (n + 1) = 15 - n by omega]
            exact k5
          · obtain rfl : n = 15 := by omega
            have hsn := hsn.out
            rw [if_neg (by omega), Int.add_zero] at hsn
            replace hsn := Lib.hid hsn
            go_wp2_with fail
            refine ⟨⟨15 + 1, by omega, by go_num, k3, k4, ?_, kb⟩, by simp [intOf]⟩
            rw [hsn.out, List.append_assoc]
            exact k5
        · obtain rfl : n = 16 := by omega
          have e : ofunZ T 16 ++ List.replicate (16 - 16) (0 : Int) = ofunZ T 16 := by simp
          rw [e] at k5
          clear e
          go_wp2_with (refine wpList_load_arr2 rfl _ _ rfl _ rfl (by kernel_rfl) _ k5 (by rw [hlo.out]; kernel_rfl) ?_)
          refine (c1.out _).mono ?_
          rintro e w_6 ⟨rfl, hb_6⟩
          have k3 := k3.below hb_6
          have kb := bel kb hb_6
          clear hb_6
          go_wp2_with fail
          refine (c2.out _).mono ?_
          rintro e w_7 ⟨rfl, hb_7⟩
          have k3 := k3.below hb_7
          have kb := bel kb hb_7
          clear hb_7
          go_wp2_with (first | (refine wpList_load_arr2 rfl _ _ rfl _ rfl (by decide +kernel) _ (by assumption) (by first | (rw [lims_len]; kernel_rfl) | (rw [el_rep]; kernel_rfl) | (rw [el_len]; kernel_rfl) | (rw [byts_len]; kernel_rfl) | (rw [us_len]; kernel_rfl) | (rw [bytn_len]; kernel_rfl) | (rw [ens_len, digs_len]; kernel_rfl) | kernel_rfl) ?_) | (refine wpList_store_arr rfl _ _ _ rfl _ _ rfl rfl _ (by first | assumption | exact Arr.new _ _ _) (by first | (rw [lims_len]; kernel_rfl) | (rw [el_rep]; kernel_rfl) | (rw [el_len]; kernel_rfl) | (rw [byts_len]; kernel_rfl) | (rw [us_len]; kernel_rfl) | (rw [bytn_len]; kernel_rfl) | (rw [ens_len, digs_len]; kernel_rfl) | kernel_rfl) (by first | (rw [lims_len, lims_len]) | (rw [el_rep, el_rep]) | (rw [el_rep, el_len]; rfl) | (rw [el_len, el_rep]; rfl) | (rw [el_len, el_len]; rfl) | (rw [byts_len, byts_len]) | (rw [lims_len]; rfl) | (rw [byts_len]; rfl) | (rw [us_len, us_len]; rfl) | (rw [bytn_len, bytn_len]) | (rw [bytn_len]; rfl) | (rw [ens_len, ens_len, digs_len, digs_len]) | rfl) (by first | exact lims_one _ _ | exact el_one _ | exact byts_one _ | exact us_one _ | exact bytn_one _ _ | exact ens_one _ | (intro v hv; simp at hv; rcases hv with rfl | rfl | rfl | rfl <;> rfl)) ?_))
          exact bodyPost_ret (results_arr2 Try.results25 _ _ _ rfl (by kernel_rfl) _ (by first | assumption | exact Arr.setRow (by assumption) _) (by first | (rw [lims_len]; kernel_rfl) | (rw [el_rep]; kernel_rfl) | (rw [el_len]; kernel_rfl) | (rw [byts_len]; kernel_rfl) | (rw [us_len]; kernel_rfl) | (rw [bytn_len]; kernel_rfl) | (rw [ens_len, digs_len]; kernel_rfl) | kernel_rfl)) rfl ⟨rfl, below_setRow kb (by omega) _⟩

end Go.Proofs.Ytpjkhedodlnloaa
