/- Reference of the scalars: Reduce. -/
import Derived.Test.YtdcbpilibaigmaaDoorRq1
import Derived.Test.YtdcbpilibaigmaaDoorRf8
namespace Go.Proofs.YtdcbpilibaigmaaDoor
open Go.RowKit

theorem dbl_digit {N R k c : Nat} (h : N / 256 ^ k = 2 * (R / 256 ^ k) + c) : N / 256 ^ k % 256 = (2 * (R / 256 ^ k % 256) + c) % 256 ∧ N / 256 ^ (k + 1) = 2 * (R / 256 ^ (k + 1)) + (2 * (R / 256 ^ k % 256) + c) / 256 := by
  rw [Nat.pow_succ, ← Nat.div_div_eq_div_mul, ← Nat.div_div_eq_div_mul, h]
  omega


set_option maxHeartbeats 4000000 in
set_option maxRecDepth 100000 in
theorem rqReduce_any (d : Option Addr) (n cap : Nat) (bs : List UInt8) (w : World) (hs : Sl w (.slice d n cap) (u8s bs)) (kG : Arr w 0 (el (dgl 32 qN))) :
    Calls Tryd.prog 8 #[.slice d n cap] w fun e w' => e = .returned (.agg (byts (val 256 ((bs.take 64).map (·.toNat)) % qN)).toArray) ∧ Below w.heap.size w w' := by
  have hG1 := kG.lt
  have hlen := hs.len
  rw [u8s_len] at hlen
  obtain ⟨rfl, hlc, hcm⟩ := hlen
  unfold maxLen at hcm
  obtain ⟨V, hV⟩ : ∃ V, val 256 ((bs.take 64).map (·.toNat)) = V := ⟨_, rfl⟩
  have hdg : ∀ k (h : k < bs.length), k < 64 → V / 256 ^ k % 256 = (bs[k]).toNat := by
    intro k h1 h2
    have h3 := digs_val 256 (by decide) ((bs.take 64).map (·.toNat)) (by intro x hx; simp only [List.mem_map] at hx; obtain ⟨y, -, rfl⟩ := hx; exact y.toNat_lt)
    rw [hV] at h3
    have h4 := digs_get 256 ((bs.take 64).map (·.toNat)).length V k (by simp; omega)
    rw [h3] at h4
    simp [h1, h2] at h4
    exact h4.symm
  have hmV : V < 256 ^ min 64 bs.length := by
    have h3 := val_lt 256 (by decide) ((bs.take 64).map (·.toNat)) (by intro x hx; simp only [List.mem_map] at hx; obtain ⟨y, -, rfl⟩ := hx; exact y.toNat_lt)
    rw [hV] at h3
    simpa using h3
  rw [hV]
  obtain ⟨Y, hY⟩ : ∃ Y, Ending.returned (.agg (byts (V % qN)).toArray) = Y := ⟨_, rfl⟩
  rw [hY]
  have hres := hY
  replace hres : ∀ Z, V % qN = Z → Ending.returned (.agg (byts Z).toArray) = Y := by rintro Z rfl; exact hY
  have hs' := Lib.hid hs
  replace hdg := Lib.hid hdg
  clear hV hs hY
  have hR : ∀ m, min 64 bs.length = m → V / 2 ^ (8 * m) % qN = 0 := by
    rintro m rfl
    rw [show (2 : Nat) ^ (8 * min 64 bs.length) = 256 ^ min 64 bs.length by rw [Nat.pow_mul], Nat.div_eq_of_lt hmV, Nat.zero_mod]
  by_cases h64 : 64 < bs.length
  · have hR0 := hR 64 (by omega)
    obtain ⟨bb, oo, rfl, -⟩ := hs'.out.at (by rw [u8s_len]; omega)
    replace hres := Lib.hid hres
    clear hR
    go_enter Tryd.func8, Tryd.ntmps8
    replace hR0 := Lib.hid hR0
    clear hmV
    go_upto_region 4 with fail
    refine wp_new2 (fun W hsz k2 k3 kb => ?_)
    have kG : Arr W _ (el (dgl 32 qN)) := kG.below kb
    have k2 : Arr W w.heap.size (byts 0) := k2
    have k3 : Arr W (w.heap.size + 1) (el (dgl 33 0)) := k3
    clear hsz
    go_wp2_with fail
    go_loopw [4] (fun kv wr => ∃ j : Nat, j ≤ 8 * 64 ∧ kv = .int .i64 ((j : Int) - 1) ∧ Arr wr w.heap.size (byts 0) ∧ Arr wr (w.heap.size + 1) (el (dgl 33 (V / 2 ^ j % qN))) ∧ Arr wr 0 (el (dgl 32 qN)) ∧ Below w.heap.size w wr) (fun kv _ => (intOf kv + 1).toNat)
    case atStart => exact ⟨8 * 64, Nat.le_refl _, (by first | rfl | (rw [show (8 : Int) * (64 : Int) - 1 = ((8 * 64 : Nat) : Int) - 1 by omega])), k2, by rw [hR0.out]; exact k3, kG, kb⟩
    case round =>
      clear k2 k3 kG kb
      obtain ⟨j, hj, rfl, k2, k3, kG, kb⟩ := hrel
      rcases Nat.eq_zero_or_pos j with rfl | hj0
      · have e : ((0 : Nat) : Int) - 1 = -1 := rfl
        rw [e]
        rw [Nat.pow_zero, Nat.div_one] at k3
        obtain ⟨Z, hZ⟩ : ∃ Z, V % qN = Z := ⟨_, rfl⟩
        rw [hZ] at k3
        have hres := Lib.hid (hres.out Z hZ)
        clear e hZ hR0
        go_upto_region 16 with fail
        refine wp_new1 (fun w9 hsz9 k8 hb9 => ?_)
        have lt2 := k2.lt
        have lt3 := k3.lt
        have ltG := kG.lt
        have k2 := k2.below hb9
        have k3 := k3.below hb9
        have kb := bel kb hb9
        generalize wr.heap.size = g8 at k8 lt2 lt3 ltG ⊢
        have k8 : Arr w9 g8 (mixl 0 (byts Z) (byts 0)) := by rw [mixl_zero]; exact k8
        clear hsz9 hb9
        have hll : (byts Z).length = (byts 0).length := by rw [byts_len, byts_len]
        replace hll := Lib.hid hll
        go_wp2_with fail
        go_loopw [9] (fun kv wr => ∃ k : Nat, k ≤ 32 ∧ kv = .int .i64 k ∧ Arr wr w.heap.size (byts 0) ∧ Arr wr (w.heap.size + 1) (el (dgl 33 Z)) ∧ Arr wr g8 (mixl k (byts Z) (byts 0)) ∧ Below w.heap.size w wr) (fun kv _ => 32 - (intOf kv).toNat)
        case atStart => exact ⟨0, by omega, rfl, k2, k3, k8, kb⟩
        case round =>
          clear k2 k3 k8 kb kG
          obtain ⟨k, hk, rfl, k2, k3, k8, kb⟩ := hrel
          by_cases hlt : k < 32
          · have g1 := el_get (dgl_get 33 Z k (by omega))
            have g2 := byts_get Z k hlt
            obtain ⟨x, hx⟩ : ∃ x, Z / 256 ^ k % 256 = x := ⟨_, rfl⟩
            have hxl : x < 256 := hx ▸ Nat.mod_lt _ (by decide)
            rw [hx] at g1 g2
            have g0 : (mixl k (byts Z) (byts 0))[k]? = some (.int .u8 0) := by
              rw [mixl_get hll.out (by rw [byts_len]; exact hlt), if_neg (Nat.lt_irrefl k), byts_get 0 k hlt, Nat.zero_div]; rfl
            have hset := mixl_set hll.out g2
            have hc1 := k3.cell g1
            have hc2 := k8.cell g0
            have hfr := k8.frozen k
            replace g0 := Lib.hid g0
            replace g1 := Lib.hid g1
            replace g2 := Lib.hid g2
            replace hset := Lib.hid hset
            replace hx := Lib.hid hx
            go_wp2_with fail
            refine ⟨⟨k + 1, by omega, by go_num, k2.other (by simp; omega) _, k3.other (by simp; omega) _, ?_, kb.setCell (by simp; omega) _⟩, by simp [intOf]; omega⟩
            have := k8.set k (.int .u8 (x : Int))
            rw [hset.out] at this
            exact this
          · obtain rfl : k = 32 := by omega
            have hall : mixl 32 (byts Z) (byts 0) = byts Z := by have := mixl_all hll.out; rwa [byts_len] at this
            rw [hall] at k8
            clear hall
            go_wp2_with (first | (refine wpList_load_arr2 rfl _ _ rfl _ rfl (by kernel_rfl) _ (by assumption) (by first | (rw [lims_len]; kernel_rfl) | (rw [el_rep]; kernel_rfl) | (rw [el_len]; kernel_rfl) | (rw [byts_len]; kernel_rfl) | (rw [us_len]; kernel_rfl) | kernel_rfl) ?_) | (refine wpList_store_arr rfl _ _ _ rfl _ _ rfl rfl _ (by first | assumption | exact Arr.new _ _ _) (by first | (rw [lims_len]; kernel_rfl) | (rw [el_rep]; kernel_rfl) | (rw [el_len]; kernel_rfl) | (rw [byts_len]; kernel_rfl) | (rw [us_len]; kernel_rfl) | kernel_rfl) (by first | (rw [lims_len, lims_len]) | (rw [el_rep, el_rep]) | (rw [el_rep, el_len]; rfl) | (rw [el_len, el_rep]; rfl) | (rw [el_len, el_len]; rfl) | (rw [byts_len, byts_len]) | (rw [lims_len]; rfl) | (rw [byts_len]; rfl) | (rw [us_len, us_len]; rfl) | rfl) (by first | exact lims_one _ _ | exact el_one _ | exact byts_one _ | exact us_one _ | (intro v hv; simp at hv; rcases hv with rfl | rfl | rfl | rfl <;> rfl)) ?_))
            exact bodyPost_ret (results_arr2 Tryd.results8 _ _ _ rfl (by kernel_rfl) _ (by first | assumption | exact Arr.setRow (by assumption) _) (by first | (rw [lims_len]; kernel_rfl) | (rw [el_rep]; kernel_rfl) | (rw [el_len]; kernel_rfl) | (rw [byts_len]; kernel_rfl) | (rw [us_len]; kernel_rfl) | kernel_rfl)) rfl ⟨hres.out, below_setRow kb (by omega) _⟩
      · obtain ⟨m, rfl⟩ : ∃ m, j = m + 1 := ⟨j - 1, by omega⟩
        have e : ((m + 1 : Nat) : Int) - 1 = (m : Int) := by omega
        rw [e]
        clear e
        have hm8 : m / 8 < 64 := by omega
        have hkl : m / 8 < bs.length := by omega
        obtain ⟨x, hx⟩ : ∃ x : Nat, (bs[m / 8]).toNat = x := ⟨_, rfl⟩
        have hxl : x < 256 := by rw [← hx]; exact (bs[m / 8]).toNat_lt
        obtain ⟨bb, oo, hdd, -, -, -, hcc⟩ := hs'.out.at (by rw [u8s_len]; omega)
        first | subst hdd | (simp only [Option.some.injEq, Addr.mk.injEq, and_true] at hdd; obtain ⟨rfl, rfl⟩ := hdd)
        have hcell := hcc (m / 8) _ (u8s_get bs (m / 8) hkl)
        rw [hx] at hcell
        have hbbl := World.block_lt_of_cell? w _ hcell
        have hcell2 : wr.cell? ⟨bb, oo + m / 8, none⟩ = some (.int .u8 (x : Int)) := by rw [kb.cell hbbl]; exact hcell
        have hbit := byte_bit V m
        rw [hdg.out (m / 8) hkl (by omega), hx] at hbit
        obtain ⟨t, ht⟩ : ∃ t, V / 2 ^ m % 2 = t := ⟨_, rfl⟩
        have ht1 : t ≤ 1 := by omega
        rw [ht] at hbit
        obtain ⟨R, hR⟩ : ∃ R, V / 2 ^ (m + 1) % qN = R := ⟨_, rfl⟩
        rw [hR] at k3
        have hRq : R < qN := hR ▸ Nat.mod_lt _ qN_pos
        have hstep := red_step V m _ t R rfl ht hR
        obtain ⟨N, hN⟩ : ∃ N, 2 * R + t = N := ⟨_, rfl⟩
        rw [hN] at hstep
        have hN33 : N < 256 ^ 33 := by
          have h2 := qN_lt
          have h3 : (18446744073709551616 : Nat) ^ 4 ≤ 256 ^ 33 := by decide
          omega
        have c1 := Lib.hid (fun w kG => rqless_any N hN33 w kG)
        have hN0 : N / 256 ^ 0 = 2 * (R / 256 ^ 0) + t := by rw [Nat.pow_zero, Nat.div_one, Nat.div_one]; exact hN.symm
        have hand : bits BinOp.and IntKind.i64 ((x : Int) / 2 ^ (m % 8)) 1 = (t : Int) := by
          rw [and_one, ← hbit]
          simp
        have hand2 := fun z => and_255 z
        have hll : (dgl 33 N).length = (dgl 33 R).length := by rw [dgl_len, dgl_len]
        have hl1 : (el (dgl 33 N)).length = 33 := by rw [el_len, dgl_len]
        have hm0 := mixl_zero (dgl 33 N) (dgl 33 R)
        have im0 : (0 : Int) ≤ (m : Int) / 8 := by omega
        have im1 : (m : Int) / 8 < (64 : Int) := by omega
        have im3 : ((m : Int) / 8).toNat = m / 8 := by omega
        have im6 : (0 : Int) ≤ (m : Int) % 8 := by omega
        have im8 : (m : Int) % 8 < 8 := by omega
        have im7 : ((m : Int) % 8).toNat = m % 8 := by omega
        replace hll := Lib.hid hll
        replace hl1 := Lib.hid hl1
        replace hm0 := Lib.hid hm0
        replace hN0 := Lib.hid hN0
        replace hstep := Lib.hid hstep
        replace hx := Lib.hid hx
        replace hand2 := Lib.hid hand2
        replace hcc := Lib.hid hcc
        replace hcell := Lib.hid hcell
        clear hN hR ht hbit hN33
        have k3 : Arr wr (w.heap.size + 1) (el (mixl 0 (dgl 33 N) (dgl 33 R))) := by rw [hm0.out]; exact k3
        go_wp2_with fail
        go_loopw [6, 5] (fun kv cv wr => ∃ k c : Nat, k ≤ 33 ∧ kv = .int .i64 k ∧ cv = .int .i64 c ∧ c ≤ 1 ∧ N / 256 ^ k = 2 * (R / 256 ^ k) + c ∧ Arr wr w.heap.size (byts 0) ∧ Arr wr (w.heap.size + 1) (el (mixl k (dgl 33 N) (dgl 33 R))) ∧ Arr wr 0 (el (dgl 32 qN)) ∧ Below w.heap.size w wr) (fun kv _ _ => 33 - (intOf kv).toNat)
        case atStart => exact ⟨0, t, by omega, rfl, rfl, ht1, hN0.out, k2, k3, kG, kb⟩
        case round =>
          clear k2 k3 kG kb hcell2 hand
          obtain ⟨k, c, hk, rfl, rfl, hc1, hNk, k2, k3, kG, kb⟩ := hrel
          by_cases hlt : k < 33
          · obtain ⟨hd1, hd2⟩ := dbl_digit hNk
            obtain ⟨d, hd⟩ : ∃ d, R / 256 ^ k % 256 = d := ⟨_, rfl⟩
            have hdl : d < 256 := hd ▸ Nat.mod_lt _ (by decide)
            rw [hd] at hd1 hd2
            have gm : (mixl k (dgl 33 N) (dgl 33 R))[k]? = some (d : Int) := by
              rw [mixl_get hll.out (by rw [dgl_len]; exact hlt), if_neg (Nat.lt_irrefl k), dgl_get _ _ _ hlt, hd]
            have gN := dgl_get 33 N k hlt
            rw [hd1] at gN
            have hset := mixl_set hll.out gN
            have hcellm := k3.cell (el_get gm)
            have hfr := k3.frozen k
            have hand3 := hand2.out (2 * (d : Int) + (c : Int))
            replace gm := Lib.hid gm
            replace gN := Lib.hid gN
            replace hset := Lib.hid hset
            replace hd1 := Lib.hid hd1
            replace hd2 := Lib.hid hd2
            replace hd := Lib.hid hd
            replace hNk := Lib.hid hNk
            go_wp2_with fail
            refine ⟨⟨k + 1, (2 * d + c) / 256, by omega, by go_num, by rw [show (2 * (d : Int) + c) / 256 = (((2 * d + c) / 256 : Nat) : Int) by omega], by omega, hd2.out, k2.other (by simp) _, ?_, kG.other (by simp) _, kb.setCell (by simp) _⟩, by simp [intOf]; omega⟩
            have := k3.set k (.int .i64 ((2 * (d : Int) + c) % 256))
            rw [show (2 * (d : Int) + c) % 256 = (((2 * d + c) % 256 : Nat) : Int) by omega, el_set, hset.out] at this
            rw [show (2 * (d : Int) + c) % 256 = (((2 * d + c) % 256 : Nat) : Int) by omega]
            exact this
          · obtain rfl : k = 33 := by omega
            have hall : mixl 33 (dgl 33 N) (dgl 33 R) = dgl 33 N := by have := mixl_all hll.out; rwa [dgl_len] at this
            rw [hall] at k3
            clear hall hNk
            go_wp2_with (refine wpList_load_arr2 rfl _ _ rfl _ rfl (by kernel_rfl) _ k3 (by rw [hl1.out]; kernel_rfl) ?_)
            refine (c1.out _ kG).mono ?_
            rintro e w_1 ⟨rfl, hb_1⟩
            have k2 := k2.below hb_1
            have k3 := k3.below hb_1
            have kG := kG.below hb_1
            have kb := bel kb hb_1
            clear hb_1
            rw [← hstep.out]
            go_wp2_with (refine wpList_store_arr rfl _ _ _ rfl _ _ rfl rfl _ (by first | assumption | exact Arr.new _ _ _) (by first | (rw [lims_len]; kernel_rfl) | (rw [el_rep]; kernel_rfl) | (rw [el_len]; kernel_rfl) | (rw [byts_len]; kernel_rfl) | (rw [us_len]; kernel_rfl) | kernel_rfl) (by first | (rw [lims_len, lims_len]) | (rw [el_rep, el_rep]) | (rw [el_rep, el_len]; rfl) | (rw [el_len, el_rep]; rfl) | (rw [el_len, el_len]; rfl) | (rw [byts_len, byts_len]) | (rw [lims_len]; rfl) | (rw [byts_len]; rfl) | (rw [us_len, us_len]; rfl) | rfl) (by first | exact lims_one _ _ | exact el_one _ | exact byts_one _ | exact us_one _ | (intro v hv; simp at hv; rcases hv with rfl | rfl | rfl | rfl <;> rfl)) ?_)
            exact ⟨⟨m, by omega, rfl, k2.row_other (by omega) _, k3.setRow _, kG.row_other (by omega) _, below_setRow kb (by omega) _⟩, by simp [intOf]⟩
  · have hR0 := hR bs.length (by omega)
    replace hres := Lib.hid hres
    clear hR
    go_enter Tryd.func8, Tryd.ntmps8
    replace hR0 := Lib.hid hR0
    clear hmV
    go_upto_region 4 with fail
    refine wp_new2 (fun W hsz k2 k3 kb => ?_)
    have kG : Arr W _ (el (dgl 32 qN)) := kG.below kb
    have k2 : Arr W w.heap.size (byts 0) := k2
    have k3 : Arr W (w.heap.size + 1) (el (dgl 33 0)) := k3
    clear hsz
    go_wp2_with fail
    go_loopw [4] (fun kv wr => ∃ j : Nat, j ≤ 8 * bs.length ∧ kv = .int .i64 ((j : Int) - 1) ∧ Arr wr w.heap.size (byts 0) ∧ Arr wr (w.heap.size + 1) (el (dgl 33 (V / 2 ^ j % qN))) ∧ Arr wr 0 (el (dgl 32 qN)) ∧ Below w.heap.size w wr) (fun kv _ => (intOf kv + 1).toNat)
    case atStart => exact ⟨8 * bs.length, Nat.le_refl _, (by first | rfl | (rw [show (8 : Int) * (bs.length : Int) - 1 = ((8 * bs.length : Nat) : Int) - 1 by omega])), k2, by rw [hR0.out]; exact k3, kG, kb⟩
    case round =>
      clear k2 k3 kG kb
      obtain ⟨j, hj, rfl, k2, k3, kG, kb⟩ := hrel
      rcases Nat.eq_zero_or_pos j with rfl | hj0
      · have e : ((0 : Nat) : Int) - 1 = -1 := rfl
        rw [e]
        rw [Nat.pow_zero, Nat.div_one] at k3
        obtain ⟨Z, hZ⟩ : ∃ Z, V % qN = Z := ⟨_, rfl⟩
        rw [hZ] at k3
        have hres := Lib.hid (hres.out Z hZ)
        clear e hZ hR0
        go_upto_region 16 with fail
        refine wp_new1 (fun w9 hsz9 k8 hb9 => ?_)
        have lt2 := k2.lt
        have lt3 := k3.lt
        have ltG := kG.lt
        have k2 := k2.below hb9
        have k3 := k3.below hb9
        have kb := bel kb hb9
        generalize wr.heap.size = g8 at k8 lt2 lt3 ltG ⊢
        have k8 : Arr w9 g8 (mixl 0 (byts Z) (byts 0)) := by rw [mixl_zero]; exact k8
        clear hsz9 hb9
        have hll : (byts Z).length = (byts 0).length := by rw [byts_len, byts_len]
        replace hll := Lib.hid hll
        go_wp2_with fail
        go_loopw [9] (fun kv wr => ∃ k : Nat, k ≤ 32 ∧ kv = .int .i64 k ∧ Arr wr w.heap.size (byts 0) ∧ Arr wr (w.heap.size + 1) (el (dgl 33 Z)) ∧ Arr wr g8 (mixl k (byts Z) (byts 0)) ∧ Below w.heap.size w wr) (fun kv _ => 32 - (intOf kv).toNat)
        case atStart => exact ⟨0, by omega, rfl, k2, k3, k8, kb⟩
        case round =>
          clear k2 k3 k8 kb kG
          obtain ⟨k, hk, rfl, k2, k3, k8, kb⟩ := hrel
          by_cases hlt : k < 32
          · have g1 := el_get (dgl_get 33 Z k (by omega))
            have g2 := byts_get Z k hlt
            obtain ⟨x, hx⟩ : ∃ x, Z / 256 ^ k % 256 = x := ⟨_, rfl⟩
            have hxl : x < 256 := hx ▸ Nat.mod_lt _ (by decide)
            rw [hx] at g1 g2
            have g0 : (mixl k (byts Z) (byts 0))[k]? = some (.int .u8 0) := by
              rw [mixl_get hll.out (by rw [byts_len]; exact hlt), if_neg (Nat.lt_irrefl k), byts_get 0 k hlt, Nat.zero_div]; rfl
            have hset := mixl_set hll.out g2
            have hc1 := k3.cell g1
            have hc2 := k8.cell g0
            have hfr := k8.frozen k
            replace g0 := Lib.hid g0
            replace g1 := Lib.hid g1
            replace g2 := Lib.hid g2
            replace hset := Lib.hid hset
            replace hx := Lib.hid hx
            go_wp2_with fail
            refine ⟨⟨k + 1, by omega, by go_num, k2.other (by simp; omega) _, k3.other (by simp; omega) _, ?_, kb.setCell (by simp; omega) _⟩, by simp [intOf]; omega⟩
            have := k8.set k (.int .u8 (x : Int))
            rw [hset.out] at this
            exact this
          · obtain rfl : k = 32 := by omega
            have hall : mixl 32 (byts Z) (byts 0) = byts Z := by have := mixl_all hll.out; rwa [byts_len] at this
            rw [hall] at k8
            clear hall
            go_wp2_with (first | (refine wpList_load_arr2 rfl _ _ rfl _ rfl (by kernel_rfl) _ (by assumption) (by first | (rw [lims_len]; kernel_rfl) | (rw [el_rep]; kernel_rfl) | (rw [el_len]; kernel_rfl) | (rw [byts_len]; kernel_rfl) | (rw [us_len]; kernel_rfl) | kernel_rfl) ?_) | (refine wpList_store_arr rfl _ _ _ rfl _ _ rfl rfl _ (by first | assumption | exact Arr.new _ _ _) (by first | (rw [lims_len]; kernel_rfl) | (rw [el_rep]; kernel_rfl) | (rw [el_len]; kernel_rfl) | (rw [byts_len]; kernel_rfl) | (rw [us_len]; kernel_rfl) | kernel_rfl) (by first | (rw [lims_len, lims_len]) | (rw [el_rep, el_rep]) | (rw [el_rep, el_len]; rfl) | (rw [el_len, el_rep]; rfl) | (rw [el_len, el_len]; rfl) | (rw [byts_len, byts_len]) | (rw [lims_len]; rfl) | (rw [byts_len]; rfl) | (rw [us_len, us_len]; rfl) | rfl) (by first | exact lims_one _ _ | exact el_one _ | exact byts_one _ | exact us_one _ | (intro v hv; simp at hv; rcases hv with rfl | rfl | rfl | rfl <;> rfl)) ?_))
            exact bodyPost_ret (results_arr2 Tryd.results8 _ _ _ rfl (by kernel_rfl) _ (by first | assumption | exact Arr.setRow (by assumption) _) (by first | (rw [lims_len]; kernel_rfl) | (rw [el_rep]; kernel_rfl) | (rw [el_len]; kernel_rfl) | (rw [byts_len]; kernel_rfl) | (rw [us_len]; kernel_rfl) | kernel_rfl)) rfl ⟨hres.out, below_setRow kb (by omega) _⟩
      · obtain ⟨m, rfl⟩ : ∃ m, j = m + 1 := ⟨j - 1, by omega⟩
        have e : ((m + 1 : Nat) : Int) - 1 = (m : Int) := by omega
        rw [e]
        clear e
        have hm8 : m / 8 < bs.length := by omega
        have hkl : m / 8 < bs.length := by omega
        obtain ⟨x, hx⟩ : ∃ x : Nat, (bs[m / 8]).toNat = x := ⟨_, rfl⟩
        have hxl : x < 256 := by rw [← hx]; exact (bs[m / 8]).toNat_lt
        obtain ⟨bb, oo, hdd, -, -, -, hcc⟩ := hs'.out.at (by rw [u8s_len]; omega)
        first | subst hdd | (simp only [Option.some.injEq, Addr.mk.injEq, and_true] at hdd; obtain ⟨rfl, rfl⟩ := hdd)
        have hcell := hcc (m / 8) _ (u8s_get bs (m / 8) hkl)
        rw [hx] at hcell
        have hbbl := World.block_lt_of_cell? w _ hcell
        have hcell2 : wr.cell? ⟨bb, oo + m / 8, none⟩ = some (.int .u8 (x : Int)) := by rw [kb.cell hbbl]; exact hcell
        have hbit := byte_bit V m
        rw [hdg.out (m / 8) hkl (by omega), hx] at hbit
        obtain ⟨t, ht⟩ : ∃ t, V / 2 ^ m % 2 = t := ⟨_, rfl⟩
        have ht1 : t ≤ 1 := by omega
        rw [ht] at hbit
        obtain ⟨R, hR⟩ : ∃ R, V / 2 ^ (m + 1) % qN = R := ⟨_, rfl⟩
        rw [hR] at k3
        have hRq : R < qN := hR ▸ Nat.mod_lt _ qN_pos
        have hstep := red_step V m _ t R rfl ht hR
        obtain ⟨N, hN⟩ : ∃ N, 2 * R + t = N := ⟨_, rfl⟩
        rw [hN] at hstep
        have hN33 : N < 256 ^ 33 := by
          have h2 := qN_lt
          have h3 : (18446744073709551616 : Nat) ^ 4 ≤ 256 ^ 33 := by decide
          omega
        have c1 := Lib.hid (fun w kG => rqless_any N hN33 w kG)
        have hN0 : N / 256 ^ 0 = 2 * (R / 256 ^ 0) + t := by rw [Nat.pow_zero, Nat.div_one, Nat.div_one]; exact hN.symm
        have hand : bits BinOp.and IntKind.i64 ((x : Int) / 2 ^ (m % 8)) 1 = (t : Int) := by
          rw [and_one, ← hbit]
          simp
        have hand2 := fun z => and_255 z
        have hll : (dgl 33 N).length = (dgl 33 R).length := by rw [dgl_len, dgl_len]
        have hl1 : (el (dgl 33 N)).length = 33 := by rw [el_len, dgl_len]
        have hm0 := mixl_zero (dgl 33 N) (dgl 33 R)
        have im0 : (0 : Int) ≤ (m : Int) / 8 := by omega
        have im1 : (m : Int) / 8 < (bs.length : Int) := by omega
        have im3 : ((m : Int) / 8).toNat = m / 8 := by omega
        have im6 : (0 : Int) ≤ (m : Int) % 8 := by omega
        have im8 : (m : Int) % 8 < 8 := by omega
        have im7 : ((m : Int) % 8).toNat = m % 8 := by omega
        replace hll := Lib.hid hll
        replace hl1 := Lib.hid hl1
        replace hm0 := Lib.hid hm0
        replace hN0 := Lib.hid hN0
        replace hstep := Lib.hid hstep
        replace hx := Lib.hid hx
        replace hand2 := Lib.hid hand2
        replace hcc := Lib.hid hcc
        replace hcell := Lib.hid hcell
        clear hN hR ht hbit hN33
        have k3 : Arr wr (w.heap.size + 1) (el (mixl 0 (dgl 33 N) (dgl 33 R))) := by rw [hm0.out]; exact k3
        go_wp2_with fail
        go_loopw [6, 5] (fun kv cv wr => ∃ k c : Nat, k ≤ 33 ∧ kv = .int .i64 k ∧ cv = .int .i64 c ∧ c ≤ 1 ∧ N / 256 ^ k = 2 * (R / 256 ^ k) + c ∧ Arr wr w.heap.size (byts 0) ∧ Arr wr (w.heap.size + 1) (el (mixl k (dgl 33 N) (dgl 33 R))) ∧ Arr wr 0 (el (dgl 32 qN)) ∧ Below w.heap.size w wr) (fun kv _ _ => 33 - (intOf kv).toNat)
        case atStart => exact ⟨0, t, by omega, rfl, rfl, ht1, hN0.out, k2, k3, kG, kb⟩
        case round =>
          clear k2 k3 kG kb hcell2 hand
          obtain ⟨k, c, hk, rfl, rfl, hc1, hNk, k2, k3, kG, kb⟩ := hrel
          by_cases hlt : k < 33
          · obtain ⟨hd1, hd2⟩ := dbl_digit hNk
            obtain ⟨d, hd⟩ : ∃ d, R / 256 ^ k % 256 = d := ⟨_, rfl⟩
            have hdl : d < 256 := hd ▸ Nat.mod_lt _ (by decide)
            rw [hd] at hd1 hd2
            have gm : (mixl k (dgl 33 N) (dgl 33 R))[k]? = some (d : Int) := by
              rw [mixl_get hll.out (by rw [dgl_len]; exact hlt), if_neg (Nat.lt_irrefl k), dgl_get _ _ _ hlt, hd]
            have gN := dgl_get 33 N k hlt
            rw [hd1] at gN
            have hset := mixl_set hll.out gN
            have hcellm := k3.cell (el_get gm)
            have hfr := k3.frozen k
            have hand3 := hand2.out (2 * (d : Int) + (c : Int))
            replace gm := Lib.hid gm
            replace gN := Lib.hid gN
            replace hset := Lib.hid hset
            replace hd1 := Lib.hid hd1
            replace hd2 := Lib.hid hd2
            replace hd := Lib.hid hd
            replace hNk := Lib.hid hNk
            go_wp2_with fail
            refine ⟨⟨k + 1, (2 * d + c) / 256, by omega, by go_num, by rw [show (2 * (d : Int) + c) / 256 = (((2 * d + c) / 256 : Nat) : Int) by omega], by omega, hd2.out, k2.other (by simp) _, ?_, kG.other (by simp) _, kb.setCell (by simp) _⟩, by simp [intOf]; omega⟩
            have := k3.set k (.int .i64 ((2 * (d : Int) + c) % 256))
            rw [show (2 * (d : Int) + c) % 256 = (((2 * d + c) % 256 : Nat) : Int) by omega, el_set, hset.out] at this
            rw [show (2 * (d : Int) + c) % 256 = (((2 * d + c) % 256 : Nat) : Int) by omega]
            exact this
          · obtain rfl : k = 33 := by omega
            have hall : mixl 33 (dgl 33 N) (dgl 33 R) = dgl 33 N := by have := mixl_all hll.out; rwa [dgl_len] at this
            rw [hall] at k3
            clear hall hNk
            go_wp2_with (refine wpList_load_arr2 rfl _ _ rfl _ rfl (by kernel_rfl) _ k3 (by rw [hl1.out]; kernel_rfl) ?_)
            refine (c1.out _ kG).mono ?_
            rintro e w_2 ⟨rfl, hb_2⟩
            have k2 := k2.below hb_2
            have k3 := k3.below hb_2
            have kG := kG.below hb_2
            have kb := bel kb hb_2
            clear hb_2
            rw [← hstep.out]
            go_wp2_with (refine wpList_store_arr rfl _ _ _ rfl _ _ rfl rfl _ (by first | assumption | exact Arr.new _ _ _) (by first | (rw [lims_len]; kernel_rfl) | (rw [el_rep]; kernel_rfl) | (rw [el_len]; kernel_rfl) | (rw [byts_len]; kernel_rfl) | (rw [us_len]; kernel_rfl) | kernel_rfl) (by first | (rw [lims_len, lims_len]) | (rw [el_rep, el_rep]) | (rw [el_rep, el_len]; rfl) | (rw [el_len, el_rep]; rfl) | (rw [el_len, el_len]; rfl) | (rw [byts_len, byts_len]) | (rw [lims_len]; rfl) | (rw [byts_len]; rfl) | (rw [us_len, us_len]; rfl) | rfl) (by first | exact lims_one _ _ | exact el_one _ | exact byts_one _ | exact us_one _ | (intro v hv; simp at hv; rcases hv with rfl | rfl | rfl | rfl <;> rfl)) ?_)
            exact ⟨⟨m, by omega, rfl, k2.row_other (by omega) _, k3.setRow _, kG.row_other (by omega) _, below_setRow kb (by omega) _⟩, by simp [intOf]⟩

end Go.Proofs.YtdcbpilibaigmaaDoor
