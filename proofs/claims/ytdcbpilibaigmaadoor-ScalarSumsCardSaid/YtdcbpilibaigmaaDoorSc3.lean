/- scalar: Reduce. -/
import Derived.Test.YtdcbpilibaigmaaDoorSc2
import Derived.Laws.MakeOwn
namespace Go.Proofs.YtdcbpilibaigmaaDoor
open Go.RowKit

theorem make8 (w : World) : (Instr.makeSlice 34 (.int .i64 8) (.int .i64 8)).run Tryd.prog w = .ok (.slice (some ⟨w.heap.size, 0, none⟩) 8 8) (w.alloc (.cells (lims 8 0).toArray 35)) := by
  obtain ⟨i, hi, hz0, hz1, hz2⟩ := info_parts info_u64
  have h := run_makeSlice (P := Tryd.prog) w 34 35 i _ Tryd.underlying34 hi hz0 .i64 .i64 8 8 (by decide) (by decide) (by rw [hz1]; decide) (by rw [hz2]; decide) (by decide)
  rw [hz1] at h
  have e : madeCells (Value.int .u64 0).cells (Int.toNat 8 * 1) = (lims 8 0).toArray := by kernel_rfl
  rw [e] at h
  exact h

theorem lims_set_of8 (n k : Nat) (_ : k < 64) : (lims 8 (n % 256 ^ k)).set (k / 8) (.int .u64 ((n % 256 ^ (k + 1) / 18446744073709551616 ^ (k / 8) % 18446744073709551616 : Nat) : Int)) = lims 8 (n % 256 ^ (k + 1)) := by
  apply List.ext_getElem?
  intro j
  by_cases hj : j < 8
  · rw [List.getElem?_set, lims_get _ _ _ hj, lims_get _ _ _ hj, lims_len]
    by_cases h1 : k / 8 = j
    · subst h1; rw [if_pos rfl, if_pos hj]
    · rw [if_neg h1]
      rcases Nat.lt_or_ge j (k / 8) with h2 | h2
      · rw [of_low n k j h2]
      · rw [of_high n k j (by omega)]
  · rw [List.getElem?_eq_none (by rw [List.length_set, lims_len]; omega), List.getElem?_eq_none (by rw [lims_len]; omega)]

set_option maxHeartbeats 1000000 in
set_option maxRecDepth 100000 in
theorem scReduce_any (d : Option Addr) (n cap : Nat) (bs : List UInt8) (w : World) (hs : Sl w (.slice d n cap) (u8s bs)) :
    Calls Tryd.prog 7 #[.slice d n cap] w fun e w' => e = .returned (.agg (byts (val 256 ((bs.take 64).map (·.toNat)) % qN)).toArray) ∧ Below w.heap.size w w' := by
  have hlen := hs.len
  rw [u8s_len] at hlen
  obtain ⟨rfl, hlc, hcm⟩ := hlen
  unfold maxLen at hcm
  go_enter Tryd.func7, Tryd.ntmps7
  obtain ⟨m, hm⟩ : ∃ m, min bs.length 64 = m := ⟨_, rfl⟩
  obtain ⟨N, hN⟩ : ∃ N, val 256 ((bs.take 64).map (·.toNat)) = N := ⟨_, rfl⟩
  have hdg : ∀ k (h : k < bs.length), k < 64 → N / 256 ^ k % 256 = (bs[k]).toNat := by
    intro k h1 h2
    have h3 := digs_val 256 (by decide) ((bs.take 64).map (·.toNat)) (by intro x hx; simp only [List.mem_map] at hx; obtain ⟨y, -, rfl⟩ := hx; exact y.toNat_lt)
    rw [hN] at h3
    have h4 := digs_get 256 ((bs.take 64).map (·.toNat)).length N k (by simp; omega)
    rw [h3] at h4
    simp [h1, h2] at h4
    exact h4.symm
  have hNm : N < 256 ^ m := by
    have h3 := val_lt 256 (by decide) ((bs.take 64).map (·.toNat)) (by intro x hx; simp only [List.mem_map] at hx; obtain ⟨y, -, rfl⟩ := hx; exact y.toNat_lt)
    rw [hN] at h3
    simpa [Nat.min_comm, ← hm] using h3
  rw [hN]
  have hdg := Lib.hid hdg
  have hNm' := Lib.hid hNm
  have hN' := Lib.hid hN
  clear hN hNm
  have hmk := fun w => make8 w
  go_upto_region 2 with fail
  refine wp_new2 (fun W hsz h1 h2 hb0 => ?_)
  go_wp2_with fail
  all_goals
    clear hmk
    try rw [show max (64 : Int) 0 = 64 from rfl]
    go_loopw [13] (fun kv wr => ∃ k : Nat, k ≤ m ∧ kv = .int .i64 k ∧ Arr wr w.heap.size (byts 0) ∧ Arr wr (w.heap.size + 1) (lims 8 (N % 256 ^ k)) ∧ Below w.heap.size w wr) (fun kv _ => m - (intOf kv).toNat)
    case atStart => exact ⟨0, Nat.zero_le _, rfl, h1, by rw [Nat.pow_zero, Nat.mod_one]; exact h2, hb0⟩
    case round =>
      obtain ⟨k, hk, rfl, k1, k2, kb⟩ := hrel
      clear h1 h2 hb0 hsz
      by_cases hlt : k < m
      · have hkl : k < bs.length := by omega
        obtain ⟨b0, hb0⟩ : ∃ x : Nat, (bs[k]).toNat = x := ⟨_, rfl⟩
        have hbl : b0 < 256 := by rw [← hb0]; exact (bs[k]).toNat_lt
        obtain ⟨bb, oo, rfl, -, -, -, hcc⟩ := hs.at (by rw [u8s_len]; omega)
        have hcell := hcc k _ (u8s_get bs k hkl)
        rw [hb0] at hcell
        have hbbl := World.block_lt_of_cell? w _ hcell
        have hcell2 : wr.cell? ⟨bb, oo + k, none⟩ = some (.int .u8 (b0 : Int)) := by rw [kb.cell hbbl]; exact hcell
        obtain ⟨l0, hl0⟩ : ∃ l0, N % 256 ^ k / 18446744073709551616 ^ (k / 8) % 18446744073709551616 = l0 := ⟨_, rfl⟩
        have hl1 : l0 < 18446744073709551616 := by rw [← hl0]; exact Nat.mod_lt _ (by decide)
        have hc := k2.cell (lims_get 8 (N % 256 ^ k) (k / 8) (by omega))
        rw [hl0] at hc
        have hf := k2.frozen (k / 8)
        have hl0' := Lib.hid hl0
        have hb0' := Lib.hid hb0
        clear hl0 hb0 hcell hcc
        go_upto_region 5 with fail
        have hq0 : (0 : Int) ≤ (k : Int) / 8 := by omega
        have hq1 : (k : Int) / 8 < 8 := by omega
        have ew1 : IntKind.i64.wrap ((k : Int) / 8) = (k : Int) / 8 := i64_in (by omega)
        have et : ((k : Int) / 8).toNat = k / 8 := by omega
        have em : ((k : Int)).tmod 8 = (k : Int) % 8 := Int.tmod_eq_emod_of_nonneg (by omega)
        have eb : IntKind.u64.wrap (b0 : Int) = (b0 : Int) := by simp [IntKind.wrap, IntKind.bits, IntKind.signed]; omega
        have hs0 : (0 : Int) ≤ 8 * ((k : Int) % 8) := by omega
        have ew2 : IntKind.i64.wrap ((k : Int) % 8) = (k : Int) % 8 := i64_in (by omega)
        have ew3 : IntKind.i64.wrap (8 * ((k : Int) % 8)) = 8 * ((k : Int) % 8) := i64_in (by omega)
        refine Tx.start (fun w' => Below (wr).heap.size (wr) w') 13 14 rfl (by kernel_rfl) ?_
        have hS_1 : Below (wr).heap.size (wr) (World.drew wr) := (Below.refl _ _).drew
        refine Tx.seg (A := ?_) 1 8191 (by kernel_rfl) (by exact (Below.refl _ _).drew) [0, 1, 2, 3, 4, 5, 6, 7, 8, 9, 10, 11, 12] (by kernel_rfl) ?_ ?_
        rotate_left
        · intro w' hB
          have e1 : w'.cell? ⟨w.heap.size + 1, k / 8, none⟩ = some (.int .u64 (l0 : Int)) := by rw [hB.cell (by simpa using k2.lt)]; exact hc
          iterate 13 (first | (refine rd_skip rfl rfl ?_; simp only [Act.put, List.setIfInBounds_toArray, List.set_cons_zero, List.set_cons_succ]) | (refine rd_load_arr rfl rfl _ _ rfl _ rfl (by kernel_rfl) _ (by assumption) (by first | (rw [lims_len]; kernel_rfl) | (rw [el_rep]; kernel_rfl) | (rw [el_len]; kernel_rfl) | (rw [byts_len]; kernel_rfl) | (rw [us_len]; kernel_rfl) | kernel_rfl) ?_; simp only [Act.put, List.setIfInBounds_toArray, List.set_cons_zero, List.set_cons_succ]) | (refine rd_take (v := ?_) rfl rfl ?_ ?_; rotate_left; (focus (go_simp; try (with_reducible rfl))); simp only [Act.put, List.setIfInBounds_toArray, List.set_cons_zero, List.set_cons_succ]))
          exact rd_nil
        have hc2 : wr.drew.cell? ⟨w.heap.size + 1, k / 8, none⟩ = some (.int .u64 (l0 : Int)) := hc
        have hf2 : wr.drew.frozen? ⟨w.heap.size + 1, k / 8, none⟩ = false := hf
        refine Tx.bar 16383 rfl (by decide +kernel) (fun K hK => ?_)
        go_simp
        refine hK (fun _ => True) 9999 _ _ ?_
        clear hK K
        try simp only [Act.put]
        try simp only [List.setIfInBounds_toArray, List.set_cons_zero, List.set_cons_succ]
        refine Tx.done (by kernel_rfl) ?_
        go_wp2_with fail
        refine ⟨⟨k + 1, by omega, by go_num, k1.other (by simp) _, ?_, (kb.setCell (by simp) _).drew⟩, by simp [intOf]; omega⟩
        have h9 := k2.set (k / 8) (.int .u64 ((N % 256 ^ (k + 1) / 18446744073709551616 ^ (k / 8) % 18446744073709551616 : Nat) : Int))
        rw [lims_set_of8 _ _ (by omega)] at h9
        rw [show (b0 : Int) * 2 ^ (8 * (k % 8)) = ((b0 * 2 ^ (8 * (k % 8)) : Nat) : Int) by simp, of_step hl0'.out (by rw [hdg.out k hkl (by omega)]; exact hb0'.out)]
        exact h9
      · obtain rfl : k = m := by omega
        rw [Nat.mod_eq_of_lt hNm'.out] at k2
        have hr := reduce_any (digs 18446744073709551616 8 N) (w.heap.size + 1) 0 8 wr (by rw [digs_len]; decide) (by rw [digs_len]; decide) (digs_lt _ _ _ (by decide)) (fun j x hj => by rw [Nat.zero_add]; exact k2.cell (us_get _ j x hj))
        have hN512 : N < 18446744073709551616 ^ 8 := Nat.lt_of_lt_of_le hNm'.out (by rw [lim_pow]; exact Nat.pow_le_pow_right (by decide) (by omega))
        rw [digs_len, val_digs, Nat.mod_eq_of_lt hN512] at hr
        have hr := Lib.hid hr
        clear hN512
        go_wp2_with fail
        refine hr.out.mono ?_
        rintro e w6 ⟨rfl, hb6⟩
        have k1 := k1.below hb6
        have kb := bel kb hb6
        clear hr hb6 k2
        go_wp2_with fail
        refine (limNum_any _ _).mono ?_
        rintro e w7 ⟨rfl, hb7⟩
        have k1 := k1.below hb7
        have kb := bel kb hb7
        clear hb7
        go_wp2_with (first | (refine wpList_store_arr rfl _ _ _ rfl _ _ rfl rfl _ (by first | assumption | exact Arr.new _ _ _) (by first | (rw [lims_len]; kernel_rfl) | (rw [el_rep]; kernel_rfl) | (rw [el_len]; kernel_rfl) | (rw [byts_len]; kernel_rfl) | (rw [us_len]; kernel_rfl) | kernel_rfl) (by first | (rw [lims_len, lims_len]) | (rw [el_rep, el_rep]) | (rw [el_rep, el_len]; rfl) | (rw [el_len, el_rep]; rfl) | (rw [el_len, el_len]; rfl) | (rw [byts_len, byts_len]) | (rw [lims_len]; rfl) | (rw [byts_len]; rfl) | (rw [us_len, us_len]; rfl) | rfl) (by first | exact lims_one _ _ | exact el_one _ | exact byts_one _ | exact us_one _ | (intro v hv; simp at hv; rcases hv with rfl | rfl | rfl | rfl <;> rfl)) ?_))
        exact bodyPost_ret (results_arr2 Tryd.results7 _ _ _ rfl (by kernel_rfl) _ (by first | assumption | exact Arr.setRow (by assumption) _) (by first | (rw [lims_len]; kernel_rfl) | (rw [el_rep]; kernel_rfl) | (rw [el_len]; kernel_rfl) | (rw [byts_len]; kernel_rfl) | (rw [us_len]; kernel_rfl) | kernel_rfl)) rfl ⟨rfl, below_setRow kb (by omega) _⟩

end Go.Proofs.YtdcbpilibaigmaaDoor
