/- limb: Sub. -/
import Derived.Test.YtpjkhedodlnloaaLm3
namespace Go.Proofs.Ytpjkhedodlnloaa
open Go.RowKit

set_option maxHeartbeats 1000000 in
set_option maxRecDepth 100000 in
theorem limSub_any (a b : Nat) (hab : b ≤ a + 18446744073709551616 ^ 4) (w : World) :
    Calls Try.prog 29 #[.agg (lims 4 a).toArray, .agg (lims 4 b).toArray] w fun e w' =>
      e = .returned (.tuple #[.agg (lims 4 (a + 18446744073709551616 ^ 4 - b)).toArray, .int .u64 (borrow 18446744073709551616 4 a b : Nat)]) ∧ Below w.heap.size w w' := by
  go_enter Try.func29, Try.ntmps29
  go_upto_region 2 with fail
  refine wp_new4 (fun W hsz h1 h2 h3 h4 hb => ?_)
  go_wp2_with fail
  go_loopw [7, 9] (fun cv kv wr => ∃ k : Nat, k ≤ 4 ∧ kv = .int .i64 k ∧ cv = .int .u64 (borrow 18446744073709551616 k a b : Nat) ∧ Arr wr w.heap.size (lims 4 a) ∧ Arr wr (w.heap.size + 1) (lims 4 b) ∧ Arr wr (w.heap.size + 1 + 1) (lims 4 0) ∧ Arr wr (w.heap.size + 1 + 1 + 1) (part k (lims 4 (a + 18446744073709551616 ^ 4 - b)) (.int .u64 0)) ∧ Below w.heap.size w wr) (fun _ kv _ => 4 - (intOf kv).toNat)
  case atStart => exact ⟨0, Nat.zero_le _, rfl, by rw [borrow_zero]; rfl, h1, h2, h3, h4, hb⟩
  case round =>
    obtain ⟨k, hk, rfl, rfl, k1, k2, k3, k4, kb⟩ := hrel
    clear h1 h2 h3 h4 hb hsz
    have hcl := borrow_le 18446744073709551616 k a b
    by_cases hlt : k < 4
    · have ha := k1.cell (lims_get 4 a k hlt)
      have hbb := k2.cell (lims_get 4 b k hlt)
      obtain ⟨x, hx⟩ : ∃ x, a / 18446744073709551616 ^ k % 18446744073709551616 = x := ⟨_, rfl⟩
      obtain ⟨y, hy⟩ : ∃ y, b / 18446744073709551616 ^ k % 18446744073709551616 = y := ⟨_, rfl⟩
      obtain ⟨c, hc⟩ : ∃ c, borrow 18446744073709551616 k a b = c := ⟨_, rfl⟩
      have hd := borrow_digit 18446744073709551616 k 4 a b (by decide) hlt hab
      have hs := borrow_step 18446744073709551616 k a b (by decide)
      rw [hx, hy, hc] at hd hs
      rw [hx] at ha
      rw [hy] at hbb
      rw [hc] at hcl ⊢
      have hx := Lib.hid hx
      have hy := Lib.hid hy
      clear hc
      have hd' := Lib.hid hd
      have hs' := Lib.hid hs
      clear hd hs
      obtain ⟨s, hs⟩ : ∃ s, (x + 18446744073709551616 - y - c) % 18446744073709551616 = s := ⟨_, rfl⟩
      obtain ⟨t, ht⟩ : ∃ t, (if x < y + c then 1 else 0) = t := ⟨_, rfl⟩
      have hadd := fun w => sub64 x y c hcl w
      rw [hs, ht] at hadd
      have hadd := Lib.hid hadd
      have hsz := lims_len 4 (a + 18446744073709551616 ^ 4 - b)
      have hcell := k4.cell (j := k) (u := .int .u64 0) (by rw [part_get k k _ _ (by rw [hsz]; exact hlt), if_neg (by omega)])
      have hfr := k4.frozen k
      have hs2 := Lib.hid hs
      have ht2 := Lib.hid ht
      clear hs ht
      have hk0 : (0 : Int) ≤ (k : Int) := by omega
      have hk4 : (k : Int) < 4 := by omega
      go_wp2_with fail
      refine Txt.start ((fun w' => wr.grownBy w' (some (w.heap.size + 1 + 1 + 1)))) 15 rfl (by kernel_rfl) ?_
      refine Txt.seg (A := ?_) 2 8191 (by kernel_rfl) (by exact (grownBy_drew (World.grownBy.refl wr _))) [0, 1, 2, 3, 4, 5, 6, 7, 8, 9, 10, 11, 12] (by kernel_rfl) ?_ ?_
      rotate_left
      · intro w' hB
        have e1 := (k1.kept hB (by omega)).cell (lims_get 4 a k hlt)
        have e2 := (k2.kept hB (by omega)).cell (lims_get 4 b k hlt)
        rw [hx.out] at e1
        rw [hy.out] at e2
        have e3 := hadd.out w'
        iterate 13 (first | (refine rd_skip rfl rfl ?_; simp only [Act.put, List.setIfInBounds_toArray, List.set_cons_zero, List.set_cons_succ]) | fail | (refine rd_take (v := ?_) rfl rfl ?_ ?_; rotate_left; (focus (go_simp; try (with_reducible rfl))); simp only [Act.put, List.setIfInBounds_toArray, List.set_cons_zero, List.set_cons_succ]) | (refine rd_take (v := ?_) rfl rfl ?_ ?_; rotate_left; (focus (try go_simp); fail)))
        exact rd_nil
      have hcell2 : wr.drew.cell? ⟨w.heap.size + 1 + 1 + 1, k, none⟩ = some (.int .u64 0) := hcell
      have hfr2 : wr.drew.frozen? ⟨w.heap.size + 1 + 1 + 1, k, none⟩ = false := hfr
      refine Txt.eff 13 16383 rfl (by decide +kernel) (fun K hK => ?_)
      go_simp
      refine hK (fun w' => wr.grownBy w' (some (w.heap.size + 1 + 1 + 1))) _ _ (grownBy_drew (k4.grown _ _)) (fun _ h => h) ?_
      clear hK
      try simp only [Act.put, List.setIfInBounds_toArray, List.set_cons_zero, List.set_cons_succ]
      refine Txt.seg (A := ?_) 0 32767 (by kernel_rfl) (by exact (grownBy_drew (k4.grown _ _))) [14] (by kernel_rfl) ?_ ?_
      rotate_left
      · intro w' hB
        iterate 1 (first | (refine rd_skip rfl rfl ?_; simp only [Act.put, List.setIfInBounds_toArray, List.set_cons_zero, List.set_cons_succ]) | fail | (refine rd_take (v := ?_) rfl rfl ?_ ?_; rotate_left; (focus (go_simp; try (with_reducible rfl))); simp only [Act.put, List.setIfInBounds_toArray, List.set_cons_zero, List.set_cons_succ]) | (refine rd_take (v := ?_) rfl rfl ?_ ?_; rotate_left; (focus (try go_simp); fail)))
        exact rd_nil
      refine Txt.done (by kernel_rfl) ?_
      go_wp2_with fail
      have hst := k4.set k (.int .u64 (s : Int))
      rw [part_set (by rw [lims_get 4 (a + 18446744073709551616 ^ 4 - b) k hlt, hd'.out, hs2.out])] at hst
      exact ⟨⟨k + 1, by omega, by go_num, by rw [hs'.out, ht2.out], k1.other (by simp; omega) _, k2.other (by simp) _, k3.other (by simp) _, hst, (kb.setCell (by simp; omega) _).drew⟩, by simp [intOf]; omega⟩
    · obtain rfl : k = 4 := by omega
      clear hab
      have hl := lims_len 4 (a + 18446744073709551616 ^ 4 - b)
      have h5 : Arr wr (w.heap.size + 1 + 1 + 1) (lims 4 (a + 18446744073709551616 ^ 4 - b)) := by
        have e := part_all (lims 4 (a + 18446744073709551616 ^ 4 - b)) (.int .u64 0)
        rw [hl] at e
        rwa [e] at k4
      clear k4
      go_wp2_with (first | (refine wpList_load_arr rfl 35 _ rfl (w.heap.size + 1 + 1 + 1) rfl _ Try.underlying35 rfl _ h5 (by rw [hl]; kernel_rfl) ?_) | (refine wpList_store_arr rfl 35 _ _ rfl (w.heap.size + 1 + 1) (lims 4 (a + 18446744073709551616 ^ 4 - b)) rfl rfl _ k3 (by rw [hl]; kernel_rfl) (by rw [hl, lims_len]) (lims_one _ _) ?_))
      refine bodyPost_ret (results_arr_tmp Try.results29 _ _ (w.heap.size + 1 + 1) _ rfl Try.underlying35 rfl _ (k3.setRow _) (by rw [hl]; kernel_rfl) _ rfl) rfl ⟨rfl, below_setRow kb (by omega) _⟩

end Go.Proofs.Ytpjkhedodlnloaa
