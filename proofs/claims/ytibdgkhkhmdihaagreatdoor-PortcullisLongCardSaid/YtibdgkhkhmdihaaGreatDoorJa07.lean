import Derived.Test.YtibdgkhkhmdihaaGreatDoorJa04
import Derived.Test.YtibdgkhkhmdihaaGreatDoorJa02
import Derived.Deep.CutRange
import Derived.Deep.CutBlock
import Derived.StillTailTactics
import Derived.Shelf.Spec.BitsCarry
import Derived.WalkKit
import Derived.Lib.Mul64
import Derived.Laws.Bits64b
import Derived.Deep.QuietTactic
import Derived.BigQuiet
import Derived.Laws.Bits64
import Derived.Test.YtibdgkhkhmdihaaGreatDoorJa01
import Derived.WalkSpells
import Derived.RegionTactic
import Derived.ScopeJumps
import Derived.WalkLawsBesides
import Derived.ProofKit
import Derived.Deep.LoopGhost

namespace Go.Proofs.YtibdgkhkhmdihaaGreatDoor
open Go.RowKit
theorem of_step {n k l0 b0 : Nat} (hl : n % 256 ^ k / 18446744073709551616 ^ (k / 8) % 18446744073709551616 = l0) (hb : n / 256 ^ k % 256 = b0) :
    bits .or .u64 (l0 : Int) (IntKind.u64.wrap ((b0 * 2 ^ (8 * (k % 8)) : Nat) : Int)) = ((n % 256 ^ (k + 1) / 18446744073709551616 ^ (k / 8) % 18446744073709551616 : Nat) : Int) := by
  obtain ⟨h1, h2, h3⟩ := of_at n k
  have e : (2 : Nat) ^ (8 * (k % 8)) = 256 ^ (k % 8) := by rw [Nat.pow_mul]
  rw [h1, hb]
  rw [hb] at h3
  have hl2 : n % 256 ^ k / 18446744073709551616 ^ (k / 8) = l0 := by rw [← hl]; exact (Nat.mod_eq_of_lt (by omega)).symm
  rw [hl2] at h2 h3 ⊢
  clear hl hl2 h1 hb
  rw [e]
  generalize 256 ^ (k % 8) = P at *
  have h4 : (b0 * P) % 2 ^ (8 * (k % 8)) = 0 := by rw [e]; exact Nat.mul_mod_left _ _
  have h5 : l0 < 2 ^ (8 * (k % 8)) := by rw [e]; exact h2
  generalize b0 * P = x at *
  have hw : IntKind.u64.wrap (x : Int) = (x : Int) := by simp [IntKind.wrap, IntKind.bits, IntKind.signed]; omega
  rw [hw, u64_or_nat _ _ (by omega) (by omega)]
  congr 1
  rw [Nat.or_comm, nat_join _ _ _ h4 h5, Nat.add_comm]
theorem lims_set_of (n k : Nat) : (lims 4 (n % 256 ^ k)).set (k / 8) (.int .u64 ((n % 256 ^ (k + 1) / 18446744073709551616 ^ (k / 8) % 18446744073709551616 : Nat) : Int)) = lims 4 (n % 256 ^ (k + 1)) := by
  apply List.ext_getElem?
  intro j
  by_cases hj : j < 4
  · rw [List.getElem?_set, lims_get _ _ _ hj, lims_get _ _ _ hj, lims_len]
    by_cases h1 : k / 8 = j
    · subst h1; rw [if_pos rfl, if_pos hj]
    · rw [if_neg h1]
      rcases Nat.lt_or_ge j (k / 8) with h2 | h2
      · rw [of_low n k j h2]
      · rw [of_high n k j (by omega)]
  · rw [List.getElem?_eq_none (by rw [List.length_set, lims_len]; omega), List.getElem?_eq_none (by rw [lims_len]; omega)]
set_option maxHeartbeats 1000000 in
set_option maxRecDepth 100000 in
theorem limOf_any (n : Nat) (hn : n < 256 ^ 32) (w : World) :
    Calls Tryz.prog 120 #[.agg (byts n).toArray] w fun e w' => e = .returned (.agg (lims 4 n).toArray) ∧ Below w.heap.size w w' := by
  have hbl := byts_len n
  go_enter Tryz.func120, Tryz.ntmps120
  go_upto_region 2 with fail
  refine wp_new3 (fun W hsz h1 h2 h3 hb => ?_)
  go_wp2_with (refine wpList_load_arr rfl 34 _ rfl w.heap.size rfl _ Tryz.underlying34 rfl _ h1 (by rw [byts_len]; kernel_rfl) ?_)
  clear h1
  go_loopw [7] (fun kv wr => ∃ k : Nat, k ≤ 32 ∧ kv = .int .i64 k ∧ Arr wr (w.heap.size + 1 + 1) (lims 4 (n % 256 ^ k)) ∧ Arr wr (w.heap.size + 1) (lims 4 0) ∧ Below w.heap.size w wr) (fun kv _ => 32 - (intOf kv).toNat)
  case atStart => exact ⟨0, Nat.zero_le _, rfl, by rw [Nat.pow_zero, Nat.mod_one]; exact h3, h2, hb⟩
  case round =>
    obtain ⟨k, hk, rfl, k3, k2, kb⟩ := hrel
    clear h2 h3 hb hsz
    by_cases hlt : k < 32
    · have hc := k3.cell (lims_get 4 (n % 256 ^ k) (k / 8) (by omega))
      have hf := k3.frozen (k / 8)
      have hbk := byts_get n k hlt
      obtain ⟨b0, hb0⟩ : ∃ b0, n / 256 ^ k % 256 = b0 := ⟨_, rfl⟩
      obtain ⟨l0, hl0⟩ : ∃ l0, n % 256 ^ k / 18446744073709551616 ^ (k / 8) % 18446744073709551616 = l0 := ⟨_, rfl⟩
      rw [hb0] at hbk
      rw [hl0] at hc
      have hb1 : b0 < 256 := by omega
      have hl1 : l0 < 18446744073709551616 := by omega
      have hb0' := Lib.hid hb0
      have hl0' := Lib.hid hl0
      clear hb0 hl0
      obtain ⟨i, hi, hz0, hz1, hz2⟩ := info_parts info_u8
      have hix := run_index_arr (P := Tryz.prog) wr 34 5 32 _ i Tryz.underlying34 Tryz.underlying5 rfl hi hz1 (byts n) k _ hlt hbk
      go_wp2_with fail
      have hq0 : (0 : Int) ≤ (k : Int) / 8 := by omega
      have hq1 : (k : Int) / 8 < 4 := by omega
      have ew1 : IntKind.i64.wrap ((k : Int) / 8) = (k : Int) / 8 := i64_in (by omega)
      have et : ((k : Int) / 8).toNat = k / 8 := by omega
      have em : ((k : Int)).tmod 8 = (k : Int) % 8 := Int.tmod_eq_emod_of_nonneg (by omega)
      have eb : IntKind.u64.wrap (b0 : Int) = (b0 : Int) := by simp [IntKind.wrap, IntKind.bits, IntKind.signed]; omega
      have hs0 : (0 : Int) ≤ 8 * ((k : Int) % 8) := by omega
      have ew2 : IntKind.i64.wrap ((k : Int) % 8) = (k : Int) % 8 := i64_in (by omega)
      have ew3 : IntKind.i64.wrap (8 * ((k : Int) % 8)) = 8 * ((k : Int) % 8) := i64_in (by omega)
      go_still_tail 12, (by kernel_rfl)
      change wpList _ _ _ _ _ wr.drew
      have hc2 : wr.drew.cell? ⟨w.heap.size + 1 + 1, k / 8, none⟩ = some (.int .u64 (l0 : Int)) := hc
      have hf2 : wr.drew.frozen? ⟨w.heap.size + 1 + 1, k / 8, none⟩ = false := hf
      go_wp2_with fail
      have hexp : (8 * ((k : Int) % 8)).toNat = 8 * (k % 8) := by omega
      try rw [hexp]
      rw [show (b0 : Int) * 2 ^ (8 * (k % 8)) = ((b0 * 2 ^ (8 * (k % 8)) : Nat) : Int) by simp, of_step hl0'.out hb0'.out]
      refine ⟨⟨k + 1, by omega, by go_num, ?_, (k2.other (by simp) _), (kb.setCell (by simp; omega) _).drew⟩, by simp [intOf]; omega⟩
      have := k3.set (k / 8) (.int .u64 ((n % 256 ^ (k + 1) / 18446744073709551616 ^ (k / 8) % 18446744073709551616 : Nat) : Int))
      rw [lims_set_of] at this
      exact this
    · obtain rfl : k = 32 := by omega
      rw [Nat.mod_eq_of_lt hn] at k3
      have hl := lims_len 4 n
      have hone : ∀ v ∈ lims 4 n, v.oneCell' = true := by
        intro v hv
        simp only [lims, List.mem_map] at hv
        obtain ⟨x, -, rfl⟩ := hv
        rfl
      go_wp2_with (first | (refine wpList_load_arr rfl 127 _ rfl (w.heap.size + 1 + 1) rfl _ Tryz.underlying127 rfl _ k3 (by rw [hl]; kernel_rfl) ?_) | (refine wpList_store_arr rfl 127 _ _ rfl (w.heap.size + 1) (lims 4 n) rfl rfl _ k2 (by rw [hl]; kernel_rfl) (by rw [hl, lims_len]) hone ?_))
      refine bodyPost_ret (v := .agg (lims 4 n).toArray) (results_arr Tryz.results120 _ _ (w.heap.size + 1) _ rfl Tryz.underlying127 rfl _ (k2.setRow _) (by rw [hl]; kernel_rfl)) rfl ⟨rfl, below_setRow kb (by omega) _⟩
end Go.Proofs.YtibdgkhkhmdihaaGreatDoor


namespace Go.Proofs.YtibdgkhkhmdihaaGreatDoor
open Go.RowKit
theorem add64 (x y c : Nat) (hc : c ≤ 1) (w : World) :
    (callFunc 178 #[.int .u64 x, .int .u64 y, .int .u64 c]).run Tryz.prog w =
      .ok (.value (.tuple #[.int .u64 (((x + y + c) % 18446744073709551616 : Nat) : Int), .int .u64 (((x + y + c) / 18446744073709551616 : Nat) : Int)])) w := by
  rw [run_callFunc_extern Tryz.func178 (by kernel_rfl) (by kernel_rfl) (by kernel_rfl) (e := add64Entry) (by kernel_rfl), run_add64 x y c (by omega) (by omega) (by omega) (by omega)]
  simp only [Result.andThen]
  congr 5 <;> omega
theorem sub64 (x y b : Nat) (hb : b ≤ 1) (w : World) :
    (callFunc 225 #[.int .u64 x, .int .u64 y, .int .u64 b]).run Tryz.prog w =
      .ok (.value (.tuple #[.int .u64 (((x + 18446744073709551616 - y - b) % 18446744073709551616 : Nat) : Int), .int .u64 ((if x < y + b then 1 else 0 : Nat) : Int)])) w := by
  rw [run_callFunc_extern Tryz.func225 (by kernel_rfl) (by kernel_rfl) (by kernel_rfl) (e := sub64Entry) (by kernel_rfl), run_sub64 x y b hb]
  rfl
set_option maxHeartbeats 1000000 in
set_option maxRecDepth 100000 in
theorem limAdd_any (a b : Nat) (w : World) :
    Calls Tryz.prog 224 #[.agg (lims 4 a).toArray, .agg (lims 4 b).toArray] w fun e w' =>
      e = .returned (.tuple #[.agg (lims 4 (a + b)).toArray, .int .u64 (carry 18446744073709551616 4 a b : Nat)]) ∧ Below w.heap.size w w' := by
  go_enter Tryz.func224, Tryz.ntmps224
  go_upto_region 2 with fail
  refine wp_new4 (fun W hsz h1 h2 h3 h4 hb => ?_)
  go_wp2_with fail
  go_loopw [7, 9] (fun cv kv wr => ∃ k : Nat, k ≤ 4 ∧ kv = .int .i64 k ∧ cv = .int .u64 (carry 18446744073709551616 k a b : Nat) ∧ Arr wr w.heap.size (lims 4 a) ∧ Arr wr (w.heap.size + 1) (lims 4 b) ∧ Arr wr (w.heap.size + 1 + 1) (lims 4 0) ∧ Arr wr (w.heap.size + 1 + 1 + 1) (part k (lims 4 (a + b)) (.int .u64 0)) ∧ Below w.heap.size w wr) (fun _ kv _ => 4 - (intOf kv).toNat)
  case atStart => exact ⟨0, Nat.zero_le _, rfl, by rw [carry_zero]; rfl, h1, h2, h3, h4, hb⟩
  case round =>
    obtain ⟨k, hk, rfl, rfl, k1, k2, k3, k4, kb⟩ := hrel
    clear h1 h2 h3 h4 hb hsz
    have hcl := carry_le 18446744073709551616 k a b (by decide)
    by_cases hlt : k < 4
    · have ha := k1.cell (lims_get 4 a k hlt)
      have hbb := k2.cell (lims_get 4 b k hlt)
      obtain ⟨x, hx⟩ : ∃ x, a / 18446744073709551616 ^ k % 18446744073709551616 = x := ⟨_, rfl⟩
      obtain ⟨y, hy⟩ : ∃ y, b / 18446744073709551616 ^ k % 18446744073709551616 = y := ⟨_, rfl⟩
      obtain ⟨c, hc⟩ : ∃ c, carry 18446744073709551616 k a b = c := ⟨_, rfl⟩
      have hd := carry_digit 18446744073709551616 k a b (by decide)
      have hs := carry_step 18446744073709551616 k a b (by decide)
      rw [hx, hy, hc] at hd hs
      rw [hx] at ha
      rw [hy] at hbb
      rw [hc] at hcl ⊢
      have hx := Lib.hid hx
      have hy := Lib.hid hy
      clear hc
      have hd' := Lib.hid hd
      have hs' := Lib.hid hs
      clear hd hs
      obtain ⟨s, hs⟩ : ∃ s, (x + y + c) % 18446744073709551616 = s := ⟨_, rfl⟩
      obtain ⟨t, ht⟩ : ∃ t, (x + y + c) / 18446744073709551616 = t := ⟨_, rfl⟩
      have hadd := fun w => add64 x y c hcl w
      rw [hs, ht] at hadd
      have hadd := Lib.hid hadd
      have hsz := lims_len 4 (a + b)
      have hcell := k4.cell (j := k) (u := .int .u64 0) (by rw [part_get k k _ _ (by rw [hsz]; exact hlt), if_neg (by omega)])
      have hfr := k4.frozen k
      have hs2 := Lib.hid hs
      have ht2 := Lib.hid ht
      clear hs ht
      have hk0 : (0 : Int) ≤ (k : Int) := by omega
      have hk4 : (k : Int) < 4 := by omega
      go_wp2_with fail
      refine Txt.start ((fun w' => wr.grownBy w' (some (w.heap.size + 1 + 1 + 1)))) 15 rfl (by kernel_rfl) ?_
      refine Txt.seg (A := ?_) 2 8191 (by kernel_rfl) (by exact (grownBy_drew (World.grownBy.refl wr _))) [0, 1, 2, 3, 4, 5, 6, 7, 8, 9, 10, 11, 12] (by kernel_rfl) ?_ ?_
      rotate_left
      · intro w' hB
        have e1 := (k1.kept hB (by omega)).cell (lims_get 4 a k hlt)
        have e2 := (k2.kept hB (by omega)).cell (lims_get 4 b k hlt)
        rw [hx.out] at e1
        rw [hy.out] at e2
        have e3 := hadd.out w'
        iterate 13 (first | (refine rd_skip rfl rfl ?_; simp only [Act.put, List.setIfInBounds_toArray, List.set_cons_zero, List.set_cons_succ]) | fail | (refine rd_take (v := ?_) rfl rfl ?_ ?_; rotate_left; (focus (go_simp; try (with_reducible rfl))); simp only [Act.put, List.setIfInBounds_toArray, List.set_cons_zero, List.set_cons_succ]))
        exact rd_nil
      have hcell2 : wr.drew.cell? ⟨w.heap.size + 1 + 1 + 1, k, none⟩ = some (.int .u64 0) := hcell
      have hfr2 : wr.drew.frozen? ⟨w.heap.size + 1 + 1 + 1, k, none⟩ = false := hfr
      refine Txt.eff 13 16383 rfl (by decide +kernel) (fun K hK => ?_)
      go_simp
      refine hK (fun w' => wr.grownBy w' (some (w.heap.size + 1 + 1 + 1))) _ _ (grownBy_drew (k4.grown _ _)) (fun _ h => h) ?_
      clear hK
      try simp only [Act.put, List.setIfInBounds_toArray, List.set_cons_zero, List.set_cons_succ]
      refine Txt.seg (A := ?_) 0 32767 (by kernel_rfl) (by exact (grownBy_drew (k4.grown _ _))) [14] (by kernel_rfl) ?_ ?_
      rotate_left
      · intro w' hB
        iterate 1 (first | (refine rd_skip rfl rfl ?_; simp only [Act.put, List.setIfInBounds_toArray, List.set_cons_zero, List.set_cons_succ]) | fail | (refine rd_take (v := ?_) rfl rfl ?_ ?_; rotate_left; (focus (go_simp; try (with_reducible rfl))); simp only [Act.put, List.setIfInBounds_toArray, List.set_cons_zero, List.set_cons_succ]))
        exact rd_nil
      refine Txt.done (by kernel_rfl) ?_
      go_wp2_with fail
      have hst := k4.set k (.int .u64 (s : Int))
      rw [part_set (by rw [lims_get 4 (a + b) k hlt, hd'.out, hs2.out])] at hst
      exact ⟨⟨k + 1, by omega, by go_num, by rw [hs'.out, ht2.out], k1.other (by simp; omega) _, k2.other (by simp) _, k3.other (by simp) _, hst, (kb.setCell (by simp; omega) _).drew⟩, by simp [intOf]; omega⟩
    · obtain rfl : k = 4 := by omega
      have hl := lims_len 4 (a + b)
      have h5 : Arr wr (w.heap.size + 1 + 1 + 1) (lims 4 (a + b)) := by
        have e := part_all (lims 4 (a + b)) (.int .u64 0)
        rw [hl] at e
        rwa [e] at k4
      clear k4
      go_wp2_with (first | (refine wpList_load_arr rfl 127 _ rfl (w.heap.size + 1 + 1 + 1) rfl _ Tryz.underlying127 rfl _ h5 (by rw [hl]; kernel_rfl) ?_) | (refine wpList_store_arr rfl 127 _ _ rfl (w.heap.size + 1 + 1) (lims 4 (a + b)) rfl rfl _ k3 (by rw [hl]; kernel_rfl) (by rw [hl, lims_len]) (lims_one _ _) ?_))
      refine bodyPost_ret (results_arr_tmp Tryz.results224 _ _ (w.heap.size + 1 + 1) _ rfl Tryz.underlying127 rfl _ (k3.setRow _) (by rw [hl]; kernel_rfl) _ rfl) rfl ⟨rfl, below_setRow kb (by omega) _⟩
end Go.Proofs.YtibdgkhkhmdihaaGreatDoor


namespace Go.Proofs.YtibdgkhkhmdihaaGreatDoor
open Go.RowKit
set_option maxHeartbeats 1000000 in
set_option maxRecDepth 100000 in
theorem limSub_any (a b : Nat) (hab : b ≤ a + 18446744073709551616 ^ 4) (w : World) :
    Calls Tryz.prog 184 #[.agg (lims 4 a).toArray, .agg (lims 4 b).toArray] w fun e w' =>
      e = .returned (.tuple #[.agg (lims 4 (a + 18446744073709551616 ^ 4 - b)).toArray, .int .u64 (borrow 18446744073709551616 4 a b : Nat)]) ∧ Below w.heap.size w w' := by
  go_enter Tryz.func184, Tryz.ntmps184
  go_upto_region 2 with fail
  refine wp_new4 (fun W hsz h1 h2 h3 h4 hb => ?_)
  go_wp2_with fail
  go_loopw [7, 9] (fun cv kv wr => ∃ k : Nat, k ≤ 4 ∧ kv = .int .i64 k ∧ cv = .int .u64 (borrow 18446744073709551616 k a b : Nat) ∧ Arr wr w.heap.size (lims 4 a) ∧ Arr wr (w.heap.size + 1) (lims 4 b) ∧ Arr wr (w.heap.size + 1 + 1) (lims 4 0) ∧ Arr wr (w.heap.size + 1 + 1 + 1) (part k (lims 4 (a + 18446744073709551616 ^ 4 - b)) (.int .u64 0)) ∧ Below w.heap.size w wr) (fun _ kv _ => 4 - (intOf kv).toNat)
  case atStart => exact ⟨0, Nat.zero_le _, rfl, by rw [borrow_zero]; rfl, h1, h2, h3, h4, hb⟩
  case round =>
    obtain ⟨k, hk, rfl, rfl, k1, k2, k3, k4, kb⟩ := hrel
    clear h1 h2 h3 h4 hb hsz
    have hcl := borrow_le 18446744073709551616 k a b
    by_cases hlt : k < 4
    · have ha := k1.cell (lims_get 4 a k hlt)
      have hbb := k2.cell (lims_get 4 b k hlt)
      obtain ⟨x, hx⟩ : ∃ x, a / 18446744073709551616 ^ k % 18446744073709551616 = x := ⟨_, rfl⟩
      obtain ⟨y, hy⟩ : ∃ y, b / 18446744073709551616 ^ k % 18446744073709551616 = y := ⟨_, rfl⟩
      obtain ⟨c, hc⟩ : ∃ c, borrow 18446744073709551616 k a b = c := ⟨_, rfl⟩
      have hd := borrow_digit 18446744073709551616 k 4 a b (by decide) hlt hab
      have hs := borrow_step 18446744073709551616 k a b (by decide)
      rw [hx, hy, hc] at hd hs
      rw [hx] at ha
      rw [hy] at hbb
      rw [hc] at hcl ⊢
      have hx := Lib.hid hx
      have hy := Lib.hid hy
      clear hc
      have hd' := Lib.hid hd
      have hs' := Lib.hid hs
      clear hd hs
      obtain ⟨s, hs⟩ : ∃ s, (x + 18446744073709551616 - y - c) % 18446744073709551616 = s := ⟨_, rfl⟩
      obtain ⟨t, ht⟩ : ∃ t, (if x < y + c then 1 else 0) = t := ⟨_, rfl⟩
      have hadd := fun w => sub64 x y c hcl w
      rw [hs, ht] at hadd
      have hadd := Lib.hid hadd
      have hsz := lims_len 4 (a + 18446744073709551616 ^ 4 - b)
      have hcell := k4.cell (j := k) (u := .int .u64 0) (by rw [part_get k k _ _ (by rw [hsz]; exact hlt), if_neg (by omega)])
      have hfr := k4.frozen k
      have hs2 := Lib.hid hs
      have ht2 := Lib.hid ht
      clear hs ht
      have hk0 : (0 : Int) ≤ (k : Int) := by omega
      have hk4 : (k : Int) < 4 := by omega
      go_wp2_with fail
      refine Txt.start ((fun w' => wr.grownBy w' (some (w.heap.size + 1 + 1 + 1)))) 15 rfl (by kernel_rfl) ?_
      refine Txt.seg (A := ?_) 2 8191 (by kernel_rfl) (by exact (grownBy_drew (World.grownBy.refl wr _))) [0, 1, 2, 3, 4, 5, 6, 7, 8, 9, 10, 11, 12] (by kernel_rfl) ?_ ?_
      rotate_left
      · intro w' hB
        have e1 := (k1.kept hB (by omega)).cell (lims_get 4 a k hlt)
        have e2 := (k2.kept hB (by omega)).cell (lims_get 4 b k hlt)
        rw [hx.out] at e1
        rw [hy.out] at e2
        have e3 := hadd.out w'
        iterate 13 (first | (refine rd_skip rfl rfl ?_; simp only [Act.put, List.setIfInBounds_toArray, List.set_cons_zero, List.set_cons_succ]) | fail | (refine rd_take (v := ?_) rfl rfl ?_ ?_; rotate_left; (focus (go_simp; try (with_reducible rfl))); simp only [Act.put, List.setIfInBounds_toArray, List.set_cons_zero, List.set_cons_succ]))
        exact rd_nil
      have hcell2 : wr.drew.cell? ⟨w.heap.size + 1 + 1 + 1, k, none⟩ = some (.int .u64 0) := hcell
      have hfr2 : wr.drew.frozen? ⟨w.heap.size + 1 + 1 + 1, k, none⟩ = false := hfr
      refine Txt.eff 13 16383 rfl (by decide +kernel) (fun K hK => ?_)
      go_simp
      refine hK (fun w' => wr.grownBy w' (some (w.heap.size + 1 + 1 + 1))) _ _ (grownBy_drew (k4.grown _ _)) (fun _ h => h) ?_
      clear hK
      try simp only [Act.put, List.setIfInBounds_toArray, List.set_cons_zero, List.set_cons_succ]
      refine Txt.seg (A := ?_) 0 32767 (by kernel_rfl) (by exact (grownBy_drew (k4.grown _ _))) [14] (by kernel_rfl) ?_ ?_
      rotate_left
      · intro w' hB
        iterate 1 (first | (refine rd_skip rfl rfl ?_; simp only [Act.put, List.setIfInBounds_toArray, List.set_cons_zero, List.set_cons_succ]) | fail | (refine rd_take (v := ?_) rfl rfl ?_ ?_; rotate_left; (focus (go_simp; try (with_reducible rfl))); simp only [Act.put, List.setIfInBounds_toArray, List.set_cons_zero, List.set_cons_succ]))
        exact rd_nil
      refine Txt.done (by kernel_rfl) ?_
      go_wp2_with fail
      have hst := k4.set k (.int .u64 (s : Int))
      rw [part_set (by rw [lims_get 4 (a + 18446744073709551616 ^ 4 - b) k hlt, hd'.out, hs2.out])] at hst
      exact ⟨⟨k + 1, by omega, by go_num, by rw [hs'.out, ht2.out], k1.other (by simp; omega) _, k2.other (by simp) _, k3.other (by simp) _, hst, (kb.setCell (by simp; omega) _).drew⟩, by simp [intOf]; omega⟩
    · obtain rfl : k = 4 := by omega
      clear hab
      have hl := lims_len 4 (a + 18446744073709551616 ^ 4 - b)
      have h5 : Arr wr (w.heap.size + 1 + 1 + 1) (lims 4 (a + 18446744073709551616 ^ 4 - b)) := by
        have e := part_all (lims 4 (a + 18446744073709551616 ^ 4 - b)) (.int .u64 0)
        rw [hl] at e
        rwa [e] at k4
      clear k4
      go_wp2_with (first | (refine wpList_load_arr rfl 127 _ rfl (w.heap.size + 1 + 1 + 1) rfl _ Tryz.underlying127 rfl _ h5 (by rw [hl]; kernel_rfl) ?_) | (refine wpList_store_arr rfl 127 _ _ rfl (w.heap.size + 1 + 1) (lims 4 (a + 18446744073709551616 ^ 4 - b)) rfl rfl _ k3 (by rw [hl]; kernel_rfl) (by rw [hl, lims_len]) (lims_one _ _) ?_))
      refine bodyPost_ret (results_arr_tmp Tryz.results184 _ _ (w.heap.size + 1 + 1) _ rfl Tryz.underlying127 rfl _ (k3.setRow _) (by rw [hl]; kernel_rfl) _ rfl) rfl ⟨rfl, below_setRow kb (by omega) _⟩
end Go.Proofs.YtibdgkhkhmdihaaGreatDoor


namespace Go.Proofs.YtibdgkhkhmdihaaGreatDoor
open Go.RowKit
theorem borrow_all {a b : Nat} (ha : a < 18446744073709551616 ^ 4) (hb : b < 18446744073709551616 ^ 4) : borrow 18446744073709551616 4 a b = if a < b then 1 else 0 := by
  unfold borrow
  rw [Nat.mod_eq_of_lt ha, Nat.mod_eq_of_lt hb]
end Go.Proofs.YtibdgkhkhmdihaaGreatDoor


namespace Go.Proofs.YtibdgkhkhmdihaaGreatDoor
open Go.RowKit Go.Lib
namespace M64
theorem maskN (a : Nat) (ha : a < 18446744073709551616) : bits .and .u64 (a : Int) 4294967295 = ((a % 4294967296 : Nat) : Int) := by
  have h := bits_and_u64_nat a 4294967295 ha (by omega)
  have e : a &&& 4294967295 = a % 4294967296 := Nat.and_two_pow_sub_one_eq_mod a 32
  rw [e] at h
  exact h
theorem divN (a : Nat) : (a : Int) / 4294967296 = ((a / 4294967296 : Nat) : Int) := by omega
theorem mulN (a b : Nat) : (a : Int) * (b : Int) = ((a * b : Nat) : Int) := (Int.natCast_mul a b).symm
theorem addN (a b : Nat) : (a : Int) + (b : Int) = ((a + b : Nat) : Int) := (Int.natCast_add a b).symm
theorem wrapN (a : Nat) (ha : a < 18446744073709551616) : IntKind.u64.wrap (a : Int) = (a : Int) := by rw [IntKind.wrap_u64]; omega
theorem wrapM (a : Nat) : IntKind.u64.wrap (a : Int) = ((a % 18446744073709551616 : Nat) : Int) := by rw [IntKind.wrap_u64]; omega
end M64
set_option maxHeartbeats 1000000 in
theorem mul64 (x y : Nat) (hx : x < 18446744073709551616) (hy : y < 18446744073709551616) (w : World) :
    Calls Tryz.prog 174 #[.int .u64 x, .int .u64 y] w fun e w' => e = .returned (.tuple #[.int .u64 ((x * y / 18446744073709551616 : Nat) : Int), .int .u64 ((x * y % 18446744073709551616 : Nat) : Int)]) ∧ w' = w := by
  obtain ⟨bd, bt, bw, hhi⟩ := Lib.mul64_hi x y hx hy
  have ba := Lib.half_mul_le (a := x / 4294967296) (b := y / 4294967296) (by omega) (by omega)
  have bb := Lib.half_mul_le (a := x / 4294967296) (b := y % 4294967296) (by omega) (by omega)
  have bc := Lib.half_mul_le (a := x % 4294967296) (b := y / 4294967296) (by omega) (by omega)
  have ba' : x / 4294967296 * (y / 4294967296) < 18446744073709551616 := by omega
  have bb' : x / 4294967296 * (y % 4294967296) < 18446744073709551616 := by omega
  have bc' : x % 4294967296 * (y / 4294967296) < 18446744073709551616 := by omega
  have bh1 : x / 4294967296 * (y / 4294967296) + (x / 4294967296 * (y % 4294967296) + x % 4294967296 * (y % 4294967296) / 4294967296) / 4294967296 < 18446744073709551616 := by omega
  have bh : x / 4294967296 * (y / 4294967296) + (x / 4294967296 * (y % 4294967296) + x % 4294967296 * (y % 4294967296) / 4294967296) / 4294967296 + ((x / 4294967296 * (y % 4294967296) + x % 4294967296 * (y % 4294967296) / 4294967296) % 4294967296 + x % 4294967296 * (y / 4294967296)) / 4294967296 < 18446744073709551616 := by omega
  go_enter Tryz.func174, Tryz.ntmps174
  go_wp2
  simp only [M64.maskN x hx, M64.maskN y hy, M64.divN, M64.mulN, M64.addN, M64.wrapN _ bd, M64.wrapN _ bb', M64.wrapN _ bt, M64.maskN _ bt, M64.wrapN _ bc', M64.wrapN _ bw, M64.wrapN _ ba', M64.wrapN _ bh1, M64.wrapN _ bh, M64.wrapM (x * y)]
  rw [hhi]
  go_ret2
  exact ⟨rfl, rfl⟩
theorem add64z (x y : Nat) (w : World) :
    (callFunc 178 #[.int .u64 x, .int .u64 y, .int .u64 0]).run Tryz.prog w =
      .ok (.value (.tuple #[.int .u64 (((x + y) % 18446744073709551616 : Nat) : Int), .int .u64 (((x + y) / 18446744073709551616 : Nat) : Int)])) w :=
  add64 x y 0 (by decide) w
/-- Limbs as values. -/
def us (ds : List Nat) : List Value := ds.map fun (x : Nat) => .int .u64 (x : Int)
theorem lims_us (k n : Nat) : lims k n = us (digs 18446744073709551616 k n) := rfl
theorem us_len (ds : List Nat) : (us ds).length = ds.length := by simp [us]
theorem us_get (ds : List Nat) (j x : Nat) (h : ds[j]? = some x) : (us ds)[j]? = some (.int .u64 (x : Int)) := by simp [us, h]
theorem us_set (ds : List Nat) (j x : Nat) : (us ds).set j (.int .u64 (x : Int)) = us (ds.set j x) := by simp [us, List.map_set]
theorem us_one (ds : List Nat) : ∀ v ∈ us ds, v.oneCell' = true := by
  intro v hv
  simp only [us, List.mem_map] at hv
  obtain ⟨x, -, rfl⟩ := hv
  rfl
/-- The number of digits. -/
def val (b : Nat) : List Nat → Nat
  | [] => 0
  | d :: ds => d + b * val b ds
theorem val_zeros (b k : Nat) : val b (List.replicate k 0) = 0 := by
  induction k with
  | zero => rfl
  | succ k ih => rw [List.replicate_succ, val, ih, Nat.mul_zero]
theorem val_set (b : Nat) : ∀ (ds : List Nat) (j d x : Nat), ds[j]? = some d → val b (ds.set j x) + b ^ j * d = val b ds + b ^ j * x
  | [], j, d, x, h => by simp at h
  | e :: ds, 0, d, x, h => by
    simp only [List.getElem?_cons_zero, Option.some.injEq] at h
    subst h
    simp only [List.set_cons_zero, val, Nat.pow_zero]; omega
  | e :: ds, j + 1, d, x, h => by
    simp only [List.getElem?_cons_succ] at h
    have := val_set b ds j d x h
    have h2 := congrArg (b * ·) this
    simp only [Nat.mul_add, ← Nat.mul_assoc] at h2
    simp only [List.set_cons_succ, val, Nat.pow_succ, Nat.mul_comm (b ^ j) b]
    omega
theorem val_digs (b k n : Nat) : val b (digs b k n) = n % b ^ k := by
  induction k generalizing n with
  | zero => simp [digs, val, Nat.mod_one]
  | succ k ih =>
    have e : digs b (k + 1) n = n % b :: digs b k (n / b) := by
      simp only [digs, List.range_succ_eq_map, List.map_cons, List.map_map, Nat.pow_zero, Nat.div_one]
      congr 1
      apply List.map_congr_left
      intro i _
      simp only [Function.comp_apply, Nat.pow_succ, Nat.mul_comm (b ^ i) b, Nat.div_div_eq_div_mul]
    rw [e, val, ih, Nat.pow_succ, Nat.mul_comm (b ^ k) b, Nat.mod_mul]
theorem digs_val (b : Nat) (hb : 0 < b) : ∀ (ds : List Nat), (∀ d ∈ ds, d < b) → digs b ds.length (val b ds) = ds
  | [], _ => rfl
  | d :: ds, h => by
    have hd := h d (by simp)
    have ih := digs_val b hb ds (fun x hx => h x (by simp [hx]))
    have e : digs b (ds.length + 1) (d + b * val b ds) = (d + b * val b ds) % b :: digs b ds.length ((d + b * val b ds) / b) := by
      simp only [digs, List.range_succ_eq_map, List.map_cons, List.map_map, Nat.pow_zero, Nat.div_one]
      congr 1
      apply List.map_congr_left
      intro i _
      simp only [Function.comp_apply, Nat.pow_succ, Nat.mul_comm (b ^ i) b, Nat.div_div_eq_div_mul]
    rw [List.length_cons, val, e, Nat.add_mul_mod_self_left, Nat.mod_eq_of_lt hd, Nat.add_mul_div_left _ _ hb, Nat.div_eq_of_lt hd, Nat.zero_add, ih]
theorem digs_lt (b k n : Nat) (hb : 0 < b) : ∀ d ∈ digs b k n, d < b := by
  intro d hd
  simp only [digs, List.mem_map] at hd
  obtain ⟨i, -, rfl⟩ := hd
  exact Nat.mod_lt _ hb
theorem val_lt (b : Nat) (hb : 0 < b) : ∀ (ds : List Nat), (∀ d ∈ ds, d < b) → val b ds < b ^ ds.length
  | [], _ => by simp [val]
  | d :: ds, h => by
    have hd := h d (by simp)
    have ih := val_lt b hb ds (fun x hx => h x (by simp [hx]))
    have := Nat.mul_le_mul_left b ih
    rw [Nat.mul_succ] at this
    rw [val, List.length_cons, Nat.pow_succ, Nat.mul_comm (b ^ ds.length) b]
    omega
theorem set_lt {b : Nat} {ds : List Nat} (h : ∀ d ∈ ds, d < b) {j x : Nat} (hx : x < b) : ∀ d ∈ ds.set j x, d < b := by
  intro d hd
  rcases List.mem_or_eq_of_mem_set hd with h1 | h1
  · exact h d h1
  · rw [h1]; exact hx
end Go.Proofs.YtibdgkhkhmdihaaGreatDoor


namespace Go.Proofs.YtibdgkhkhmdihaaGreatDoor
open Go.RowKit
set_option maxHeartbeats 1000000 in
set_option maxRecDepth 100000 in
theorem limMul_any (a b : Nat) (hb : b < 18446744073709551616 ^ 4) (w : World) :
    Calls Tryz.prog 177 #[.agg (lims 4 a).toArray, .agg (lims 4 b).toArray] w fun e w' =>
      e = .returned (.agg (lims 8 (a % 18446744073709551616 ^ 4 * b)).toArray) ∧ Below w.heap.size w w' := by
  go_enter Tryz.func177, Tryz.ntmps177
  go_upto_region 2 with fail
  refine wp_new4 (fun W hsz h1 h2 h3 h4 hb0 => ?_)
  go_wp2_with fail
  go_loopw [12] (fun kv wr => ∃ (k : Nat) (ds : List Nat), k ≤ 4 ∧ kv = .int .i64 k ∧ Arr wr w.heap.size (lims 4 a) ∧ Arr wr (w.heap.size + 1) (lims 4 b) ∧ Arr wr (w.heap.size + 1 + 1) (List.replicate 8 (.int .u64 0)) ∧ Arr wr (w.heap.size + 1 + 1 + 1) (us ds) ∧ Below w.heap.size w wr ∧
      ds.length = 8 ∧ (∀ d ∈ ds, d < 18446744073709551616) ∧ val 18446744073709551616 ds = a % 18446744073709551616 ^ k * b ∧ (∀ p, k + 4 ≤ p → p < 8 → ds[p]? = some 0)) (fun kv _ => 4 - (intOf kv).toNat)
  case atStart => exact ⟨0, List.replicate 8 0, Nat.zero_le _, rfl, h1, h2, h3, h4, hb0, rfl, by simp, by rw [val_zeros, Nat.pow_zero, Nat.mod_one, Nat.zero_mul], fun p h0 hp => by rw [List.getElem?_replicate, if_pos hp]⟩
  case round =>
    obtain ⟨k, ds, hk, rfl, k1, k2, k3, k4, kb, hlen, hlt, hval, hz⟩ := hrel
    clear h1 h2 h3 h4 hb0 hsz
    by_cases hlt4 : k < 4
    · have hdk : decide ((k : Int) < 4) = true := by simp; omega
      obtain ⟨x, hx⟩ : ∃ x, a / 18446744073709551616 ^ k % 18446744073709551616 = x := ⟨_, rfl⟩
      have hxl : x < 18446744073709551616 := by rw [← hx]; exact Nat.mod_lt _ (by decide)
      have hx' := Lib.hid hx
      have hval' := Lib.hid hval
      have hz' := Lib.hid hz
      have hlen' := Lib.hid hlen
      have hlt' := Lib.hid hlt
      clear hval hz hlen hlt
      go_wp2_with fail
      go_loopw [7, 15] (fun cv jv wr => ∃ (j c : Nat) (es : List Nat), j ≤ 4 ∧ c < 18446744073709551616 ∧ cv = .int .u64 (c : Int) ∧ jv = .int .i64 j ∧ Arr wr w.heap.size (lims 4 a) ∧ Arr wr (w.heap.size + 1) (lims 4 b) ∧ Arr wr (w.heap.size + 1 + 1) (List.replicate 8 (.int .u64 0)) ∧ Arr wr (w.heap.size + 1 + 1 + 1) (us es) ∧ Below w.heap.size w wr ∧
          es.length = 8 ∧ (∀ d ∈ es, d < 18446744073709551616) ∧ val 18446744073709551616 es + 18446744073709551616 ^ (k + j) * c = a % 18446744073709551616 ^ k * b + 18446744073709551616 ^ k * (x * (b % 18446744073709551616 ^ j)) ∧ (∀ p, k + 4 ≤ p → p < 8 → es[p]? = some 0)) (fun _ jv _ => 4 - (intOf jv).toNat)
      case atStart => exact ⟨0, 0, ds, Nat.zero_le _, by decide, rfl, rfl, k1, k2, k3, k4, kb, hlen'.out, hlt'.out, by rw [hval'.out, Nat.pow_zero, Nat.mod_one, Nat.mul_zero, Nat.mul_zero, Nat.mul_zero], hz'.out⟩
      case round =>
        obtain ⟨j, c, es, hj, hc, rfl, rfl, j1, j2, j3, j4, jb, jlen, jlt, jval, jz⟩ := hrel
        clear k1 k2 k3 k4 kb hlen' hlt' hval' hz'
        by_cases hj4 : j < 4
        · obtain ⟨y, hy⟩ : ∃ y, b / 18446744073709551616 ^ j % 18446744073709551616 = y := ⟨_, rfl⟩
          have hyl : y < 18446744073709551616 := by rw [← hy]; exact Nat.mod_lt _ (by decide)
          have ha := j1.cell (lims_get 4 a k hlt4)
          have hbb := j2.cell (lims_get 4 b j hj4)
          rw [hx] at ha
          rw [hy] at hbb
          obtain ⟨d, hd⟩ : ∃ d, es[k + j]? = some d := ⟨_, List.getElem?_eq_getElem (by omega)⟩
          have hdl : d < 18446744073709551616 := jlt d (List.mem_of_getElem? hd)
          have hdc := j4.cell (us_get es (k + j) d hd)
          have hfr := j4.frozen (k + j)
          have hy' := Lib.hid hy
          have hd' := Lib.hid hd
          have jlen' := Lib.hid jlen
          have jlt' := Lib.hid jlt
          have jval' := Lib.hid jval
          have jz' := Lib.hid jz
          clear hx hy hd jlen jlt jval jz
          obtain ⟨p0, hp0⟩ : ∃ p, x * y % 18446744073709551616 = p := ⟨_, rfl⟩
          obtain ⟨p1, hp1⟩ : ∃ p, x * y / 18446744073709551616 = p := ⟨_, rfl⟩
          obtain ⟨s1, hs1⟩ : ∃ p, (p0 + d) % 18446744073709551616 = p := ⟨_, rfl⟩
          obtain ⟨t1, ht1⟩ : ∃ p, (p0 + d) / 18446744073709551616 = p := ⟨_, rfl⟩
          obtain ⟨s2, hs2⟩ : ∃ p, (s1 + c) % 18446744073709551616 = p := ⟨_, rfl⟩
          obtain ⟨t2, ht2⟩ : ∃ p, (s1 + c) / 18446744073709551616 = p := ⟨_, rfl⟩
          have hxy : x * y ≤ 18446744073709551615 * 18446744073709551615 := Nat.mul_le_mul (by omega) (by omega)
          have hm := fun w => mul64 x y hxl hyl w
          rw [hp0, hp1] at hm
          have a1 := fun w => add64z p0 d w
          rw [hs1, ht1] at a1
          have a2 := fun w => add64z s1 c w
          rw [hs2, ht2] at a2
          have hm := Lib.hid hm
          have a1 := Lib.hid a1
          have a2 := Lib.hid a2
          have q0 : p0 < 18446744073709551616 := by omega
          have q1 : p1 + t1 + t2 < 18446744073709551616 := by omega
          have hst : s2 + 18446744073709551616 * (p1 + t1 + t2) = x * y + d + c := by omega
          have hs2l : s2 < 18446744073709551616 := by omega
          have hst := Lib.hid hst
          clear hp0 hp1 hs1 ht1 hs2 ht2 hxy
          have ik0 : (0 : Int) ≤ (k : Int) := by omega
          have ik4 : (k : Int) < 4 := by omega
          have ij0 : (0 : Int) ≤ (j : Int) := by omega
          have ij4 : (j : Int) < 4 := by omega
          go_upto_region 9 with fail
          refine Txt.start ((fun w' => w' = wr.drew)) 12 rfl (by kernel_rfl) ?_
          refine Txt.seg (A := ?_) 6 63 (by kernel_rfl) (by exact rfl) [0, 1, 2, 3, 4, 5] (by kernel_rfl) ?_ ?_
          rotate_left
          · intro w' hB
            subst hB
            iterate 6 (first | (refine rd_skip rfl rfl ?_; simp only [Act.put, List.setIfInBounds_toArray, List.set_cons_zero, List.set_cons_succ]) | fail | (refine rd_take (v := ?_) rfl rfl ?_ ?_; rotate_left; (focus (go_simp; try (with_reducible rfl))); simp only [Act.put, List.setIfInBounds_toArray, List.set_cons_zero, List.set_cons_succ]))
            exact rd_nil
          refine Txt.eff 6 127 rfl (by decide +kernel) (fun K hK => ?_)
          go_simp
          refine (hm.out _).mono ?_
          rintro e w1 ⟨rfl, rfl⟩
          refine hK (fun w' => w' = wr.drew) _ _ rfl (fun _ h => h) ?_
          clear hK
          try simp only [Act.put, List.setIfInBounds_toArray, List.set_cons_zero, List.set_cons_succ]
          refine Txt.seg (A := ?_) 0 4095 (by kernel_rfl) (by exact rfl) [7, 8, 9, 10, 11] (by kernel_rfl) ?_ ?_
          rotate_left
          · intro w' hB
            subst hB
            iterate 5 (first | (refine rd_skip rfl rfl ?_; simp only [Act.put, List.setIfInBounds_toArray, List.set_cons_zero, List.set_cons_succ]) | fail | (refine rd_take (v := ?_) rfl rfl ?_ ?_; rotate_left; (focus (go_simp; try (with_reducible rfl))); simp only [Act.put, List.setIfInBounds_toArray, List.set_cons_zero, List.set_cons_succ]))
            exact rd_nil
          refine Txt.done (by kernel_rfl) ?_
          go_wp2_with (simp only [a1.out, a2.out])
          go_roundw
          case rel =>
            refine ⟨j + 1, p1 + t1 + t2, es.set (k + j) s2, by omega, q1, by go_num, by go_num, j1.other (by simp; omega) _, j2.other (by simp) _, j3.other (by simp) _, ?_, (jb.drew).setCell (by simp; omega) _, by rw [List.length_set]; exact jlen'.out, set_lt jlt'.out hs2l, ?_, ?_⟩
            · have := j4.set (k + j) (.int .u64 (s2 : Int))
              rw [us_set] at this
              exact this
            · have h1 := val_set 18446744073709551616 es (k + j) d s2 hd'.out
              have h2 := jval'.out
              have h3 := hst.out
              have h4 := mod_pow_succ' 18446744073709551616 j b
              rw [hy'.out] at h4
              rw [h4, ← Nat.add_assoc, Nat.pow_succ]
              rw [Nat.pow_add] at h1 h2 ⊢
              clear h4 hm a1 a2 jlen' jlt' jval' jz' hst hd' hy' j1 j2 j3 j4 jb ha hbb hdc hfr
              generalize val 18446744073709551616 (es.set (k + j) s2) = V' at *
              generalize val 18446744073709551616 es = V at *
              generalize 18446744073709551616 ^ j = J at *
              generalize a % 18446744073709551616 ^ k * b = A at *
              generalize 18446744073709551616 ^ k = K at *
              generalize b % J = m at *
              generalize p1 + t1 + t2 = t at *
              have h5 := congrArg (K * J * ·) h3
              simp only [Nat.mul_add] at h5 ⊢
              have e1 : K * J * 18446744073709551616 * t = K * J * (18446744073709551616 * t) := by rw [Nat.mul_assoc (K * J)]
              have e2 : K * (x * (J * y)) = K * J * (x * y) := by rw [Nat.mul_assoc K J, Nat.mul_left_comm x J y]
              omega
            · intro p h1 h2
              rw [List.getElem?_set_ne (by omega)]
              exact jz'.out p h1 h2
          case measure => simp [intOf]; omega
        · obtain rfl : j = 4 := by omega
          have hjf : decide ((4 : Int) < 4) = false := by decide
          have hcd := jz (k + 4) (by omega) (by omega)
          have hd0 := j4.cell (us_get es (k + 4) 0 hcd)
          have hfr := j4.frozen (k + 4)
          have jlen' := Lib.hid jlen
          have jlt' := Lib.hid jlt
          have jval' := Lib.hid jval
          have jz' := Lib.hid jz
          have hcd' := Lib.hid hcd
          clear hx jlen jlt jval jz hcd
          go_wp2_with fail
          go_roundw
          case rel =>
            refine ⟨k + 1, es.set (k + 4) c, by omega, by go_num, j1.other (by simp; omega) _, j2.other (by simp) _, j3.other (by simp) _, ?_, jb.setCell (by simp; omega) _, by rw [List.length_set]; exact jlen'.out, set_lt jlt'.out hc, ?_, ?_⟩
            · have := j4.set (k + 4) (.int .u64 (c : Int))
              rw [us_set] at this
              exact this
            · have h1 := val_set 18446744073709551616 es (k + 4) 0 c hcd'.out
              have h2 := jval'.out
              have h4 := mod_pow_succ' 18446744073709551616 k a
              rw [hx'.out] at h4
              rw [Nat.mod_eq_of_lt hb] at h2
              rw [h4, Nat.add_mul, Nat.mul_assoc]
              omega
            · intro p h1 h2
              rw [List.getElem?_set_ne (by omega)]
              exact jz'.out p (by omega) h2
          case measure => simp [intOf]; omega
    · obtain rfl : k = 4 := by omega
      have e : us ds = lims 8 (a % 18446744073709551616 ^ 4 * b) := by
        have := digs_val 18446744073709551616 (by decide) ds hlt
        rw [hlen, hval] at this
        rw [lims_us, this]
      rw [e] at k4
      clear hb hz hval hlt hlen e
      go_wp2_with (first | (refine wpList_load_arr rfl 239 _ rfl (w.heap.size + 1 + 1 + 1) rfl _ Tryz.underlying239 rfl _ k4 (by rw [lims_len]; kernel_rfl) ?_) | (refine wpList_store_arr rfl 239 _ _ rfl (w.heap.size + 1 + 1) (lims 8 (a % 18446744073709551616 ^ 4 * b)) rfl rfl _ k3 (by rw [lims_len]; kernel_rfl) (by rw [lims_len]; rfl) (lims_one _ _) ?_))
      refine bodyPost_ret (v := .agg (lims 8 (a % 18446744073709551616 ^ 4 * b)).toArray) (results_arr Tryz.results177 _ _ (w.heap.size + 1 + 1) _ rfl Tryz.underlying239 rfl _ (k3.setRow _) (by rw [lims_len]; kernel_rfl)) rfl ⟨rfl, below_setRow kb (by omega) _⟩
end Go.Proofs.YtibdgkhkhmdihaaGreatDoor


namespace Go.Proofs.YtibdgkhkhmdihaaGreatDoor
open Go.RowKit
theorem bit_at (n k : Nat) : n / 18446744073709551616 ^ (k / 64) % 18446744073709551616 / 2 ^ (k % 64) % 2 = n / 2 ^ k % 2 := by
  have e : (2 : Nat) ^ k = 18446744073709551616 ^ (k / 64) * 2 ^ (k % 64) := by
    rw [show (18446744073709551616 : Nat) = 2 ^ 64 by decide, ← Nat.pow_mul, ← Nat.pow_add]
    congr 1; omega
  rw [e, ← Nat.div_div_eq_div_mul]
  generalize n / 18446744073709551616 ^ (k / 64) = m
  have e2 : (18446744073709551616 : Nat) = 2 ^ (k % 64) * 2 ^ (64 - k % 64) := by
    rw [← Nat.pow_add, show k % 64 + (64 - k % 64) = 64 by omega]
  conv => lhs; rw [e2]
  rw [Nat.mod_mul_right_div_self, Nat.mod_mod_of_dvd]
  exact ⟨2 ^ (63 - k % 64), by rw [← Nat.pow_succ']; congr 1; omega⟩
set_option maxHeartbeats 1000000 in
theorem limBit_any (n k : Nat) (hk : k < 256) (w : World) :
    Calls Tryz.prog 123 #[.agg (lims 4 n).toArray, .int .i64 k] w fun e w' => e = .returned (.int .u64 (n / 2 ^ k % 2 : Nat)) ∧ Below w.heap.size w w' := by
  have hq0 : (0 : Int) ≤ (k : Int) / 64 := by omega
  have hq1 : (k : Int) / 64 < 4 := by omega
  obtain ⟨x, hx⟩ : ∃ x, n / 18446744073709551616 ^ (k / 64) % 18446744073709551616 = x := ⟨_, rfl⟩
  have hx' := Lib.hid hx
  have hc := lims_get 4 n (k / 64) (by omega)
  rw [hx] at hc
  clear hx
  go_enter Tryz.func123, Tryz.ntmps123
  go_upto_region 1 with fail
  refine wp_new1 (fun W hsz h1 hb0 => ?_)
  have hc1 := h1.cell hc
  go_wp2_with fail
  go_ret
  refine ⟨?_, hb0⟩
  have e := bits_and_u64_nat (x / 2 ^ (k % 64)) 1 (by have := Nat.div_le_self x (2 ^ (k % 64)); have := hx'.out; omega) (by decide)
  rw [Nat.and_one_is_mod] at e
  have e2 := bit_at n k
  rw [hx'.out] at e2
  rw [e2] at e
  have e3 : ((x / 2 ^ (k % 64) : Nat) : Int) = (x : Int) / 2 ^ (k % 64) := by simp
  rw [e3] at e
  have e4 : bits BinOp.and IntKind.u64 ((x : Int) / 2 ^ (k % 64)) 1 = ((n / 2 ^ k % 2 : Nat) : Int) := e
  simp [e4]
end Go.Proofs.YtibdgkhkhmdihaaGreatDoor


namespace Go.Proofs.YtibdgkhkhmdihaaGreatDoor
open Go.RowKit
/-- The k lowest bytes of n. -/
def bytn (k n : Nat) : List Value := (digs 256 k n).map fun (x : Nat) => .int .u8 (x : Int)
theorem bytn_len (k n : Nat) : (bytn k n).length = k := by simp [bytn, digs_len]
theorem bytn_get (k n i : Nat) (h : i < k) : (bytn k n)[i]? = some (.int .u8 ((n / 256 ^ i % 256 : Nat) : Int)) := by simp [bytn, digs_get _ _ _ _ h]
theorem bytn_one (k n : Nat) : ∀ v ∈ bytn k n, v.oneCell' = true := by
  intro v hv
  simp only [bytn, List.mem_map] at hv
  obtain ⟨x, -, rfl⟩ := hv
  rfl
theorem bytn_u8s (k a : Nat) : bytn k a = u8s ((digs 256 k a).map UInt8.ofNat) := by
  simp only [bytn, u8s, List.map_map]
  apply List.map_congr_left
  intro x hx
  have := digs_lt 256 k a (by decide) x hx
  simp
  omega
/-- Natural numbers as cells of int. -/
def ens (t : List Nat) : List Value := t.map fun (x : Nat) => .int .i64 (x : Int)
theorem ens_len (t : List Nat) : (ens t).length = t.length := by simp [ens]
theorem ens_one (t : List Nat) : ∀ v ∈ ens t, v.oneCell' = true := by
  intro v hv
  simp only [ens, List.mem_map] at hv
  obtain ⟨x, -, rfl⟩ := hv
  rfl
/-- All are at most B. -/
def Le (B : Nat) (t : List Nat) : Prop := ∀ m, t.getD m 0 ≤ B
theorem Le.mono {A B : Nat} {t : List Nat} (h : Le A t) (hAB : A ≤ B) : Le B t := fun m => Nat.le_trans (h m) hAB
end Go.Proofs.YtibdgkhkhmdihaaGreatDoor


namespace Go.Proofs.YtibdgkhkhmdihaaGreatDoor
open Go.RowKit
/-- Four bytes as a word. -/
def w4 (b0 b1 b2 b3 : Nat) : Nat := b0 + 256 * b1 + 65536 * b2 + 16777216 * b3
/-- A byte is set behind the ones that are there. -/
theorem bytn_snoc {K m j v : Nat} (hm : m < 256 ^ j) (hv : v < 256) : (bytn K m).set j (.int .u8 (v : Int)) = bytn K (m + 256 ^ j * v) := by
  apply List.ext_getElem?
  intro i
  have hp : 0 < 256 ^ j := Nat.pow_pos (by decide)
  by_cases hi : i < K
  · rw [List.getElem?_set, bytn_get _ _ _ hi]
    by_cases e : j = i
    · subst e
      rw [if_pos rfl, if_pos (by rw [bytn_len]; exact hi), bytn_get _ _ _ hi, Nat.add_mul_div_left _ _ hp, Nat.div_eq_of_lt hm, Nat.zero_add, Nat.mod_eq_of_lt hv]
    · rw [if_neg e, bytn_get _ _ _ hi]
      congr 3
      by_cases h : i < j
      · have e2 : 256 ^ j = 256 ^ i * (256 * 256 ^ (j - i - 1)) := by rw [← Nat.mul_assoc, ← Nat.pow_succ, ← Nat.pow_add, show i + 1 + (j - i - 1) = j by omega]
        rw [e2, Nat.mul_assoc, Nat.add_mul_div_left _ _ (Nat.pow_pos (by decide)), Nat.mul_assoc, Nat.add_mul_mod_self_left]
      · have h3 : 256 ^ (j + 1) ≤ 256 ^ i := Nat.pow_le_pow_right (by decide) (by omega)
        have h4 : 256 ^ j * v ≤ 256 ^ j * 255 := Nat.mul_le_mul_left _ (by omega)
        rw [Nat.pow_succ] at h3
        rw [Nat.div_eq_of_lt (by omega), Nat.div_eq_of_lt (by omega)]
  · rw [List.getElem?_eq_none (by rw [List.length_set, bytn_len]; omega), List.getElem?_eq_none (by rw [bytn_len]; omega)]
end Go.Proofs.YtibdgkhkhmdihaaGreatDoor


namespace Go.Proofs.YtibdgkhkhmdihaaGreatDoor
open Go.RowKit
theorem u8_mod (a : Nat) : IntKind.u8.wrap (a : Int) = ((a % 256 : Nat) : Int) := by
  simp [IntKind.wrap, IntKind.bits, IntKind.signed]
theorem below_fresh {w w' : World} {o : Obj} (hg : (w.alloc o).grownBy w' (some w.heap.size)) : Below w.heap.size w w' :=
  below_gr (below_alloc w o) hg (Nat.le_refl _) (by simp)
end Go.Proofs.YtibdgkhkhmdihaaGreatDoor

