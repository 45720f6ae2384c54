/- Reference of the field: eighth, same, root, Root (the variable rootOfMinusOne is laid). -/
import Derived.Test.YtdcbpilibaigmaaDoorRf8
namespace Go.Proofs.YtdcbpilibaigmaaDoor
open Go.RowKit

set_option maxHeartbeats 4000000 in
set_option maxRecDepth 100000 in
theorem reighth_any (w : World) : Calls Tryd.prog 47 #[] w fun e w' => e = .returned (.agg (byts eN).toArray) ∧ Below w.heap.size w w' := by
  have s1 : (byts (256 ^ 32 - 1)).set 0 (.int .u8 254) = byts (256 ^ 32 - 2) := byts_set (v := 254) (by decide) (by decide) (by decide) (by decide)
  have s2 : (byts (256 ^ 32 - 2)).set 31 (.int .u8 15) = byts eN := byts_set (v := 15) (by decide) (by decide) (by decide) (by decide)
  replace s1 := Lib.hid s1
  replace s2 := Lib.hid s2
  go_enter Tryd.func47, Tryd.ntmps47
  go_upto_region 1 with fail
  refine wp_new1 (fun W hsz k1 kb => ?_)
  have k1 : Arr W w.heap.size (byts 0) := k1
  have lt1 := k1.lt
  clear hsz
  go_upto_region 2 with fail
  refine wp_new1 (fun w9 hsz9 k2 hb9 => ?_)
  have k1 := k1.below hb9
  have kb := bel kb hb9
  generalize W.heap.size = g at k2 lt1 ⊢
  have k2 : Arr w9 g (byts (256 ^ 0 - 1)) := k2
  clear hsz9 hb9
  go_wp2_with fail
  go_loopw [2] (fun kv wr => ∃ k : Nat, k ≤ 32 ∧ kv = .int .i64 k ∧ Arr wr w.heap.size (byts 0) ∧ Arr wr g (byts (256 ^ k - 1)) ∧ Below w.heap.size w wr) (fun kv _ => 32 - (intOf kv).toNat)
  case atStart => exact ⟨0, Nat.zero_le _, rfl, k1, k2, kb⟩
  case round =>
    clear k1 k2 kb
    obtain ⟨k, hk, rfl, k1, k2, kb⟩ := hrel
    by_cases hlt : k < 32
    · have hcell := k2.cell (byts_get _ k hlt)
      have hfr := k2.frozen k
      go_wp2_with fail
      refine ⟨⟨k + 1, by omega, by go_num, k1.other (by simp; omega) _, ?_, kb.setCell (by simp; omega) _⟩, by simp [intOf]; omega⟩
      rw [← byts_fill k hlt]
      exact k2.set k _
    obtain rfl : k = 32 := by omega
    have hcell := k2.cell (byts_get _ 0 (by decide))
    have hfr := k2.frozen 0
    go_upto_region 7 with fail
    refine code_cell k2 (fun w_1 k2 hoth hbel => ?_)
    have k1 := hoth _ _ (by omega) k1
    have kb := hbel _ _ (by omega) kb
    clear hoth hbel
    rw [s1.out] at k2
    clear hcell hfr
    have hcell := k2.cell (byts_get _ 31 (by decide))
    have hfr := k2.frozen 31
    go_upto_region 8 with fail
    refine code_cell k2 (fun w_2 k2 hoth hbel => ?_)
    have k1 := hoth _ _ (by omega) k1
    have kb := hbel _ _ (by omega) kb
    clear hoth hbel
    rw [s2.out] at k2
    clear hcell hfr
    go_wp2_with (first | (refine wpList_load_arr2 rfl _ _ rfl _ rfl (by kernel_rfl) _ (by assumption) (by first | (rw [lims_len]; kernel_rfl) | (rw [el_rep]; kernel_rfl) | (rw [el_len]; kernel_rfl) | (rw [byts_len]; kernel_rfl) | (rw [us_len]; kernel_rfl) | kernel_rfl) ?_) | (refine wpList_store_arr rfl _ _ _ rfl _ _ rfl rfl _ (by first | assumption | exact Arr.new _ _ _) (by first | (rw [lims_len]; kernel_rfl) | (rw [el_rep]; kernel_rfl) | (rw [el_len]; kernel_rfl) | (rw [byts_len]; kernel_rfl) | (rw [us_len]; kernel_rfl) | kernel_rfl) (by first | (rw [lims_len, lims_len]) | (rw [el_rep, el_rep]) | (rw [el_rep, el_len]; rfl) | (rw [el_len, el_rep]; rfl) | (rw [el_len, el_len]; rfl) | (rw [byts_len, byts_len]) | (rw [lims_len]; rfl) | (rw [byts_len]; rfl) | (rw [us_len, us_len]; rfl) | rfl) (by first | exact lims_one _ _ | exact el_one _ | exact byts_one _ | exact us_one _ | (intro v hv; simp at hv; rcases hv with rfl | rfl | rfl | rfl <;> rfl)) ?_))
    exact bodyPost_ret (results_arr2 Tryd.results47 _ _ _ rfl (by kernel_rfl) _ (by first | assumption | exact Arr.setRow (by assumption) _) (by first | (rw [lims_len]; kernel_rfl) | (rw [el_rep]; kernel_rfl) | (rw [el_len]; kernel_rfl) | (rw [byts_len]; kernel_rfl) | (rw [us_len]; kernel_rfl) | kernel_rfl)) rfl ⟨rfl, below_setRow kb (by omega) _⟩

set_option maxHeartbeats 4000000 in
set_option maxRecDepth 100000 in
theorem rsame_u {a b : Nat} {U V : Int} (hx : EU a U) (hy : EU b V) (ha : a < pN) (hb : b < pN) (w : World) :
    Calls Tryd.prog 48 #[.agg (el (rep U)).toArray, .agg (el (rep V)).toArray] w fun e w' => e = .returned (.bool (decide (a = b))) ∧ Below w.heap.size w w' := by
  have c1 := Lib.hid (fun w => rout_el (r := a) hx (by rw [← Int.natCast_emod, Nat.mod_eq_of_lt ha]) w)
  have c2 := Lib.hid (fun w => rout_el (r := b) hy (by rw [← Int.natCast_emod, Nat.mod_eq_of_lt hb]) w)
  have hp : pN < 256 ^ 32 := by decide
  have q := Lib.hid (eq_byts a b (Nat.lt_trans ha hp) (Nat.lt_trans hb hp))
  clear hx hy ha hb hp
  go_enter Tryd.func48, Tryd.ntmps48
  go_upto_region 1 with fail
  refine wp_new2 (fun W hsz k2 k3 kb => ?_)
  clear hsz
  go_upto_region 1 with (first | (refine wpList_load_arr2 rfl _ _ rfl _ rfl (by kernel_rfl) _ (by assumption) (by first | (rw [lims_len]; kernel_rfl) | (rw [el_rep]; kernel_rfl) | (rw [el_len]; kernel_rfl) | (rw [byts_len]; kernel_rfl) | (rw [us_len]; kernel_rfl) | kernel_rfl) ?_) | (refine wpList_store_arr rfl _ _ _ rfl _ _ rfl rfl _ (by first | assumption | exact Arr.new _ _ _) (by first | (rw [lims_len]; kernel_rfl) | (rw [el_rep]; kernel_rfl) | (rw [el_len]; kernel_rfl) | (rw [byts_len]; kernel_rfl) | (rw [us_len]; kernel_rfl) | kernel_rfl) (by first | (rw [lims_len, lims_len]) | (rw [el_rep, el_rep]) | (rw [el_rep, el_len]; rfl) | (rw [el_len, el_rep]; rfl) | (rw [el_len, el_len]; rfl) | (rw [byts_len, byts_len]) | (rw [lims_len]; rfl) | (rw [byts_len]; rfl) | (rw [us_len, us_len]; rfl) | rfl) (by first | exact lims_one _ _ | exact el_one _ | exact byts_one _ | exact us_one _ | (intro v hv; simp at hv; rcases hv with rfl | rfl | rfl | rfl <;> rfl)) ?_))
  refine Tx.start (fun w' => Below (W).heap.size (W) w') 9999 6 rfl (by kernel_rfl) ?_
  have hS_3 : Below (W).heap.size (W) (World.drew W) := (Below.refl _ _).drew
  refine Tx.seg (A := ?_) 4 5 (by kernel_rfl) (by exact hS_3) [0, 2] (by kernel_rfl) ?_ ?_
  rotate_left
  · intro w' hB
    have e0 := k2.below hB
    have e1 := k3.below hB
    iterate 2 (first | (refine rd_skip rfl rfl ?_; simp only [Act.put, List.setIfInBounds_toArray, List.set_cons_zero, List.set_cons_succ]) | (refine rd_load_arr rfl rfl _ _ rfl _ rfl (by kernel_rfl) _ (by assumption) (by first | (rw [lims_len]; kernel_rfl) | (rw [el_rep]; kernel_rfl) | (rw [el_len]; kernel_rfl) | (rw [byts_len]; kernel_rfl) | (rw [us_len]; kernel_rfl) | kernel_rfl) ?_; simp only [Act.put, List.setIfInBounds_toArray, List.set_cons_zero, List.set_cons_succ]) | (refine rd_take (v := ?_) rfl rfl ?_ ?_; rotate_left; (focus (go_simp; try (with_reducible rfl))); simp only [Act.put, List.setIfInBounds_toArray, List.set_cons_zero, List.set_cons_succ]))
    exact rd_nil
  refine Tx.eff 1 7 rfl (by decide +kernel) (fun K hK => ?_)
  go_simp
  refine (c1.out _).mono ?_
  rintro e w_4 ⟨rfl, hb_4⟩
  have hS_4 := ext_trans hS_3 (Nat.le_refl _) hb_4
  refine hK (fun w' => Below (W).heap.size (W) w') _ _ hS_4 (fun _ h => h) ?_
  clear hK K hb_4 hS_3
  try simp only [Act.put, List.setIfInBounds_toArray, List.set_cons_zero, List.set_cons_succ]
  refine Tx.eff 3 15 rfl (by decide +kernel) (fun K hK => ?_)
  go_simp
  refine (c2.out _).mono ?_
  rintro e w_5 ⟨rfl, hb_5⟩
  have hS_5 := ext_trans hS_4 (Nat.le_refl _) hb_5
  refine hK (fun w' => Below (W).heap.size (W) w') _ _ hS_5 (fun _ h => h) ?_
  clear hK K hb_5 hS_4
  try simp only [Act.put, List.setIfInBounds_toArray, List.set_cons_zero, List.set_cons_succ]
  refine Tx.seg (A := ?_) 0 63 (by kernel_rfl) (by exact hS_5) [4, 5] (by kernel_rfl) ?_ ?_
  rotate_left
  · intro w' hB
    have eqf1 := q.out w'
    iterate 2 (first | (refine rd_skip rfl rfl ?_; simp only [Act.put, List.setIfInBounds_toArray, List.set_cons_zero, List.set_cons_succ]) | (refine rd_load_arr rfl rfl _ _ rfl _ rfl (by kernel_rfl) _ (by assumption) (by first | (rw [lims_len]; kernel_rfl) | (rw [el_rep]; kernel_rfl) | (rw [el_len]; kernel_rfl) | (rw [byts_len]; kernel_rfl) | (rw [us_len]; kernel_rfl) | kernel_rfl) ?_; simp only [Act.put, List.setIfInBounds_toArray, List.set_cons_zero, List.set_cons_succ]) | (refine rd_take (v := ?_) rfl rfl ?_ ?_; rotate_left; (focus (go_simp; try (with_reducible rfl))); simp only [Act.put, List.setIfInBounds_toArray, List.set_cons_zero, List.set_cons_succ]))
    exact rd_nil
  refine Tx.done (by kernel_rfl) ?_
  have k2 := k2.below hS_5
  have k3 := k3.below hS_5
  have kb := bel kb hS_5
  clear hS_5
  go_wp2_with fail
  go_ret
  exact ⟨rfl, kb⟩

theorem rep_iN : rep iN = [0xa0b0, 0x4a0e, 0x1b27, 0xc4ee, 0xe478, 0xad2f, 0x1806, 0x2f43, 0xd7a7, 0x3dfb, 0x99, 0x2b4d, 0xdf0b, 0x4fc1, 0x2480, 0x2b83] := by decide +kernel

/-- What root answers: the root, and whether it is one. -/
def rtU (U : Int) (a : Nat) : Int := let X := powU U eN 256; if a ^ eN % pN * (a ^ eN % pN) % pN = a then X else mulU X iN

theorem rtU_eu {a : Nat} {U : Int} (hx : EU a U) : EU (Nt.rtx pN eN iN a) (rtU U a) := by
  have h1 : EU (a ^ eN % pN : Nat) (powU U eN 256) := El.cong (EU.pow hx (e := eN) (by decide)) (by rw [Int.natCast_emod, Int.natCast_pow, Int.emod_emod])
  unfold rtU Nt.rtx
  dsimp only
  split
  · exact h1
  · exact El.cong (EU.mul h1 (EU.of (n := iN) (by decide))) (by rw [Int.natCast_emod (_ * _), Int.natCast_mul, Int.emod_emod])

set_option maxHeartbeats 4000000 in
set_option maxRecDepth 100000 in
theorem rroot_u {a : Nat} {U R : Int} {B : Bool} (hx : EU a U) (ha : a < pN) (hR : Hid (rtU U a = R)) (hB : Hid (Nt.rtok pN eN iN a = B)) (w : World) (kG : Arr w 1 (el (rep iN))) :
    Calls Tryd.prog 33 #[.agg (el (rep U)).toArray] w fun e w' => e = .returned (.tuple #[.agg (el (rep R)).toArray, .bool B]) ∧ Below w.heap.size w w' := by
  have hG1 := kG.lt
  obtain ⟨x0, hx0⟩ : ∃ x, a ^ eN % pN = x := ⟨_, rfl⟩
  obtain ⟨X0, hX0⟩ : ∃ X, powU U eN 256 = X := ⟨_, rfl⟩
  have hxE : EU x0 X0 := by rw [← hx0, ← hX0]; exact El.cong (EU.pow hx (e := eN) (by decide)) (by rw [Int.natCast_emod, Int.natCast_pow, Int.emod_emod])
  have lx0 : x0 < pN := hx0 ▸ Nat.mod_lt _ pN_pos
  have hok := rtok_def a
  rw [hB.out] at hok
  have hRE := rtU_eu hx
  rw [hR.out] at hRE
  have hrx := hR.out
  unfold rtU at hrx
  dsimp only at hrx
  rw [hX0, hx0] at hrx
  obtain ⟨s0, hs0⟩ : ∃ s, x0 * x0 % pN = s := ⟨_, rfl⟩
  rw [hs0] at hrx
  have mulE : ∀ {a b : Nat} {U V R : Int}, EU a U → EU b V → mulU U V = R → EU (a * b % pN : Nat) R := by
    intro a b U V R h1 h2 h3
    rw [← h3]; exact El.cong (EU.mul h1 h2) (by rw [Int.natCast_emod, Int.natCast_mul, Int.emod_emod])
  obtain ⟨M0, hM0⟩ : ∃ M, mulU X0 X0 = M := ⟨_, rfl⟩
  have hME := mulE hxE hxE hM0
  rw [hs0] at hME
  have ls0 : s0 < pN := hs0 ▸ Nat.mod_lt _ pN_pos
  have c0 := Lib.hid (fun w => reighth_any w)
  have c1 := Lib.hid (fun w => rpow_u hx (by decide) (Lib.hid hX0) w)
  have c2 := Lib.hid (fun w => rmul_u hxE hxE (Lib.hid hM0) w)
  have c3 := Lib.hid (fun w => rsame_u hME hx ls0 ha w)
  by_cases hs : s0 = a
  · have hrt : Nt.rtx pN eN iN a = x0 := by unfold Nt.rtx; dsimp only; rw [hx0, hs0, if_pos hs]
    have hBt : B = true := by rw [hok, hrt, hs0]; exact decide_eq_true hs
    rw [if_pos hs] at hrx
    subst hBt
    subst hrx
    have hds : decide (s0 = a) = true := decide_eq_true hs
    replace hds := Lib.hid hds
    clear hs hrt hok hRE hx0 hX0 hM0 hME ls0 hs0 mulE lx0 hxE hx ha hR hB
    go_enter Tryd.func33, Tryd.ntmps33
    go_upto_region 1 with fail
    refine wp_new2 (fun W hsz k1 k2 kb => ?_)
    have kG : Arr W _ (el (rep iN)) := kG.below kb
    have k2 : Arr W (w.heap.size + 1) (el (rep 0)) := k2
    clear hsz
    go_upto_region 1 with (first | (refine wpList_load_arr2 rfl _ _ rfl _ rfl (by kernel_rfl) _ (by assumption) (by first | (rw [lims_len]; kernel_rfl) | (rw [el_rep]; kernel_rfl) | (rw [el_len]; kernel_rfl) | (rw [byts_len]; kernel_rfl) | (rw [us_len]; kernel_rfl) | kernel_rfl) ?_) | (refine wpList_store_arr rfl _ _ _ rfl _ _ rfl rfl _ (by first | assumption | exact Arr.new _ _ _) (by first | (rw [lims_len]; kernel_rfl) | (rw [el_rep]; kernel_rfl) | (rw [el_len]; kernel_rfl) | (rw [byts_len]; kernel_rfl) | (rw [us_len]; kernel_rfl) | kernel_rfl) (by first | (rw [lims_len, lims_len]) | (rw [el_rep, el_rep]) | (rw [el_rep, el_len]; rfl) | (rw [el_len, el_rep]; rfl) | (rw [el_len, el_len]; rfl) | (rw [byts_len, byts_len]) | (rw [lims_len]; rfl) | (rw [byts_len]; rfl) | (rw [us_len, us_len]; rfl) | rfl) (by first | exact lims_one _ _ | exact el_one _ | exact byts_one _ | exact us_one _ | (intro v hv; simp at hv; rcases hv with rfl | rfl | rfl | rfl <;> rfl)) ?_))
    refine Tx.start (fun w' => Below (W).heap.size (W) w') 4 5 rfl (by kernel_rfl) ?_
    have hS_6 : Below (W).heap.size (W) (World.drew W) := (Below.refl _ _).drew
    refine Tx.seg (A := ?_) 4 1 (by kernel_rfl) (by exact hS_6) [0] (by kernel_rfl) ?_ ?_
    rotate_left
    · intro w' hB
      have e0 := k1.below hB
      have e1 := k2.below hB
      have e2 := kG.below hB
      iterate 1 (first | (refine rd_skip rfl rfl ?_; simp only [Act.put, List.setIfInBounds_toArray, List.set_cons_zero, List.set_cons_succ]) | (refine rd_load_arr rfl rfl _ _ rfl _ rfl (by kernel_rfl) _ (by assumption) (by first | (rw [lims_len]; kernel_rfl) | (rw [el_rep]; kernel_rfl) | (rw [el_len]; kernel_rfl) | (rw [byts_len]; kernel_rfl) | (rw [us_len]; kernel_rfl) | kernel_rfl) ?_; simp only [Act.put, List.setIfInBounds_toArray, List.set_cons_zero, List.set_cons_succ]) | (refine rd_take (v := ?_) rfl rfl ?_ ?_; rotate_left; (focus (go_simp; try (with_reducible rfl))); simp only [Act.put, List.setIfInBounds_toArray, List.set_cons_zero, List.set_cons_succ]))
      exact rd_nil
    refine Tx.poolB 1 15 [(1, 6), (2, 7), (3, 4)] [(false, []), (false, [(1, 6)]), (false, [])] [(1, Ph.is (.agg (byts eN).toArray)), (2, Ph.is (.agg (el (rep X0)).toArray)), (3, Ph.arr (W).heap.size (el (List.replicate 16 0)))] (by kernel_rfl) (by kernel_rfl) (by first | assumption | exact (Below.refl _ _).drew) ?_ ?_
    · refine ⟨⟨_, rfl, ?_⟩, ⟨_, rfl, ?_⟩, ⟨_, rfl, ?_⟩, trivial⟩
      · intro vs w1 hS hE hD K hK
        clear hD
        simp only [fillL, Act.put, List.setIfInBounds_toArray, List.set_cons_zero, List.set_cons_succ] at hK ⊢
        go_simp
        refine (c0.out _).mono ?_
        rintro e w2 ⟨rfl, hb2⟩
        exact hK _ _ rfl hb2 nofun
      · intro vs w1 hS hE hD K hK
        obtain ⟨q1, -⟩ := hD
        simp only [fillL, Act.put, List.setIfInBounds_toArray, List.set_cons_zero, List.set_cons_succ] at hK ⊢
        rw [show vs 1 = _ from q1] at hK ⊢
        clear q1
        go_simp
        refine (c1.out _).mono ?_
        rintro e w2 ⟨rfl, hb2⟩
        exact hK _ _ rfl hb2 nofun
      · intro vs w1 hS hE hD K hK
        clear hD
        simp only [fillL, Act.put, List.setIfInBounds_toArray, List.set_cons_zero, List.set_cons_succ] at hK ⊢
        go_simp
        exact hK _ _ ⟨_, rfl, Nat.le_trans (by first | exact Nat.le_refl _ | omega | (simp; omega)) hE.size, Arr.new _ _ _⟩ (below_alloc _ _) (fun _ => ⟨_, rfl, Nat.le_refl _⟩)
    intro vs w_p1_6256 hS_p1_6256 hE_p1_6256 hP hD
    obtain ⟨q1, q2, q3, -⟩ := hP
    simp only [fillL, Act.put, List.setIfInBounds_toArray, List.set_cons_zero, List.set_cons_succ]
    rw [show vs 1 = _ from q1]
    clear q1
    rw [show vs 2 = _ from q2]
    clear q2
    obtain ⟨g3, e3, hg3, ha3⟩ := q3
    rw [e3]
    clear e3 hD vs
    have lt_k4_k1 := Nat.lt_of_lt_of_le k1.lt hg3
    have lt_k4_k2 := Nat.lt_of_lt_of_le k2.lt hg3
    have lt_k4_kG := Nat.lt_of_lt_of_le kG.lt hg3
    have k1 := k1.below hS_p1_6256
    have k2 := k2.below hS_p1_6256
    have kG := kG.below hS_p1_6256
    have kb := bel kb hS_p1_6256
    refine Tx.bar 31 rfl (by decide +kernel) (fun K hK => ?_)
    refine step_store_arr rfl _ _ _ rfl _ _ rfl rfl _ (by assumption) (by first | (rw [lims_len]; kernel_rfl) | (rw [el_rep]; kernel_rfl) | (rw [el_len]; kernel_rfl) | (rw [byts_len]; kernel_rfl) | (rw [us_len]; kernel_rfl) | kernel_rfl) (by first | (rw [lims_len, lims_len]) | (rw [el_rep, el_rep]) | (rw [el_rep, el_len]; rfl) | (rw [el_len, el_rep]; rfl) | (rw [el_len, el_len]; rfl) | (rw [byts_len, byts_len]) | (rw [lims_len]; rfl) | (rw [byts_len]; rfl) | (rw [us_len, us_len]; rfl) | rfl) (by first | exact lims_one _ _ | exact el_one _ | exact byts_one _ | exact us_one _ | (intro v hv; simp at hv; rcases hv with rfl | rfl | rfl | rfl <;> rfl)) ?_
    refine hK (fun _ => True) 9999 _ _ ?_
    clear hK K
    try simp only [Act.put]
    try simp only [List.setIfInBounds_toArray, List.set_cons_zero, List.set_cons_succ]
    refine Tx.done (by kernel_rfl) ?_
    refine then_row ha3 (fun w_7 ha3 hoth hbel => ?_)
    have k1 := hoth _ _ (by omega) k1
    have k2 := hoth _ _ (by omega) k2
    have kG := hoth _ _ (by omega) kG
    have kb := hbel _ _ (by omega) kb
    clear hoth hbel
    have k4 := ha3
    clear ha3
    generalize g3 = g_k4 at *
    go_upto_region 2 with (first | (refine wpList_load_arr2 rfl _ _ rfl _ rfl (by kernel_rfl) _ (by assumption) (by first | (rw [lims_len]; kernel_rfl) | (rw [el_rep]; kernel_rfl) | (rw [el_len]; kernel_rfl) | (rw [byts_len]; kernel_rfl) | (rw [us_len]; kernel_rfl) | kernel_rfl) ?_) | (refine wpList_store_arr rfl _ _ _ rfl _ _ rfl rfl _ (by first | assumption | exact Arr.new _ _ _) (by first | (rw [lims_len]; kernel_rfl) | (rw [el_rep]; kernel_rfl) | (rw [el_len]; kernel_rfl) | (rw [byts_len]; kernel_rfl) | (rw [us_len]; kernel_rfl) | kernel_rfl) (by first | (rw [lims_len, lims_len]) | (rw [el_rep, el_rep]) | (rw [el_rep, el_len]; rfl) | (rw [el_len, el_rep]; rfl) | (rw [el_len, el_len]; rfl) | (rw [byts_len, byts_len]) | (rw [lims_len]; rfl) | (rw [byts_len]; rfl) | (rw [us_len, us_len]; rfl) | rfl) (by first | exact lims_one _ _ | exact el_one _ | exact byts_one _ | exact us_one _ | (intro v hv; simp at hv; rcases hv with rfl | rfl | rfl | rfl <;> rfl)) ?_))
    refine Tx.start (fun w' => Below (w_7).heap.size (w_7) w') 9999 5 rfl (by kernel_rfl) ?_
    have hS_8 : Below (w_7).heap.size (w_7) (World.drew w_7) := (Below.refl _ _).drew
    refine Tx.seg (A := ?_) 2 11 (by kernel_rfl) (by exact hS_8) [0, 1, 3] (by kernel_rfl) ?_ ?_
    rotate_left
    · intro w' hB
      have e0 := k1.below hB
      have e1 := k2.below hB
      have e2 := k4.below hB
      have e3 := kG.below hB
      iterate 3 (first | (refine rd_skip rfl rfl ?_; simp only [Act.put, List.setIfInBounds_toArray, List.set_cons_zero, List.set_cons_succ]) | (refine rd_load_arr rfl rfl _ _ rfl _ rfl (by kernel_rfl) _ (by assumption) (by first | (rw [lims_len]; kernel_rfl) | (rw [el_rep]; kernel_rfl) | (rw [el_len]; kernel_rfl) | (rw [byts_len]; kernel_rfl) | (rw [us_len]; kernel_rfl) | kernel_rfl) ?_; simp only [Act.put, List.setIfInBounds_toArray, List.set_cons_zero, List.set_cons_succ]) | (refine rd_take (v := ?_) rfl rfl ?_ ?_; rotate_left; (focus (go_simp; try (with_reducible rfl))); simp only [Act.put, List.setIfInBounds_toArray, List.set_cons_zero, List.set_cons_succ]))
      exact rd_nil
    refine Tx.eff 2 15 rfl (by decide +kernel) (fun K hK => ?_)
    go_simp
    refine (c2.out _).mono ?_
    rintro e w_9 ⟨rfl, hb_9⟩
    have hS_9 := ext_trans hS_8 (Nat.le_refl _) hb_9
    refine hK (fun w' => Below (w_7).heap.size (w_7) w') _ _ hS_9 (fun _ h => h) ?_
    clear hK K hb_9 hS_8
    try simp only [Act.put, List.setIfInBounds_toArray, List.set_cons_zero, List.set_cons_succ]
    refine Tx.eff 4 31 rfl (by decide +kernel) (fun K hK => ?_)
    go_simp
    refine (c3.out _).mono ?_
    rintro e w_10 ⟨rfl, hb_10⟩
    have hS_10 := ext_trans hS_9 (Nat.le_refl _) hb_10
    refine hK (fun w' => Below (w_7).heap.size (w_7) w') _ _ hS_10 (fun _ h => h) ?_
    clear hK K hb_10 hS_9
    try simp only [Act.put, List.setIfInBounds_toArray, List.set_cons_zero, List.set_cons_succ]
    refine Tx.done (by kernel_rfl) ?_
    have k1 := k1.below hS_10
    have k2 := k2.below hS_10
    have k4 := k4.below hS_10
    have kG := kG.below hS_10
    have kb := bel kb hS_10
    clear hS_10
    rw [hds.out]
    go_wp2_with (first | (refine wpList_load_arr2 rfl _ _ rfl _ rfl (by kernel_rfl) _ (by assumption) (by first | (rw [lims_len]; kernel_rfl) | (rw [el_rep]; kernel_rfl) | (rw [el_len]; kernel_rfl) | (rw [byts_len]; kernel_rfl) | (rw [us_len]; kernel_rfl) | kernel_rfl) ?_) | (refine wpList_store_arr rfl _ _ _ rfl _ _ rfl rfl _ (by first | assumption | exact Arr.new _ _ _) (by first | (rw [lims_len]; kernel_rfl) | (rw [el_rep]; kernel_rfl) | (rw [el_len]; kernel_rfl) | (rw [byts_len]; kernel_rfl) | (rw [us_len]; kernel_rfl) | kernel_rfl) (by first | (rw [lims_len, lims_len]) | (rw [el_rep, el_rep]) | (rw [el_rep, el_len]; rfl) | (rw [el_len, el_rep]; rfl) | (rw [el_len, el_len]; rfl) | (rw [byts_len, byts_len]) | (rw [lims_len]; rfl) | (rw [byts_len]; rfl) | (rw [us_len, us_len]; rfl) | rfl) (by first | exact lims_one _ _ | exact el_one _ | exact byts_one _ | exact us_one _ | (intro v hv; simp at hv; rcases hv with rfl | rfl | rfl | rfl <;> rfl)) ?_))
    exact bodyPost_ret (results_arr_tmp Tryd.results33 _ _ _ _ rfl Tryd.underlying57 rfl _ (k2.setRow _) (by rw [el_rep]; kernel_rfl) _ rfl) rfl ⟨rfl, below_setRow kb (by omega) _⟩
  · have hrt : Nt.rtx pN eN iN a = x0 * iN % pN := by unfold Nt.rtx; dsimp only; rw [hx0, hs0, if_neg hs]
    rw [if_neg hs] at hrx
    rw [hrt] at hok hRE
    obtain ⟨x1, hx1⟩ : ∃ x, x0 * iN % pN = x := ⟨_, rfl⟩
    rw [hx1] at hok hRE
    have iE : EU iN iN := EU.of (n := iN) (by decide)
    obtain ⟨M1, hM1⟩ : ∃ M, mulU R R = M := ⟨_, rfl⟩
    have hME1 := mulE hRE hRE hM1
    have c4 := Lib.hid (fun w => rmul_u hxE iE (Lib.hid hrx) w)
    have c5 := Lib.hid (fun w => rmul_u hRE hRE (Lib.hid hM1) w)
    have c6 := fun w => rsame_u hME1 hx (Nat.mod_lt _ pN_pos) ha w
    rw [← hok] at c6
    replace c6 := Lib.hid c6
    have hds : decide (s0 = a) = false := decide_eq_false hs
    replace hds := Lib.hid hds
    clear hs hrt hok hRE hx0 hX0 hM0 hME ls0 hs0 mulE lx0 hxE hx ha hR hB hrx hx1 iE hM1 hME1
    go_enter Tryd.func33, Tryd.ntmps33
    go_upto_region 1 with fail
    refine wp_new2 (fun W hsz k1 k2 kb => ?_)
    have kG : Arr W _ (el (rep iN)) := kG.below kb
    have k2 : Arr W (w.heap.size + 1) (el (rep 0)) := k2
    clear hsz
    go_upto_region 1 with (first | (refine wpList_load_arr2 rfl _ _ rfl _ rfl (by kernel_rfl) _ (by assumption) (by first | (rw [lims_len]; kernel_rfl) | (rw [el_rep]; kernel_rfl) | (rw [el_len]; kernel_rfl) | (rw [byts_len]; kernel_rfl) | (rw [us_len]; kernel_rfl) | kernel_rfl) ?_) | (refine wpList_store_arr rfl _ _ _ rfl _ _ rfl rfl _ (by first | assumption | exact Arr.new _ _ _) (by first | (rw [lims_len]; kernel_rfl) | (rw [el_rep]; kernel_rfl) | (rw [el_len]; kernel_rfl) | (rw [byts_len]; kernel_rfl) | (rw [us_len]; kernel_rfl) | kernel_rfl) (by first | (rw [lims_len, lims_len]) | (rw [el_rep, el_rep]) | (rw [el_rep, el_len]; rfl) | (rw [el_len, el_rep]; rfl) | (rw [el_len, el_len]; rfl) | (rw [byts_len, byts_len]) | (rw [lims_len]; rfl) | (rw [byts_len]; rfl) | (rw [us_len, us_len]; rfl) | rfl) (by first | exact lims_one _ _ | exact el_one _ | exact byts_one _ | exact us_one _ | (intro v hv; simp at hv; rcases hv with rfl | rfl | rfl | rfl <;> rfl)) ?_))
    refine Tx.start (fun w' => Below (W).heap.size (W) w') 4 5 rfl (by kernel_rfl) ?_
    have hS_11 : Below (W).heap.size (W) (World.drew W) := (Below.refl _ _).drew
    refine Tx.seg (A := ?_) 4 1 (by kernel_rfl) (by exact hS_11) [0] (by kernel_rfl) ?_ ?_
    rotate_left
    · intro w' hB
      have e0 := k1.below hB
      have e1 := k2.below hB
      have e2 := kG.below hB
      iterate 1 (first | (refine rd_skip rfl rfl ?_; simp only [Act.put, List.setIfInBounds_toArray, List.set_cons_zero, List.set_cons_succ]) | (refine rd_load_arr rfl rfl _ _ rfl _ rfl (by kernel_rfl) _ (by assumption) (by first | (rw [lims_len]; kernel_rfl) | (rw [el_rep]; kernel_rfl) | (rw [el_len]; kernel_rfl) | (rw [byts_len]; kernel_rfl) | (rw [us_len]; kernel_rfl) | kernel_rfl) ?_; simp only [Act.put, List.setIfInBounds_toArray, List.set_cons_zero, List.set_cons_succ]) | (refine rd_take (v := ?_) rfl rfl ?_ ?_; rotate_left; (focus (go_simp; try (with_reducible rfl))); simp only [Act.put, List.setIfInBounds_toArray, List.set_cons_zero, List.set_cons_succ]))
      exact rd_nil
    refine Tx.poolB 1 15 [(1, 6), (2, 7), (3, 4)] [(false, []), (false, [(1, 6)]), (false, [])] [(1, Ph.is (.agg (byts eN).toArray)), (2, Ph.is (.agg (el (rep X0)).toArray)), (3, Ph.arr (W).heap.size (el (List.replicate 16 0)))] (by kernel_rfl) (by kernel_rfl) (by first | assumption | exact (Below.refl _ _).drew) ?_ ?_
    · refine ⟨⟨_, rfl, ?_⟩, ⟨_, rfl, ?_⟩, ⟨_, rfl, ?_⟩, trivial⟩
      · intro vs w1 hS hE hD K hK
        clear hD
        simp only [fillL, Act.put, List.setIfInBounds_toArray, List.set_cons_zero, List.set_cons_succ] at hK ⊢
        go_simp
        refine (c0.out _).mono ?_
        rintro e w2 ⟨rfl, hb2⟩
        exact hK _ _ rfl hb2 nofun
      · intro vs w1 hS hE hD K hK
        obtain ⟨q1, -⟩ := hD
        simp only [fillL, Act.put, List.setIfInBounds_toArray, List.set_cons_zero, List.set_cons_succ] at hK ⊢
        rw [show vs 1 = _ from q1] at hK ⊢
        clear q1
        go_simp
        refine (c1.out _).mono ?_
        rintro e w2 ⟨rfl, hb2⟩
        exact hK _ _ rfl hb2 nofun
      · intro vs w1 hS hE hD K hK
        clear hD
        simp only [fillL, Act.put, List.setIfInBounds_toArray, List.set_cons_zero, List.set_cons_succ] at hK ⊢
        go_simp
        exact hK _ _ ⟨_, rfl, Nat.le_trans (by first | exact Nat.le_refl _ | omega | (simp; omega)) hE.size, Arr.new _ _ _⟩ (below_alloc _ _) (fun _ => ⟨_, rfl, Nat.le_refl _⟩)
    intro vs w_p1_6496 hS_p1_6496 hE_p1_6496 hP hD
    obtain ⟨q1, q2, q3, -⟩ := hP
    simp only [fillL, Act.put, List.setIfInBounds_toArray, List.set_cons_zero, List.set_cons_succ]
    rw [show vs 1 = _ from q1]
    clear q1
    rw [show vs 2 = _ from q2]
    clear q2
    obtain ⟨g3, e3, hg3, ha3⟩ := q3
    rw [e3]
    clear e3 hD vs
    have lt_k4_k1 := Nat.lt_of_lt_of_le k1.lt hg3
    have lt_k4_k2 := Nat.lt_of_lt_of_le k2.lt hg3
    have lt_k4_kG := Nat.lt_of_lt_of_le kG.lt hg3
    have k1 := k1.below hS_p1_6496
    have k2 := k2.below hS_p1_6496
    have kG := kG.below hS_p1_6496
    have kb := bel kb hS_p1_6496
    refine Tx.bar 31 rfl (by decide +kernel) (fun K hK => ?_)
    refine step_store_arr rfl _ _ _ rfl _ _ rfl rfl _ (by assumption) (by first | (rw [lims_len]; kernel_rfl) | (rw [el_rep]; kernel_rfl) | (rw [el_len]; kernel_rfl) | (rw [byts_len]; kernel_rfl) | (rw [us_len]; kernel_rfl) | kernel_rfl) (by first | (rw [lims_len, lims_len]) | (rw [el_rep, el_rep]) | (rw [el_rep, el_len]; rfl) | (rw [el_len, el_rep]; rfl) | (rw [el_len, el_len]; rfl) | (rw [byts_len, byts_len]) | (rw [lims_len]; rfl) | (rw [byts_len]; rfl) | (rw [us_len, us_len]; rfl) | rfl) (by first | exact lims_one _ _ | exact el_one _ | exact byts_one _ | exact us_one _ | (intro v hv; simp at hv; rcases hv with rfl | rfl | rfl | rfl <;> rfl)) ?_
    refine hK (fun _ => True) 9999 _ _ ?_
    clear hK K
    try simp only [Act.put]
    try simp only [List.setIfInBounds_toArray, List.set_cons_zero, List.set_cons_succ]
    refine Tx.done (by kernel_rfl) ?_
    refine then_row ha3 (fun w_12 ha3 hoth hbel => ?_)
    have k1 := hoth _ _ (by omega) k1
    have k2 := hoth _ _ (by omega) k2
    have kG := hoth _ _ (by omega) kG
    have kb := hbel _ _ (by omega) kb
    clear hoth hbel
    have k4 := ha3
    clear ha3
    generalize g3 = g_k4 at *
    go_upto_region 2 with (first | (refine wpList_load_arr2 rfl _ _ rfl _ rfl (by kernel_rfl) _ (by assumption) (by first | (rw [lims_len]; kernel_rfl) | (rw [el_rep]; kernel_rfl) | (rw [el_len]; kernel_rfl) | (rw [byts_len]; kernel_rfl) | (rw [us_len]; kernel_rfl) | kernel_rfl) ?_) | (refine wpList_store_arr rfl _ _ _ rfl _ _ rfl rfl _ (by first | assumption | exact Arr.new _ _ _) (by first | (rw [lims_len]; kernel_rfl) | (rw [el_rep]; kernel_rfl) | (rw [el_len]; kernel_rfl) | (rw [byts_len]; kernel_rfl) | (rw [us_len]; kernel_rfl) | kernel_rfl) (by first | (rw [lims_len, lims_len]) | (rw [el_rep, el_rep]) | (rw [el_rep, el_len]; rfl) | (rw [el_len, el_rep]; rfl) | (rw [el_len, el_len]; rfl) | (rw [byts_len, byts_len]) | (rw [lims_len]; rfl) | (rw [byts_len]; rfl) | (rw [us_len, us_len]; rfl) | rfl) (by first | exact lims_one _ _ | exact el_one _ | exact byts_one _ | exact us_one _ | (intro v hv; simp at hv; rcases hv with rfl | rfl | rfl | rfl <;> rfl)) ?_))
    refine Tx.start (fun w' => Below (w_12).heap.size (w_12) w') 9999 5 rfl (by kernel_rfl) ?_
    have hS_13 : Below (w_12).heap.size (w_12) (World.drew w_12) := (Below.refl _ _).drew
    refine Tx.seg (A := ?_) 2 11 (by kernel_rfl) (by exact hS_13) [0, 1, 3] (by kernel_rfl) ?_ ?_
    rotate_left
    · intro w' hB
      have e0 := k1.below hB
      have e1 := k2.below hB
      have e2 := k4.below hB
      have e3 := kG.below hB
      iterate 3 (first | (refine rd_skip rfl rfl ?_; simp only [Act.put, List.setIfInBounds_toArray, List.set_cons_zero, List.set_cons_succ]) | (refine rd_load_arr rfl rfl _ _ rfl _ rfl (by kernel_rfl) _ (by assumption) (by first | (rw [lims_len]; kernel_rfl) | (rw [el_rep]; kernel_rfl) | (rw [el_len]; kernel_rfl) | (rw [byts_len]; kernel_rfl) | (rw [us_len]; kernel_rfl) | kernel_rfl) ?_; simp only [Act.put, List.setIfInBounds_toArray, List.set_cons_zero, List.set_cons_succ]) | (refine rd_take (v := ?_) rfl rfl ?_ ?_; rotate_left; (focus (go_simp; try (with_reducible rfl))); simp only [Act.put, List.setIfInBounds_toArray, List.set_cons_zero, List.set_cons_succ]))
      exact rd_nil
    refine Tx.eff 2 15 rfl (by decide +kernel) (fun K hK => ?_)
    go_simp
    refine (c2.out _).mono ?_
    rintro e w_14 ⟨rfl, hb_14⟩
    have hS_14 := ext_trans hS_13 (Nat.le_refl _) hb_14
    refine hK (fun w' => Below (w_12).heap.size (w_12) w') _ _ hS_14 (fun _ h => h) ?_
    clear hK K hb_14 hS_13
    try simp only [Act.put, List.setIfInBounds_toArray, List.set_cons_zero, List.set_cons_succ]
    refine Tx.eff 4 31 rfl (by decide +kernel) (fun K hK => ?_)
    go_simp
    refine (c3.out _).mono ?_
    rintro e w_15 ⟨rfl, hb_15⟩
    have hS_15 := ext_trans hS_14 (Nat.le_refl _) hb_15
    refine hK (fun w' => Below (w_12).heap.size (w_12) w') _ _ hS_15 (fun _ h => h) ?_
    clear hK K hb_15 hS_14
    try simp only [Act.put, List.setIfInBounds_toArray, List.set_cons_zero, List.set_cons_succ]
    refine Tx.done (by kernel_rfl) ?_
    have k1 := k1.below hS_15
    have k2 := k2.below hS_15
    have k4 := k4.below hS_15
    have kG := kG.below hS_15
    have kb := bel kb hS_15
    clear hS_15
    rw [hds.out]
    go_upto_region 4 with (first | (refine wpList_load_arr2 rfl _ _ rfl _ rfl (by kernel_rfl) _ (by assumption) (by first | (rw [lims_len]; kernel_rfl) | (rw [el_rep]; kernel_rfl) | (rw [el_len]; kernel_rfl) | (rw [byts_len]; kernel_rfl) | (rw [us_len]; kernel_rfl) | kernel_rfl) ?_) | (refine wpList_store_arr rfl _ _ _ rfl _ _ rfl rfl _ (by first | assumption | exact Arr.new _ _ _) (by first | (rw [lims_len]; kernel_rfl) | (rw [el_rep]; kernel_rfl) | (rw [el_len]; kernel_rfl) | (rw [byts_len]; kernel_rfl) | (rw [us_len]; kernel_rfl) | kernel_rfl) (by first | (rw [lims_len, lims_len]) | (rw [el_rep, el_rep]) | (rw [el_rep, el_len]; rfl) | (rw [el_len, el_rep]; rfl) | (rw [el_len, el_len]; rfl) | (rw [byts_len, byts_len]) | (rw [lims_len]; rfl) | (rw [byts_len]; rfl) | (rw [us_len, us_len]; rfl) | rfl) (by first | exact lims_one _ _ | exact el_one _ | exact byts_one _ | exact us_one _ | (intro v hv; simp at hv; rcases hv with rfl | rfl | rfl | rfl <;> rfl)) ?_))
    go_wp2_with (first | (refine wpList_load_arr2 rfl _ _ rfl _ rfl (by kernel_rfl) _ (by assumption) (by first | (rw [lims_len]; kernel_rfl) | (rw [el_rep]; kernel_rfl) | (rw [el_len]; kernel_rfl) | (rw [byts_len]; kernel_rfl) | (rw [us_len]; kernel_rfl) | kernel_rfl) ?_) | (refine wpList_store_arr rfl _ _ _ rfl _ _ rfl rfl _ (by first | assumption | exact Arr.new _ _ _) (by first | (rw [lims_len]; kernel_rfl) | (rw [el_rep]; kernel_rfl) | (rw [el_len]; kernel_rfl) | (rw [byts_len]; kernel_rfl) | (rw [us_len]; kernel_rfl) | kernel_rfl) (by first | (rw [lims_len, lims_len]) | (rw [el_rep, el_rep]) | (rw [el_rep, el_len]; rfl) | (rw [el_len, el_rep]; rfl) | (rw [el_len, el_len]; rfl) | (rw [byts_len, byts_len]) | (rw [lims_len]; rfl) | (rw [byts_len]; rfl) | (rw [us_len, us_len]; rfl) | rfl) (by first | exact lims_one _ _ | exact el_one _ | exact byts_one _ | exact us_one _ | (intro v hv; simp at hv; rcases hv with rfl | rfl | rfl | rfl <;> rfl)) ?_))
    refine (c4.out _).mono ?_
    rintro e w_16 ⟨rfl, hb_16⟩
    have k1 := k1.below hb_16
    have k2 := k2.below hb_16
    have k4 := k4.below hb_16
    have kG := kG.below hb_16
    have kb := bel kb hb_16
    clear hb_16
    go_upto_region 5 with (first | (refine wpList_load_arr2 rfl _ _ rfl _ rfl (by kernel_rfl) _ (by assumption) (by first | (rw [lims_len]; kernel_rfl) | (rw [el_rep]; kernel_rfl) | (rw [el_len]; kernel_rfl) | (rw [byts_len]; kernel_rfl) | (rw [us_len]; kernel_rfl) | kernel_rfl) ?_) | (refine wpList_store_arr rfl _ _ _ rfl _ _ rfl rfl _ (by first | assumption | exact Arr.new _ _ _) (by first | (rw [lims_len]; kernel_rfl) | (rw [el_rep]; kernel_rfl) | (rw [el_len]; kernel_rfl) | (rw [byts_len]; kernel_rfl) | (rw [us_len]; kernel_rfl) | kernel_rfl) (by first | (rw [lims_len, lims_len]) | (rw [el_rep, el_rep]) | (rw [el_rep, el_len]; rfl) | (rw [el_len, el_rep]; rfl) | (rw [el_len, el_len]; rfl) | (rw [byts_len, byts_len]) | (rw [lims_len]; rfl) | (rw [byts_len]; rfl) | (rw [us_len, us_len]; rfl) | rfl) (by first | exact lims_one _ _ | exact el_one _ | exact byts_one _ | exact us_one _ | (intro v hv; simp at hv; rcases hv with rfl | rfl | rfl | rfl <;> rfl)) ?_))
    refine code_row k4 (fun w_17 k4 hoth hbel => ?_)
    have k1 := hoth _ _ (by omega) k1
    have k2 := hoth _ _ (by omega) k2
    have kG := hoth _ _ (by omega) kG
    have kb := hbel _ _ (by omega) kb
    clear hoth hbel
    go_upto_region 5 with (first | (refine wpList_load_arr2 rfl _ _ rfl _ rfl (by kernel_rfl) _ (by assumption) (by first | (rw [lims_len]; kernel_rfl) | (rw [el_rep]; kernel_rfl) | (rw [el_len]; kernel_rfl) | (rw [byts_len]; kernel_rfl) | (rw [us_len]; kernel_rfl) | kernel_rfl) ?_) | (refine wpList_store_arr rfl _ _ _ rfl _ _ rfl rfl _ (by first | assumption | exact Arr.new _ _ _) (by first | (rw [lims_len]; kernel_rfl) | (rw [el_rep]; kernel_rfl) | (rw [el_len]; kernel_rfl) | (rw [byts_len]; kernel_rfl) | (rw [us_len]; kernel_rfl) | kernel_rfl) (by first | (rw [lims_len, lims_len]) | (rw [el_rep, el_rep]) | (rw [el_rep, el_len]; rfl) | (rw [el_len, el_rep]; rfl) | (rw [el_len, el_len]; rfl) | (rw [byts_len, byts_len]) | (rw [lims_len]; rfl) | (rw [byts_len]; rfl) | (rw [us_len, us_len]; rfl) | rfl) (by first | exact lims_one _ _ | exact el_one _ | exact byts_one _ | exact us_one _ | (intro v hv; simp at hv; rcases hv with rfl | rfl | rfl | rfl <;> rfl)) ?_))
    refine Tx.start (fun w' => Below (w_17).heap.size (w_17) w') 6 8 rfl (by kernel_rfl) ?_
    have hS_18 : Below (w_17).heap.size (w_17) (World.drew w_17) := (Below.refl _ _).drew
    refine Tx.seg2 (A := ?_) 4 23 (by kernel_rfl) (by exact hS_18) [0, 1, 2, 4] (by kernel_rfl) ?_ ?_
    rotate_left
    · intro w' hB
      have e0 := k1.below hB
      have e1 := k2.below hB
      have e2 := k4.below hB
      have e3 := kG.below hB
      iterate 4 (first | (refine rd_skip rfl rfl ?_; simp only [Act.put, List.setIfInBounds_toArray, List.set_cons_zero, List.set_cons_succ]) | (refine rd_load_arr rfl rfl _ _ rfl _ rfl (by kernel_rfl) _ (by assumption) (by first | (rw [lims_len]; kernel_rfl) | (rw [el_rep]; kernel_rfl) | (rw [el_len]; kernel_rfl) | (rw [byts_len]; kernel_rfl) | (rw [us_len]; kernel_rfl) | kernel_rfl) ?_; simp only [Act.put, List.setIfInBounds_toArray, List.set_cons_zero, List.set_cons_succ]) | (refine rd_take (v := ?_) rfl rfl ?_ ?_; rotate_left; (focus (go_simp; try (with_reducible rfl))); simp only [Act.put, List.setIfInBounds_toArray, List.set_cons_zero, List.set_cons_succ]))
      exact rd_nil
    refine Tx.eff 3 31 rfl (by decide +kernel) (fun K hK => ?_)
    go_simp
    refine (c5.out _).mono ?_
    rintro e w_19 ⟨rfl, hb_19⟩
    have hS_19 := ext_trans hS_18 (Nat.le_refl _) hb_19
    refine hK (fun w' => Below (w_17).heap.size (w_17) w') _ _ hS_19 (fun _ h => h) ?_
    clear hK K hb_19 hS_18
    try simp only [Act.put, List.setIfInBounds_toArray, List.set_cons_zero, List.set_cons_succ]
    refine Tx.eff 5 63 rfl (by decide +kernel) (fun K hK => ?_)
    go_simp
    refine (c6.out _).mono ?_
    rintro e w_20 ⟨rfl, hb_20⟩
    have hS_20 := ext_trans hS_19 (Nat.le_refl _) hb_20
    refine hK (fun w' => Below (w_17).heap.size (w_17) w') _ _ hS_20 (fun _ h => h) ?_
    clear hK K hb_20 hS_19
    try simp only [Act.put, List.setIfInBounds_toArray, List.set_cons_zero, List.set_cons_succ]
    have k1 := k1.below hS_20
    have k2 := k2.below hS_20
    have k4 := k4.below hS_20
    have kG := kG.below hS_20
    have kb := bel kb hS_20
    refine Tx.bar 127 rfl (by decide +kernel) (fun K hK => ?_)
    refine step_store_arr rfl _ _ _ rfl _ _ rfl rfl _ (by assumption) (by first | (rw [lims_len]; kernel_rfl) | (rw [el_rep]; kernel_rfl) | (rw [el_len]; kernel_rfl) | (rw [byts_len]; kernel_rfl) | (rw [us_len]; kernel_rfl) | kernel_rfl) (by first | (rw [lims_len, lims_len]) | (rw [el_rep, el_rep]) | (rw [el_rep, el_len]; rfl) | (rw [el_len, el_rep]; rfl) | (rw [el_len, el_len]; rfl) | (rw [byts_len, byts_len]) | (rw [lims_len]; rfl) | (rw [byts_len]; rfl) | (rw [us_len, us_len]; rfl) | rfl) (by first | exact lims_one _ _ | exact el_one _ | exact byts_one _ | exact us_one _ | (intro v hv; simp at hv; rcases hv with rfl | rfl | rfl | rfl <;> rfl)) ?_
    refine hK (fun _ => True) 9999 _ _ ?_
    clear hK K
    try simp only [Act.put]
    try simp only [List.setIfInBounds_toArray, List.set_cons_zero, List.set_cons_succ]
    refine Tx.seg2 (A := ?_) 0 255 (by kernel_rfl) (by exact trivial) [7] (by kernel_rfl) ?_ ?_
    rotate_left
    · intro w' hB
      iterate 1 (first | (refine rd_skip rfl rfl ?_; simp only [Act.put, List.setIfInBounds_toArray, List.set_cons_zero, List.set_cons_succ]) | (refine rd_load_arr rfl rfl _ _ rfl _ rfl (by kernel_rfl) _ (by assumption) (by first | (rw [lims_len]; kernel_rfl) | (rw [el_rep]; kernel_rfl) | (rw [el_len]; kernel_rfl) | (rw [byts_len]; kernel_rfl) | (rw [us_len]; kernel_rfl) | kernel_rfl) ?_; simp only [Act.put, List.setIfInBounds_toArray, List.set_cons_zero, List.set_cons_succ]) | (refine rd_take (v := ?_) rfl rfl ?_ ?_; rotate_left; (focus (go_simp; try (with_reducible rfl))); simp only [Act.put, List.setIfInBounds_toArray, List.set_cons_zero, List.set_cons_succ]))
      exact rd_nil
    refine Tx.done (by kernel_rfl) ?_
    first | refine then_row k2 (fun w_21 k2 hoth hbel => ?_) | refine inb_row k2 (fun w_21 k2 hoth hbel => ?_)
    have k1 := hoth _ _ (by omega) k1
    have k4 := hoth _ _ (by omega) k4
    have kG := hoth _ _ (by omega) kG
    have kb := hbel _ _ (by omega) kb
    clear hoth hbel
    go_wp2_with fail
    exact bodyPost_ret (results_arr_tmp Tryd.results33 _ _ _ _ rfl Tryd.underlying57 rfl _ k2 (by rw [el_rep]; kernel_rfl) _ rfl) rfl ⟨rfl, kb⟩

theorem rsub0_u {b : Nat} {V R : Int} (hy : EU b V) (hR : Hid (fv 0 - fv V = R)) (w : World) :
    Calls Tryd.prog 36 #[.agg #[.int .i64 0, .int .i64 0, .int .i64 0, .int .i64 0, .int .i64 0, .int .i64 0, .int .i64 0, .int .i64 0, .int .i64 0, .int .i64 0, .int .i64 0, .int .i64 0, .int .i64 0, .int .i64 0, .int .i64 0, .int .i64 0], .agg (el (rep V)).toArray] w fun e w' => e = .returned (.agg (el (rep R)).toArray) ∧ Below w.heap.size w w' := by
  have := rsub_u (EU.of (n := 0) (by decide)) hy hR w
  rw [show ((0 : Nat) : Int) = 0 from rfl, rep_zero] at this
  exact this

set_option maxHeartbeats 4000000 in
set_option maxRecDepth 100000 in
theorem rRoot_r {a c v : Nat} {B : Bool} (hc : Hid (a % pN = c)) (hB : Hid (Nt.rtok pN eN iN c = B)) (hv : Hid (Nt.rtv pN eN iN c = v)) (ha : a < 256 ^ 32) (w : World) (kG : Arr w 1 (el (rep iN))) :
    Calls Tryd.prog 17 #[.agg (byts a).toArray] w fun e w' => e = .returned (.tuple #[.agg (byts v).toArray, .bool B]) ∧ Below w.heap.size w w' := by
  have hG1 := kG.lt
  have hcp : c < pN := hc.out ▸ Nat.mod_lt _ pN_pos
  have hE : EU c a := El.cong (EU.of ha) (by rw [← hc.out, Int.natCast_emod, Int.emod_emod])
  obtain ⟨R, hR⟩ : ∃ R, rtU a c = R := ⟨_, rfl⟩
  have hRE := rtU_eu hE
  rw [hR] at hRE
  obtain ⟨X, hX⟩ : ∃ X, Nt.rtx pN eN iN c = X := ⟨_, rfl⟩
  have hXp : X < pN := hX ▸ Nt.rtx_lt pN_pos c
  have hvv := hv.out
  unfold Nt.rtv at hvv
  rw [hX, hB.out] at hvv
  rw [hX] at hRE
  have hX32 : X < 256 ^ 32 := Nat.lt_trans hXp (by decide)
  have c0 := Lib.hid (fun w => rin_any a ha w)
  have c1 := Lib.hid (fun w kG => rroot_u hE hcp (Lib.hid hR) hB w kG)
  have c2 := Lib.hid (fun w => rout_el (r := X) hRE (by rw [← Int.natCast_emod, Nat.mod_eq_of_lt hXp]) w)
  obtain ⟨Q, hQ⟩ : ∃ Q, fv 0 - fv R = Q := ⟨_, rfl⟩
  have c3 := Lib.hid (fun w => rsub0_u hRE (Lib.hid hQ) w)
  have hQE : EU ((0 : Nat) - (X : Int)) Q := by
    have := EU.sub (EU.of (n := 0) (by decide)) hRE
    rw [show fv ((0 : Nat) : Int) = fv 0 from rfl, hQ] at this
    exact this
  have hneg : X % 2 = 1 → ((0 : Nat) - (X : Int)) % pN = ((pN - X : Nat) : Int) := by
    intro h
    have h1 := sub_modZ 0 X
    rw [Nat.zero_mod, Nat.zero_add, Nat.mod_eq_of_lt hXp, Nat.mod_eq_of_lt (a := pN - X) (by omega)] at h1
    exact h1
  have c4 := Lib.hid (fun h w => rout_el (r := pN - X) hQE (hneg h) w)
  have b0 := Lib.hid byts_0
  cases B
  · have hv0 : v = 0 := by rw [← hvv]; rfl
    subst hv0
    clear c2 c3 c4 hneg hQE hQ hX32 hvv hXp hX hRE hR hE hcp hc hB hv ha
    go_enter Tryd.func17, Tryd.ntmps17
    go_upto_region 1 with fail
    refine wp_new2 (fun W hsz k1 k2 kb => ?_)
    have kG : Arr W _ (el (rep iN)) := kG.below kb
    have k2 : Arr W (w.heap.size + 1) (byts 0) := k2
    clear hsz
    go_upto_region 1 with (first | (refine wpList_load_arr2 rfl _ _ rfl _ rfl (by kernel_rfl) _ (by assumption) (by first | (rw [lims_len]; kernel_rfl) | (rw [el_rep]; kernel_rfl) | (rw [el_len]; kernel_rfl) | (rw [byts_len]; kernel_rfl) | (rw [us_len]; kernel_rfl) | kernel_rfl) ?_) | (refine wpList_store_arr rfl _ _ _ rfl _ _ rfl rfl _ (by first | assumption | exact Arr.new _ _ _) (by first | (rw [lims_len]; kernel_rfl) | (rw [el_rep]; kernel_rfl) | (rw [el_len]; kernel_rfl) | (rw [byts_len]; kernel_rfl) | (rw [us_len]; kernel_rfl) | kernel_rfl) (by first | (rw [lims_len, lims_len]) | (rw [el_rep, el_rep]) | (rw [el_rep, el_len]; rfl) | (rw [el_len, el_rep]; rfl) | (rw [el_len, el_len]; rfl) | (rw [byts_len, byts_len]) | (rw [lims_len]; rfl) | (rw [byts_len]; rfl) | (rw [us_len, us_len]; rfl) | rfl) (by first | exact lims_one _ _ | exact el_one _ | exact byts_one _ | exact us_one _ | (intro v hv; simp at hv; rcases hv with rfl | rfl | rfl | rfl <;> rfl)) ?_))
    go_wp2_with (first | (refine wpList_load_arr2 rfl _ _ rfl _ rfl (by kernel_rfl) _ (by assumption) (by first | (rw [lims_len]; kernel_rfl) | (rw [el_rep]; kernel_rfl) | (rw [el_len]; kernel_rfl) | (rw [byts_len]; kernel_rfl) | (rw [us_len]; kernel_rfl) | kernel_rfl) ?_) | (refine wpList_store_arr rfl _ _ _ rfl _ _ rfl rfl _ (by first | assumption | exact Arr.new _ _ _) (by first | (rw [lims_len]; kernel_rfl) | (rw [el_rep]; kernel_rfl) | (rw [el_len]; kernel_rfl) | (rw [byts_len]; kernel_rfl) | (rw [us_len]; kernel_rfl) | kernel_rfl) (by first | (rw [lims_len, lims_len]) | (rw [el_rep, el_rep]) | (rw [el_rep, el_len]; rfl) | (rw [el_len, el_rep]; rfl) | (rw [el_len, el_len]; rfl) | (rw [byts_len, byts_len]) | (rw [lims_len]; rfl) | (rw [byts_len]; rfl) | (rw [us_len, us_len]; rfl) | rfl) (by first | exact lims_one _ _ | exact el_one _ | exact byts_one _ | exact us_one _ | (intro v hv; simp at hv; rcases hv with rfl | rfl | rfl | rfl <;> rfl)) ?_))
    refine (c0.out _).mono ?_
    rintro e w_22 ⟨rfl, hb_22⟩
    have k1 := k1.below hb_22
    have k2 := k2.below hb_22
    have kG := kG.below hb_22
    have kb := bel kb hb_22
    clear hb_22
    go_wp2_with (first | (refine wpList_load_arr2 rfl _ _ rfl _ rfl (by kernel_rfl) _ (by assumption) (by first | (rw [lims_len]; kernel_rfl) | (rw [el_rep]; kernel_rfl) | (rw [el_len]; kernel_rfl) | (rw [byts_len]; kernel_rfl) | (rw [us_len]; kernel_rfl) | kernel_rfl) ?_) | (refine wpList_store_arr rfl _ _ _ rfl _ _ rfl rfl _ (by first | assumption | exact Arr.new _ _ _) (by first | (rw [lims_len]; kernel_rfl) | (rw [el_rep]; kernel_rfl) | (rw [el_len]; kernel_rfl) | (rw [byts_len]; kernel_rfl) | (rw [us_len]; kernel_rfl) | kernel_rfl) (by first | (rw [lims_len, lims_len]) | (rw [el_rep, el_rep]) | (rw [el_rep, el_len]; rfl) | (rw [el_len, el_rep]; rfl) | (rw [el_len, el_len]; rfl) | (rw [byts_len, byts_len]) | (rw [lims_len]; rfl) | (rw [byts_len]; rfl) | (rw [us_len, us_len]; rfl) | rfl) (by first | exact lims_one _ _ | exact el_one _ | exact byts_one _ | exact us_one _ | (intro v hv; simp at hv; rcases hv with rfl | rfl | rfl | rfl <;> rfl)) ?_))
    refine (c1.out _ kG).mono ?_
    rintro e w_23 ⟨rfl, hb_23⟩
    have k1 := k1.below hb_23
    have k2 := k2.below hb_23
    have kG := kG.below hb_23
    have kb := bel kb hb_23
    clear hb_23
    go_upto_region 2 with (first | (refine wpList_load_arr2 rfl _ _ rfl _ rfl (by kernel_rfl) _ (by assumption) (by first | (rw [lims_len]; kernel_rfl) | (rw [el_rep]; kernel_rfl) | (rw [el_len]; kernel_rfl) | (rw [byts_len]; kernel_rfl) | (rw [us_len]; kernel_rfl) | kernel_rfl) ?_) | (refine wpList_store_arr rfl _ _ _ rfl _ _ rfl rfl _ (by first | assumption | exact Arr.new _ _ _) (by first | (rw [lims_len]; kernel_rfl) | (rw [el_rep]; kernel_rfl) | (rw [el_len]; kernel_rfl) | (rw [byts_len]; kernel_rfl) | (rw [us_len]; kernel_rfl) | kernel_rfl) (by first | (rw [lims_len, lims_len]) | (rw [el_rep, el_rep]) | (rw [el_rep, el_len]; rfl) | (rw [el_len, el_rep]; rfl) | (rw [el_len, el_len]; rfl) | (rw [byts_len, byts_len]) | (rw [lims_len]; rfl) | (rw [byts_len]; rfl) | (rw [us_len, us_len]; rfl) | rfl) (by first | exact lims_one _ _ | exact el_one _ | exact byts_one _ | exact us_one _ | (intro v hv; simp at hv; rcases hv with rfl | rfl | rfl | rfl <;> rfl)) ?_))
    have hg_k4_k1 := k1.lt
    have hg_k4_k2 := k2.lt
    have hg_k4_kG := kG.lt
    refine code_new (fun w_24 k4 hnew => ?_)
    have k1 := k1.below hnew
    have k2 := k2.below hnew
    have kG := kG.below hnew
    have kb := bel kb hnew
    clear hnew
    generalize (w_23).heap.size = g_k4 at k4 hg_k4_k1 hg_k4_k2 hg_k4_kG ⊢
    go_wp2_with (first | (refine wpList_load_arr2 rfl _ _ rfl _ rfl (by kernel_rfl) _ (by assumption) (by first | (rw [lims_len]; kernel_rfl) | (rw [el_rep]; kernel_rfl) | (rw [el_len]; kernel_rfl) | (rw [byts_len]; kernel_rfl) | (rw [us_len]; kernel_rfl) | kernel_rfl) ?_) | (refine wpList_store_arr rfl _ _ _ rfl _ (byts 0) rfl (by rw [b0.out]; rfl) _ k2 (by rw [byts_len]; kernel_rfl) rfl (byts_one _) ?_))
    exact bodyPost_ret (results_arr_tmp Tryd.results17 _ _ _ _ rfl Tryd.underlying25 rfl _ (k2.setRow _) (by rw [byts_len]; kernel_rfl) _ rfl) rfl ⟨rfl, below_setRow kb (by omega) _⟩
  · rw [if_pos rfl] at hvv
    obtain ⟨d, hd⟩ : ∃ d, X / 256 ^ 0 % 256 = d := ⟨_, rfl⟩
    have hdl : d < 256 := hd ▸ Nat.mod_lt _ (by decide)
    have hand := and_u8_one d hdl
    have gd := byts_get X 0 (by decide)
    rw [hd] at gd
    have hd2 : d % 2 = X % 2 := by rw [← hd]; omega
    rw [hd2] at hand
    replace gd := Lib.hid gd
    by_cases hodd : X % 2 = 1
    · rw [hodd] at hand
      rw [if_pos hodd] at hvv
      have c4 := Lib.hid (fun w => c4.out hodd w)
      subst hvv
      clear hneg hQE hQ hX32 hXp hX hRE hR hE hcp hc hB hv ha hd hodd hd2
      go_enter Tryd.func17, Tryd.ntmps17
      go_upto_region 1 with fail
      refine wp_new2 (fun W hsz k1 k2 kb => ?_)
      have kG : Arr W _ (el (rep iN)) := kG.below kb
      have k2 : Arr W (w.heap.size + 1) (byts 0) := k2
      clear hsz
      go_upto_region 1 with (first | (refine wpList_load_arr2 rfl _ _ rfl _ rfl (by kernel_rfl) _ (by assumption) (by first | (rw [lims_len]; kernel_rfl) | (rw [el_rep]; kernel_rfl) | (rw [el_len]; kernel_rfl) | (rw [byts_len]; kernel_rfl) | (rw [us_len]; kernel_rfl) | kernel_rfl) ?_) | (refine wpList_store_arr rfl _ _ _ rfl _ _ rfl rfl _ (by first | assumption | exact Arr.new _ _ _) (by first | (rw [lims_len]; kernel_rfl) | (rw [el_rep]; kernel_rfl) | (rw [el_len]; kernel_rfl) | (rw [byts_len]; kernel_rfl) | (rw [us_len]; kernel_rfl) | kernel_rfl) (by first | (rw [lims_len, lims_len]) | (rw [el_rep, el_rep]) | (rw [el_rep, el_len]; rfl) | (rw [el_len, el_rep]; rfl) | (rw [el_len, el_len]; rfl) | (rw [byts_len, byts_len]) | (rw [lims_len]; rfl) | (rw [byts_len]; rfl) | (rw [us_len, us_len]; rfl) | rfl) (by first | exact lims_one _ _ | exact el_one _ | exact byts_one _ | exact us_one _ | (intro v hv; simp at hv; rcases hv with rfl | rfl | rfl | rfl <;> rfl)) ?_))
      go_wp2_with (first | (refine wpList_load_arr2 rfl _ _ rfl _ rfl (by kernel_rfl) _ (by assumption) (by first | (rw [lims_len]; kernel_rfl) | (rw [el_rep]; kernel_rfl) | (rw [el_len]; kernel_rfl) | (rw [byts_len]; kernel_rfl) | (rw [us_len]; kernel_rfl) | kernel_rfl) ?_) | (refine wpList_store_arr rfl _ _ _ rfl _ _ rfl rfl _ (by first | assumption | exact Arr.new _ _ _) (by first | (rw [lims_len]; kernel_rfl) | (rw [el_rep]; kernel_rfl) | (rw [el_len]; kernel_rfl) | (rw [byts_len]; kernel_rfl) | (rw [us_len]; kernel_rfl) | kernel_rfl) (by first | (rw [lims_len, lims_len]) | (rw [el_rep, el_rep]) | (rw [el_rep, el_len]; rfl) | (rw [el_len, el_rep]; rfl) | (rw [el_len, el_len]; rfl) | (rw [byts_len, byts_len]) | (rw [lims_len]; rfl) | (rw [byts_len]; rfl) | (rw [us_len, us_len]; rfl) | rfl) (by first | exact lims_one _ _ | exact el_one _ | exact byts_one _ | exact us_one _ | (intro v hv; simp at hv; rcases hv with rfl | rfl | rfl | rfl <;> rfl)) ?_))
      refine (c0.out _).mono ?_
      rintro e w_25 ⟨rfl, hb_25⟩
      have k1 := k1.below hb_25
      have k2 := k2.below hb_25
      have kG := kG.below hb_25
      have kb := bel kb hb_25
      clear hb_25
      go_wp2_with (first | (refine wpList_load_arr2 rfl _ _ rfl _ rfl (by kernel_rfl) _ (by assumption) (by first | (rw [lims_len]; kernel_rfl) | (rw [el_rep]; kernel_rfl) | (rw [el_len]; kernel_rfl) | (rw [byts_len]; kernel_rfl) | (rw [us_len]; kernel_rfl) | kernel_rfl) ?_) | (refine wpList_store_arr rfl _ _ _ rfl _ _ rfl rfl _ (by first | assumption | exact Arr.new _ _ _) (by first | (rw [lims_len]; kernel_rfl) | (rw [el_rep]; kernel_rfl) | (rw [el_len]; kernel_rfl) | (rw [byts_len]; kernel_rfl) | (rw [us_len]; kernel_rfl) | kernel_rfl) (by first | (rw [lims_len, lims_len]) | (rw [el_rep, el_rep]) | (rw [el_rep, el_len]; rfl) | (rw [el_len, el_rep]; rfl) | (rw [el_len, el_len]; rfl) | (rw [byts_len, byts_len]) | (rw [lims_len]; rfl) | (rw [byts_len]; rfl) | (rw [us_len, us_len]; rfl) | rfl) (by first | exact lims_one _ _ | exact el_one _ | exact byts_one _ | exact us_one _ | (intro v hv; simp at hv; rcases hv with rfl | rfl | rfl | rfl <;> rfl)) ?_))
      refine (c1.out _ kG).mono ?_
      rintro e w_26 ⟨rfl, hb_26⟩
      have k1 := k1.below hb_26
      have k2 := k2.below hb_26
      have kG := kG.below hb_26
      have kb := bel kb hb_26
      clear hb_26
      go_upto_region 2 with (first | (refine wpList_load_arr2 rfl _ _ rfl _ rfl (by kernel_rfl) _ (by assumption) (by first | (rw [lims_len]; kernel_rfl) | (rw [el_rep]; kernel_rfl) | (rw [el_len]; kernel_rfl) | (rw [byts_len]; kernel_rfl) | (rw [us_len]; kernel_rfl) | kernel_rfl) ?_) | (refine wpList_store_arr rfl _ _ _ rfl _ _ rfl rfl _ (by first | assumption | exact Arr.new _ _ _) (by first | (rw [lims_len]; kernel_rfl) | (rw [el_rep]; kernel_rfl) | (rw [el_len]; kernel_rfl) | (rw [byts_len]; kernel_rfl) | (rw [us_len]; kernel_rfl) | kernel_rfl) (by first | (rw [lims_len, lims_len]) | (rw [el_rep, el_rep]) | (rw [el_rep, el_len]; rfl) | (rw [el_len, el_rep]; rfl) | (rw [el_len, el_len]; rfl) | (rw [byts_len, byts_len]) | (rw [lims_len]; rfl) | (rw [byts_len]; rfl) | (rw [us_len, us_len]; rfl) | rfl) (by first | exact lims_one _ _ | exact el_one _ | exact byts_one _ | exact us_one _ | (intro v hv; simp at hv; rcases hv with rfl | rfl | rfl | rfl <;> rfl)) ?_))
      have hg_k4_k1 := k1.lt
      have hg_k4_k2 := k2.lt
      have hg_k4_kG := kG.lt
      refine code_new (fun w_27 k4 hnew => ?_)
      have k1 := k1.below hnew
      have k2 := k2.below hnew
      have kG := kG.below hnew
      have kb := bel kb hnew
      clear hnew
      generalize (w_26).heap.size = g_k4 at k4 hg_k4_k1 hg_k4_k2 hg_k4_kG ⊢
      go_upto_region 4 with (first | (refine wpList_load_arr2 rfl _ _ rfl _ rfl (by kernel_rfl) _ (by assumption) (by first | (rw [lims_len]; kernel_rfl) | (rw [el_rep]; kernel_rfl) | (rw [el_len]; kernel_rfl) | (rw [byts_len]; kernel_rfl) | (rw [us_len]; kernel_rfl) | kernel_rfl) ?_) | (refine wpList_store_arr rfl _ _ _ rfl _ _ rfl rfl _ (by first | assumption | exact Arr.new _ _ _) (by first | (rw [lims_len]; kernel_rfl) | (rw [el_rep]; kernel_rfl) | (rw [el_len]; kernel_rfl) | (rw [byts_len]; kernel_rfl) | (rw [us_len]; kernel_rfl) | kernel_rfl) (by first | (rw [lims_len, lims_len]) | (rw [el_rep, el_rep]) | (rw [el_rep, el_len]; rfl) | (rw [el_len, el_rep]; rfl) | (rw [el_len, el_len]; rfl) | (rw [byts_len, byts_len]) | (rw [lims_len]; rfl) | (rw [byts_len]; rfl) | (rw [us_len, us_len]; rfl) | rfl) (by first | exact lims_one _ _ | exact el_one _ | exact byts_one _ | exact us_one _ | (intro v hv; simp at hv; rcases hv with rfl | rfl | rfl | rfl <;> rfl)) ?_))
      go_wp2_with (first | (refine wpList_load_arr2 rfl _ _ rfl _ rfl (by kernel_rfl) _ (by assumption) (by first | (rw [lims_len]; kernel_rfl) | (rw [el_rep]; kernel_rfl) | (rw [el_len]; kernel_rfl) | (rw [byts_len]; kernel_rfl) | (rw [us_len]; kernel_rfl) | kernel_rfl) ?_) | (refine wpList_store_arr rfl _ _ _ rfl _ _ rfl rfl _ (by first | assumption | exact Arr.new _ _ _) (by first | (rw [lims_len]; kernel_rfl) | (rw [el_rep]; kernel_rfl) | (rw [el_len]; kernel_rfl) | (rw [byts_len]; kernel_rfl) | (rw [us_len]; kernel_rfl) | kernel_rfl) (by first | (rw [lims_len, lims_len]) | (rw [el_rep, el_rep]) | (rw [el_rep, el_len]; rfl) | (rw [el_len, el_rep]; rfl) | (rw [el_len, el_len]; rfl) | (rw [byts_len, byts_len]) | (rw [lims_len]; rfl) | (rw [byts_len]; rfl) | (rw [us_len, us_len]; rfl) | rfl) (by first | exact lims_one _ _ | exact el_one _ | exact byts_one _ | exact us_one _ | (intro v hv; simp at hv; rcases hv with rfl | rfl | rfl | rfl <;> rfl)) ?_))
      refine (c2.out _).mono ?_
      rintro e w_28 ⟨rfl, hb_28⟩
      have k2 := k2.below hb_28
      have k4 := k4.below hb_28
      have kb := bel kb hb_28
      clear hb_28
      go_upto_region 5 with (first | (refine wpList_load_arr2 rfl _ _ rfl _ rfl (by kernel_rfl) _ (by assumption) (by first | (rw [lims_len]; kernel_rfl) | (rw [el_rep]; kernel_rfl) | (rw [el_len]; kernel_rfl) | (rw [byts_len]; kernel_rfl) | (rw [us_len]; kernel_rfl) | kernel_rfl) ?_) | (refine wpList_store_arr rfl _ _ _ rfl _ _ rfl rfl _ (by first | assumption | exact Arr.new _ _ _) (by first | (rw [lims_len]; kernel_rfl) | (rw [el_rep]; kernel_rfl) | (rw [el_len]; kernel_rfl) | (rw [byts_len]; kernel_rfl) | (rw [us_len]; kernel_rfl) | kernel_rfl) (by first | (rw [lims_len, lims_len]) | (rw [el_rep, el_rep]) | (rw [el_rep, el_len]; rfl) | (rw [el_len, el_rep]; rfl) | (rw [el_len, el_len]; rfl) | (rw [byts_len, byts_len]) | (rw [lims_len]; rfl) | (rw [byts_len]; rfl) | (rw [us_len, us_len]; rfl) | rfl) (by first | exact lims_one _ _ | exact el_one _ | exact byts_one _ | exact us_one _ | (intro v hv; simp at hv; rcases hv with rfl | rfl | rfl | rfl <;> rfl)) ?_))
      have hg_k6_k2 := k2.lt
      have hg_k6_k4 := k4.lt
      refine code_new (fun w_29 k6 hnew => ?_)
      have k2 := k2.below hnew
      have k4 := k4.below hnew
      have kb := bel kb hnew
      clear hnew
      generalize (w_28).heap.size = g_k6 at k6 hg_k6_k2 hg_k6_k4 ⊢
      have hcel := k6.cell gd.out
      go_upto_region 6 with fail
      go_upto_region 6 with (first | (refine wpList_load_arr2 rfl _ _ rfl _ rfl (by kernel_rfl) _ (by assumption) (by first | (rw [lims_len]; kernel_rfl) | (rw [el_rep]; kernel_rfl) | (rw [el_len]; kernel_rfl) | (rw [byts_len]; kernel_rfl) | (rw [us_len]; kernel_rfl) | kernel_rfl) ?_) | (refine wpList_store_arr rfl _ _ _ rfl _ _ rfl rfl _ (by first | assumption | exact Arr.new _ _ _) (by first | (rw [lims_len]; kernel_rfl) | (rw [el_rep]; kernel_rfl) | (rw [el_len]; kernel_rfl) | (rw [byts_len]; kernel_rfl) | (rw [us_len]; kernel_rfl) | kernel_rfl) (by first | (rw [lims_len, lims_len]) | (rw [el_rep, el_rep]) | (rw [el_rep, el_len]; rfl) | (rw [el_len, el_rep]; rfl) | (rw [el_len, el_len]; rfl) | (rw [byts_len, byts_len]) | (rw [lims_len]; rfl) | (rw [byts_len]; rfl) | (rw [us_len, us_len]; rfl) | rfl) (by first | exact lims_one _ _ | exact el_one _ | exact byts_one _ | exact us_one _ | (intro v hv; simp at hv; rcases hv with rfl | rfl | rfl | rfl <;> rfl)) ?_))
      go_wp2_with (first | (refine wpList_load_arr2 rfl _ _ rfl _ rfl (by kernel_rfl) _ (by assumption) (by first | (rw [lims_len]; kernel_rfl) | (rw [el_rep]; kernel_rfl) | (rw [el_len]; kernel_rfl) | (rw [byts_len]; kernel_rfl) | (rw [us_len]; kernel_rfl) | kernel_rfl) ?_) | (refine wpList_store_arr rfl _ _ _ rfl _ _ rfl rfl _ (by first | assumption | exact Arr.new _ _ _) (by first | (rw [lims_len]; kernel_rfl) | (rw [el_rep]; kernel_rfl) | (rw [el_len]; kernel_rfl) | (rw [byts_len]; kernel_rfl) | (rw [us_len]; kernel_rfl) | kernel_rfl) (by first | (rw [lims_len, lims_len]) | (rw [el_rep, el_rep]) | (rw [el_rep, el_len]; rfl) | (rw [el_len, el_rep]; rfl) | (rw [el_len, el_len]; rfl) | (rw [byts_len, byts_len]) | (rw [lims_len]; rfl) | (rw [byts_len]; rfl) | (rw [us_len, us_len]; rfl) | rfl) (by first | exact lims_one _ _ | exact el_one _ | exact byts_one _ | exact us_one _ | (intro v hv; simp at hv; rcases hv with rfl | rfl | rfl | rfl <;> rfl)) ?_))
      refine (c3.out _).mono ?_
      rintro e w_30 ⟨rfl, hb_30⟩
      have k2 := k2.below hb_30
      have k4 := k4.below hb_30
      have k6 := k6.below hb_30
      have kb := bel kb hb_30
      clear hb_30
      go_wp2_with (first | (refine wpList_load_arr2 rfl _ _ rfl _ rfl (by kernel_rfl) _ (by assumption) (by first | (rw [lims_len]; kernel_rfl) | (rw [el_rep]; kernel_rfl) | (rw [el_len]; kernel_rfl) | (rw [byts_len]; kernel_rfl) | (rw [us_len]; kernel_rfl) | kernel_rfl) ?_) | (refine wpList_store_arr rfl _ _ _ rfl _ _ rfl rfl _ (by first | assumption | exact Arr.new _ _ _) (by first | (rw [lims_len]; kernel_rfl) | (rw [el_rep]; kernel_rfl) | (rw [el_len]; kernel_rfl) | (rw [byts_len]; kernel_rfl) | (rw [us_len]; kernel_rfl) | kernel_rfl) (by first | (rw [lims_len, lims_len]) | (rw [el_rep, el_rep]) | (rw [el_rep, el_len]; rfl) | (rw [el_len, el_rep]; rfl) | (rw [el_len, el_len]; rfl) | (rw [byts_len, byts_len]) | (rw [lims_len]; rfl) | (rw [byts_len]; rfl) | (rw [us_len, us_len]; rfl) | rfl) (by first | exact lims_one _ _ | exact el_one _ | exact byts_one _ | exact us_one _ | (intro v hv; simp at hv; rcases hv with rfl | rfl | rfl | rfl <;> rfl)) ?_))
      refine (c4.out _).mono ?_
      rintro e w_31 ⟨rfl, hb_31⟩
      have k2 := k2.below hb_31
      have k4 := k4.below hb_31
      have k6 := k6.below hb_31
      have kb := bel kb hb_31
      clear hb_31
      go_upto_region 7 with (first | (refine wpList_load_arr2 rfl _ _ rfl _ rfl (by kernel_rfl) _ (by assumption) (by first | (rw [lims_len]; kernel_rfl) | (rw [el_rep]; kernel_rfl) | (rw [el_len]; kernel_rfl) | (rw [byts_len]; kernel_rfl) | (rw [us_len]; kernel_rfl) | kernel_rfl) ?_) | (refine wpList_store_arr rfl _ _ _ rfl _ _ rfl rfl _ (by first | assumption | exact Arr.new _ _ _) (by first | (rw [lims_len]; kernel_rfl) | (rw [el_rep]; kernel_rfl) | (rw [el_len]; kernel_rfl) | (rw [byts_len]; kernel_rfl) | (rw [us_len]; kernel_rfl) | kernel_rfl) (by first | (rw [lims_len, lims_len]) | (rw [el_rep, el_rep]) | (rw [el_rep, el_len]; rfl) | (rw [el_len, el_rep]; rfl) | (rw [el_len, el_len]; rfl) | (rw [byts_len, byts_len]) | (rw [lims_len]; rfl) | (rw [byts_len]; rfl) | (rw [us_len, us_len]; rfl) | rfl) (by first | exact lims_one _ _ | exact el_one _ | exact byts_one _ | exact us_one _ | (intro v hv; simp at hv; rcases hv with rfl | rfl | rfl | rfl <;> rfl)) ?_))
      refine code_row k6 (fun w_32 k6 hoth hbel => ?_)
      have k2 := hoth _ _ (by omega) k2
      have kb := hbel _ _ (by omega) kb
      clear hoth hbel
      go_wp2_with (first | (refine wpList_load_arr2 rfl _ _ rfl _ rfl (by kernel_rfl) _ (by assumption) (by first | (rw [lims_len]; kernel_rfl) | (rw [el_rep]; kernel_rfl) | (rw [el_len]; kernel_rfl) | (rw [byts_len]; kernel_rfl) | (rw [us_len]; kernel_rfl) | kernel_rfl) ?_) | (refine wpList_store_arr rfl _ _ _ rfl _ _ rfl rfl _ (by first | assumption | exact Arr.new _ _ _) (by first | (rw [lims_len]; kernel_rfl) | (rw [el_rep]; kernel_rfl) | (rw [el_len]; kernel_rfl) | (rw [byts_len]; kernel_rfl) | (rw [us_len]; kernel_rfl) | kernel_rfl) (by first | (rw [lims_len, lims_len]) | (rw [el_rep, el_rep]) | (rw [el_rep, el_len]; rfl) | (rw [el_len, el_rep]; rfl) | (rw [el_len, el_len]; rfl) | (rw [byts_len, byts_len]) | (rw [lims_len]; rfl) | (rw [byts_len]; rfl) | (rw [us_len, us_len]; rfl) | rfl) (by first | exact lims_one _ _ | exact el_one _ | exact byts_one _ | exact us_one _ | (intro v hv; simp at hv; rcases hv with rfl | rfl | rfl | rfl <;> rfl)) ?_))
      exact bodyPost_ret (results_arr_tmp Tryd.results17 _ _ _ _ rfl Tryd.underlying25 rfl _ (k2.setRow _) (by rw [byts_len]; kernel_rfl) _ rfl) rfl ⟨rfl, below_setRow kb (by omega) _⟩
    · rw [show X % 2 = 0 by omega] at hand
      rw [if_neg hodd] at hvv
      subst hvv
      clear c3 c4 hneg hQE hQ hX32 hXp hRE hR hE hcp hc hB hv ha hd hodd hd2
      go_enter Tryd.func17, Tryd.ntmps17
      go_upto_region 1 with fail
      refine wp_new2 (fun W hsz k1 k2 kb => ?_)
      have kG : Arr W _ (el (rep iN)) := kG.below kb
      have k2 : Arr W (w.heap.size + 1) (byts 0) := k2
      clear hsz
      go_upto_region 1 with (first | (refine wpList_load_arr2 rfl _ _ rfl _ rfl (by kernel_rfl) _ (by assumption) (by first | (rw [lims_len]; kernel_rfl) | (rw [el_rep]; kernel_rfl) | (rw [el_len]; kernel_rfl) | (rw [byts_len]; kernel_rfl) | (rw [us_len]; kernel_rfl) | kernel_rfl) ?_) | (refine wpList_store_arr rfl _ _ _ rfl _ _ rfl rfl _ (by first | assumption | exact Arr.new _ _ _) (by first | (rw [lims_len]; kernel_rfl) | (rw [el_rep]; kernel_rfl) | (rw [el_len]; kernel_rfl) | (rw [byts_len]; kernel_rfl) | (rw [us_len]; kernel_rfl) | kernel_rfl) (by first | (rw [lims_len, lims_len]) | (rw [el_rep, el_rep]) | (rw [el_rep, el_len]; rfl) | (rw [el_len, el_rep]; rfl) | (rw [el_len, el_len]; rfl) | (rw [byts_len, byts_len]) | (rw [lims_len]; rfl) | (rw [byts_len]; rfl) | (rw [us_len, us_len]; rfl) | rfl) (by first | exact lims_one _ _ | exact el_one _ | exact byts_one _ | exact us_one _ | (intro v hv; simp at hv; rcases hv with rfl | rfl | rfl | rfl <;> rfl)) ?_))
      go_wp2_with (first | (refine wpList_load_arr2 rfl _ _ rfl _ rfl (by kernel_rfl) _ (by assumption) (by first | (rw [lims_len]; kernel_rfl) | (rw [el_rep]; kernel_rfl) | (rw [el_len]; kernel_rfl) | (rw [byts_len]; kernel_rfl) | (rw [us_len]; kernel_rfl) | kernel_rfl) ?_) | (refine wpList_store_arr rfl _ _ _ rfl _ _ rfl rfl _ (by first | assumption | exact Arr.new _ _ _) (by first | (rw [lims_len]; kernel_rfl) | (rw [el_rep]; kernel_rfl) | (rw [el_len]; kernel_rfl) | (rw [byts_len]; kernel_rfl) | (rw [us_len]; kernel_rfl) | kernel_rfl) (by first | (rw [lims_len, lims_len]) | (rw [el_rep, el_rep]) | (rw [el_rep, el_len]; rfl) | (rw [el_len, el_rep]; rfl) | (rw [el_len, el_len]; rfl) | (rw [byts_len, byts_len]) | (rw [lims_len]; rfl) | (rw [byts_len]; rfl) | (rw [us_len, us_len]; rfl) | rfl) (by first | exact lims_one _ _ | exact el_one _ | exact byts_one _ | exact us_one _ | (intro v hv; simp at hv; rcases hv with rfl | rfl | rfl | rfl <;> rfl)) ?_))
      refine (c0.out _).mono ?_
      rintro e w_33 ⟨rfl, hb_33⟩
      have k1 := k1.below hb_33
      have k2 := k2.below hb_33
      have kG := kG.below hb_33
      have kb := bel kb hb_33
      clear hb_33
      go_wp2_with (first | (refine wpList_load_arr2 rfl _ _ rfl _ rfl (by kernel_rfl) _ (by assumption) (by first | (rw [lims_len]; kernel_rfl) | (rw [el_rep]; kernel_rfl) | (rw [el_len]; kernel_rfl) | (rw [byts_len]; kernel_rfl) | (rw [us_len]; kernel_rfl) | kernel_rfl) ?_) | (refine wpList_store_arr rfl _ _ _ rfl _ _ rfl rfl _ (by first | assumption | exact Arr.new _ _ _) (by first | (rw [lims_len]; kernel_rfl) | (rw [el_rep]; kernel_rfl) | (rw [el_len]; kernel_rfl) | (rw [byts_len]; kernel_rfl) | (rw [us_len]; kernel_rfl) | kernel_rfl) (by first | (rw [lims_len, lims_len]) | (rw [el_rep, el_rep]) | (rw [el_rep, el_len]; rfl) | (rw [el_len, el_rep]; rfl) | (rw [el_len, el_len]; rfl) | (rw [byts_len, byts_len]) | (rw [lims_len]; rfl) | (rw [byts_len]; rfl) | (rw [us_len, us_len]; rfl) | rfl) (by first | exact lims_one _ _ | exact el_one _ | exact byts_one _ | exact us_one _ | (intro v hv; simp at hv; rcases hv with rfl | rfl | rfl | rfl <;> rfl)) ?_))
      refine (c1.out _ kG).mono ?_
      rintro e w_34 ⟨rfl, hb_34⟩
      have k1 := k1.below hb_34
      have k2 := k2.below hb_34
      have kG := kG.below hb_34
      have kb := bel kb hb_34
      clear hb_34
      go_upto_region 2 with (first | (refine wpList_load_arr2 rfl _ _ rfl _ rfl (by kernel_rfl) _ (by assumption) (by first | (rw [lims_len]; kernel_rfl) | (rw [el_rep]; kernel_rfl) | (rw [el_len]; kernel_rfl) | (rw [byts_len]; kernel_rfl) | (rw [us_len]; kernel_rfl) | kernel_rfl) ?_) | (refine wpList_store_arr rfl _ _ _ rfl _ _ rfl rfl _ (by first | assumption | exact Arr.new _ _ _) (by first | (rw [lims_len]; kernel_rfl) | (rw [el_rep]; kernel_rfl) | (rw [el_len]; kernel_rfl) | (rw [byts_len]; kernel_rfl) | (rw [us_len]; kernel_rfl) | kernel_rfl) (by first | (rw [lims_len, lims_len]) | (rw [el_rep, el_rep]) | (rw [el_rep, el_len]; rfl) | (rw [el_len, el_rep]; rfl) | (rw [el_len, el_len]; rfl) | (rw [byts_len, byts_len]) | (rw [lims_len]; rfl) | (rw [byts_len]; rfl) | (rw [us_len, us_len]; rfl) | rfl) (by first | exact lims_one _ _ | exact el_one _ | exact byts_one _ | exact us_one _ | (intro v hv; simp at hv; rcases hv with rfl | rfl | rfl | rfl <;> rfl)) ?_))
      have hg_k4_k1 := k1.lt
      have hg_k4_k2 := k2.lt
      have hg_k4_kG := kG.lt
      refine code_new (fun w_35 k4 hnew => ?_)
      have k1 := k1.below hnew
      have k2 := k2.below hnew
      have kG := kG.below hnew
      have kb := bel kb hnew
      clear hnew
      generalize (w_34).heap.size = g_k4 at k4 hg_k4_k1 hg_k4_k2 hg_k4_kG ⊢
      go_upto_region 4 with (first | (refine wpList_load_arr2 rfl _ _ rfl _ rfl (by kernel_rfl) _ (by assumption) (by first | (rw [lims_len]; kernel_rfl) | (rw [el_rep]; kernel_rfl) | (rw [el_len]; kernel_rfl) | (rw [byts_len]; kernel_rfl) | (rw [us_len]; kernel_rfl) | kernel_rfl) ?_) | (refine wpList_store_arr rfl _ _ _ rfl _ _ rfl rfl _ (by first | assumption | exact Arr.new _ _ _) (by first | (rw [lims_len]; kernel_rfl) | (rw [el_rep]; kernel_rfl) | (rw [el_len]; kernel_rfl) | (rw [byts_len]; kernel_rfl) | (rw [us_len]; kernel_rfl) | kernel_rfl) (by first | (rw [lims_len, lims_len]) | (rw [el_rep, el_rep]) | (rw [el_rep, el_len]; rfl) | (rw [el_len, el_rep]; rfl) | (rw [el_len, el_len]; rfl) | (rw [byts_len, byts_len]) | (rw [lims_len]; rfl) | (rw [byts_len]; rfl) | (rw [us_len, us_len]; rfl) | rfl) (by first | exact lims_one _ _ | exact el_one _ | exact byts_one _ | exact us_one _ | (intro v hv; simp at hv; rcases hv with rfl | rfl | rfl | rfl <;> rfl)) ?_))
      go_wp2_with (first | (refine wpList_load_arr2 rfl _ _ rfl _ rfl (by kernel_rfl) _ (by assumption) (by first | (rw [lims_len]; kernel_rfl) | (rw [el_rep]; kernel_rfl) | (rw [el_len]; kernel_rfl) | (rw [byts_len]; kernel_rfl) | (rw [us_len]; kernel_rfl) | kernel_rfl) ?_) | (refine wpList_store_arr rfl _ _ _ rfl _ _ rfl rfl _ (by first | assumption | exact Arr.new _ _ _) (by first | (rw [lims_len]; kernel_rfl) | (rw [el_rep]; kernel_rfl) | (rw [el_len]; kernel_rfl) | (rw [byts_len]; kernel_rfl) | (rw [us_len]; kernel_rfl) | kernel_rfl) (by first | (rw [lims_len, lims_len]) | (rw [el_rep, el_rep]) | (rw [el_rep, el_len]; rfl) | (rw [el_len, el_rep]; rfl) | (rw [el_len, el_len]; rfl) | (rw [byts_len, byts_len]) | (rw [lims_len]; rfl) | (rw [byts_len]; rfl) | (rw [us_len, us_len]; rfl) | rfl) (by first | exact lims_one _ _ | exact el_one _ | exact byts_one _ | exact us_one _ | (intro v hv; simp at hv; rcases hv with rfl | rfl | rfl | rfl <;> rfl)) ?_))
      refine (c2.out _).mono ?_
      rintro e w_36 ⟨rfl, hb_36⟩
      have k2 := k2.below hb_36
      have k4 := k4.below hb_36
      have kb := bel kb hb_36
      clear hb_36
      go_upto_region 5 with (first | (refine wpList_load_arr2 rfl _ _ rfl _ rfl (by kernel_rfl) _ (by assumption) (by first | (rw [lims_len]; kernel_rfl) | (rw [el_rep]; kernel_rfl) | (rw [el_len]; kernel_rfl) | (rw [byts_len]; kernel_rfl) | (rw [us_len]; kernel_rfl) | kernel_rfl) ?_) | (refine wpList_store_arr rfl _ _ _ rfl _ _ rfl rfl _ (by first | assumption | exact Arr.new _ _ _) (by first | (rw [lims_len]; kernel_rfl) | (rw [el_rep]; kernel_rfl) | (rw [el_len]; kernel_rfl) | (rw [byts_len]; kernel_rfl) | (rw [us_len]; kernel_rfl) | kernel_rfl) (by first | (rw [lims_len, lims_len]) | (rw [el_rep, el_rep]) | (rw [el_rep, el_len]; rfl) | (rw [el_len, el_rep]; rfl) | (rw [el_len, el_len]; rfl) | (rw [byts_len, byts_len]) | (rw [lims_len]; rfl) | (rw [byts_len]; rfl) | (rw [us_len, us_len]; rfl) | rfl) (by first | exact lims_one _ _ | exact el_one _ | exact byts_one _ | exact us_one _ | (intro v hv; simp at hv; rcases hv with rfl | rfl | rfl | rfl <;> rfl)) ?_))
      have hg_k6_k2 := k2.lt
      have hg_k6_k4 := k4.lt
      refine code_new (fun w_37 k6 hnew => ?_)
      have k2 := k2.below hnew
      have k4 := k4.below hnew
      have kb := bel kb hnew
      clear hnew
      generalize (w_36).heap.size = g_k6 at k6 hg_k6_k2 hg_k6_k4 ⊢
      have hcel := k6.cell gd.out
      go_upto_region 7 with fail
      go_wp2_with (first | (refine wpList_load_arr2 rfl _ _ rfl _ rfl (by kernel_rfl) _ (by assumption) (by first | (rw [lims_len]; kernel_rfl) | (rw [el_rep]; kernel_rfl) | (rw [el_len]; kernel_rfl) | (rw [byts_len]; kernel_rfl) | (rw [us_len]; kernel_rfl) | kernel_rfl) ?_) | (refine wpList_store_arr rfl _ _ _ rfl _ _ rfl rfl _ (by first | assumption | exact Arr.new _ _ _) (by first | (rw [lims_len]; kernel_rfl) | (rw [el_rep]; kernel_rfl) | (rw [el_len]; kernel_rfl) | (rw [byts_len]; kernel_rfl) | (rw [us_len]; kernel_rfl) | kernel_rfl) (by first | (rw [lims_len, lims_len]) | (rw [el_rep, el_rep]) | (rw [el_rep, el_len]; rfl) | (rw [el_len, el_rep]; rfl) | (rw [el_len, el_len]; rfl) | (rw [byts_len, byts_len]) | (rw [lims_len]; rfl) | (rw [byts_len]; rfl) | (rw [us_len, us_len]; rfl) | rfl) (by first | exact lims_one _ _ | exact el_one _ | exact byts_one _ | exact us_one _ | (intro v hv; simp at hv; rcases hv with rfl | rfl | rfl | rfl <;> rfl)) ?_))
      exact bodyPost_ret (results_arr_tmp Tryd.results17 _ _ _ _ rfl Tryd.underlying25 rfl _ (k2.setRow _) (by rw [byts_len]; kernel_rfl) _ rfl) rfl ⟨rfl, below_setRow kb (by omega) _⟩

end Go.Proofs.YtdcbpilibaigmaaDoor
