/- slots: the reference's PackState. -/
import Derived.Test.YtkipejhjpfakpaaSt14
namespace Go.Proofs.Ytkipejhjpfakpaa
open Go.RowKit

set_option maxHeartbeats 4000000 in
set_option maxRecDepth 100000 in
theorem packState_any (S : Stt) (v : Sv) (w : World) (h : StOk w S v) : Calls Try.prog 22 #[.agg (S.cs v).toArray] w (RetB (packS S) w) := by
  obtain ⟨vr, v0, v1⟩ := v
  obtain ⟨ar, cr, er, hc1, -⟩ := slice_of h.rv
  obtain ⟨a0, c0, e0, -, -⟩ := slice_of h.m0
  obtain ⟨a1, c1, e1, -, -⟩ := slice_of h.m1
  rw [ints_len] at er hc1
  rw [u8s_len] at e0 e1
  simp only at er e0 e1
  subst er e0 e1
  have ho := Lib.hid h
  clear h
  obtain ⟨R, hR⟩ : ∃ R, packS S = R := ⟨_, rfl⟩
  rw [hR]
  replace hR := Lib.hid hR
  have hcv := fun (w : World) (C : Array Value) (n c : Nat) => Lib.run_convert_bytes_const (P := Try.prog) w 23 5 C n c Try.underlying23 Try.underlying5
  go_enter Try.func22, Try.ntmps22
  go_upto_region 1 with fail
  refine wp_new1 (fun W hsz k1 kb => ?_)
  have k1 : Arr W w.heap.size (S.cs ⟨.slice ar S.rev.length cr, .slice a0 S.m0.length c0, .slice a1 S.m1.length c1⟩) := k1
  obtain ⟨G, hG⟩ : ∃ G, w.heap.size = G := ⟨_, rfl⟩
  rw [hG] at k1 hsz ⊢
  replace hG := Lib.hid hG
  go_wp2_with (first | (refine wpList_load_arr2 rfl _ _ rfl _ rfl (by decide +kernel) _ (by assumption) (by first | (rw [lims_len]; kernel_rfl) | (rw [el_rep]; kernel_rfl) | (rw [el_len]; kernel_rfl) | (rw [byts_len]; kernel_rfl) | (rw [us_len]; kernel_rfl) | (rw [bytn_len]; kernel_rfl) | (rw [ens_len, digs_len]; kernel_rfl) | kernel_rfl) ?_) | fail)
  refine (mayStateb_any S _ _ (ho.out.below kb)).mono ?_
  rintro e w1 ⟨he, hb⟩
  have k1 := k1.below hb
  have kb := bel kb hb
  have hs1 : G + 1 ≤ w1.heap.size := by have := hb.size; omega
  clear hb hsz
  cases hm : mayB S with
  | false =>
    rw [hm] at he
    subst he
    have hq : Hid (R = ([], 1)) := Lib.hid (by rw [← hR.out]; unfold packS; rw [hm]; rfl)
    clear hm hR
    go_wp2_with fail
    go_ret2
    refine ⟨.slice none 0 0, by rw [hq.out] <;> rfl, ?_, kb⟩
    rw [hq.out]
    exact World.ownsRow_nil _ _ _ _
  | true =>
    rw [hm] at he
    subst he
    have hmp := Lib.hid ((mayB_iff S).1 hm)
    have hq : Hid (R = (packL S, 0)) := Lib.hid (by rw [← hR.out]; unfold packS; rw [hm]; rfl)
    clear hm hR
    obtain ⟨hf1, hf2, hf3⟩ := mayP_fit hmp.out
    have x0 := k1.cell (j := 0) rfl
    have x1 := k1.cell (j := 1) rfl
    have y0 := (k1.below (below_alloc w1 (.cells #[.int .u8 80, .int .u8 67, .int .u8 83, .int .u8 49] 5 (4, 5)))).cell (j := 0) rfl
    have y1 := (k1.below (below_alloc w1 (.cells #[.int .u8 80, .int .u8 67, .int .u8 83, .int .u8 49] 5 (4, 5)))).cell (j := 1) rfl
    go_wp2_with fail
    clear y0 y1
    have n1 : Sl (w1.alloc (.cells #[.int .u8 80, .int .u8 67, .int .u8 83, .int .u8 49] 5 (4, 5))) (.slice (some ⟨w1.heap.size, 0, none⟩) 4 4) (u8s hd4) := Sl.newMark _ _ _ _ _ rfl _ rfl (by decide)
    have n2 := n1.alloc (.cells #[.int .i64 S.floor, .int .i64 (S.rev.length : Int)] 3)
    have n3 : Sl ((w1.alloc (.cells #[.int .u8 80, .int .u8 67, .int .u8 83, .int .u8 49] 5 (4, 5))).alloc (.cells #[.int .i64 S.floor, .int .i64 (S.rev.length : Int)] 3)) (.slice (some ⟨w1.heap.size + 1, 0, none⟩) 2 2) (([S.floor, (S.rev.length : Int)] : List Int).map (.int .i64)) := Sl.newMark _ _ _ _ _ (by simp) _ rfl (by decide)
    refine (refInt_any _ _ hd4 [S.floor, (S.rev.length : Int)] _ n2 n3 (by simp [hd4])).mono ?_
    rintro e w2 ⟨u2, rfl, o2, hb2⟩
    have hb3 := bel (bel (below_alloc w1 (.cells #[.int .u8 80, .int .u8 67, .int .u8 83, .int .u8 49] 5 (4, 5))) (below_alloc _ (.cells #[.int .i64 S.floor, .int .i64 (S.rev.length : Int)] 3))) hb2
    have k1 := k1.below hb3
    have kb := bel kb hb3
    have o2 : Ow w2 (G + 1) 5 u2 (hd4 ++ be8s [S.floor, (S.rev.length : Int)]).length (u8s (hd4 ++ be8s [S.floor, (S.rev.length : Int)])) := own_mono o2 (by have := hb3.size; simp; omega)
    have hs2 : G + 1 ≤ w2.heap.size := by have := hb3.size; omega
    clear n1 n2 n3 hb3 hb2 x0 x1
    obtain ⟨b2, hb2⟩ : ∃ b, hd4 ++ be8s [S.floor, (S.rev.length : Int)] = b := ⟨_, rfl⟩
    rw [hb2] at o2
    have hl2 : b2.length = 20 := by rw [← hb2, List.length_append, be8_2]; rfl
    replace hb2 := Lib.hid hb2
    replace hl2 := Lib.hid hl2
    have x1 := k1.cell (j := 1) rfl
    go_wp2_with fail
    refine (refInt_any _ _ b2 S.rev _ (Sl.of_own o2) (ho.out.rv.below kb) (by rw [hl2.out]; omega)).mono ?_
    rintro e w3 ⟨u3, rfl, o3, hb⟩
    have k1 := k1.below hb
    have kb := bel kb hb
    have o3 : Ow w3 (G + 1) 5 u3 (b2 ++ be8s S.rev).length (u8s (b2 ++ be8s S.rev)) := own_mono o3 hs2
    have hs3 : G + 1 ≤ w3.heap.size := by have := hb.size; omega
    clear hb o2 hs2 x1
    have x8 := k1.cell (j := 8) rfl
    go_wp2_with fail
    have hal := below_alloc w3 (.cells #[.int .i64 S.act] 3)
    refine (refInt_any _ _ (b2 ++ be8s S.rev) [S.act] _ (Sl.of_own (o3.below hal)) (Sl.newMark _ _ _ _ _ rfl 1 rfl (by decide)) (by rw [List.length_append, be8s_len, hl2.out]; simp; omega)).mono ?_
    rintro e w4 ⟨u4, rfl, o4, hb⟩
    have hb := bel hal hb
    have k1 := k1.below hb
    have kb := bel kb hb
    have o4 : Ow w4 (G + 1) 5 u4 (b2 ++ be8s S.rev ++ be8s [S.act]).length (u8s (b2 ++ be8s S.rev ++ be8s [S.act])) := own_mono o4 (by have := hal.size; omega)
    have hs4 : G + 1 ≤ w4.heap.size := by have := hb.size; omega
    clear hb o3 hs3 x8 hal
    obtain ⟨L0, hL0⟩ : ∃ L, b2 ++ be8s S.rev ++ be8s [S.act] = L := ⟨_, rfl⟩
    rw [hL0] at o4
    have hl0 : L0.length = 28 + 8 * S.rev.length := by rw [← hL0, List.length_append, List.length_append, be8_1, be8s_len, hl2.out]; omega
    replace hL0 := Lib.hid hL0
    obtain ⟨L1, hL1⟩ : ∃ L, L0 ++ txs [S.m0] ++ be8s [bitI S.d0, S.t0] = L := ⟨_, rfl⟩
    have hl1 : L1.length = 52 + 8 * S.rev.length + S.m0.length := by rw [← hL1, List.length_append, List.length_append, be8_2, txs_1, hl0]; omega
    replace hL1 := Lib.hid hL1
    replace hl0 := Lib.hid hl0
    replace hl1 := Lib.hid hl1
    go_wp2_with fail
    go_loopw [4, 5] (fun ov kv wr => ∃ (j : Nat), j ≤ 2 ∧ kv = .int .i64 j ∧ (j = 0 → Ow wr (G + 1) 5 ov L0.length (u8s L0)) ∧ (j = 1 → Ow wr (G + 1) 5 ov L1.length (u8s L1)) ∧ (j = 2 → Ow wr (G + 1) 5 ov (packL S).length (u8s (packL S))) ∧ Arr wr G (S.cs ⟨.slice ar S.rev.length cr, .slice a0 S.m0.length c0, .slice a1 S.m1.length c1⟩) ∧ Below w.heap.size w wr ∧ G + 1 ≤ wr.heap.size) (fun _ kv _ => 2 - (intOf kv).toNat)
    case atStart => exact ⟨0, by omega, rfl, fun _ => o4, fun h => absurd h (by omega), fun h => absurd h (by omega), k1, kb, hs4⟩
    case round =>
      clear o4 kb hs4 k1
      rename_i ov wr _
      obtain ⟨j, hj, rfl, r0, r1, r2, k1, kb, hs3⟩ := hrel
      obtain rfl | rfl | rfl : j = 0 ∨ j = 1 ∨ j = 2 := by omega
      · have ow := r0 rfl
        clear r0 r1 r2
        have x2 := k1.cell (j := 2) rfl
        go_upto_region 9 with fail
        go_wp2_with fail
        have hal := below_alloc wr (.cells #[.slice a0 S.m0.length c0] 23)
        refine (refBytes_any _ _ L0 [S.m0] _ (Sl.of_own (ow.below hal)) (Sls.new1 (ho.out.m0.below kb) _) (by simp [total, hl0.out]; omega)).mono ?_
        rintro e w5 ⟨u5, rfl, o5, hb⟩
        have hb := bel hal hb
        have k1 := k1.below hb
        have kb := bel kb hb
        have o5 : Ow w5 (G + 1) 5 u5 (L0 ++ txs [S.m0]).length (u8s (L0 ++ txs [S.m0])) := own_mono o5 (by have := hal.size; omega)
        have hs5 : G + 1 ≤ w5.heap.size := by have := hb.size; omega
        clear hb ow hs3 x2 hal
        have x3 := k1.cell (j := 3) rfl
        have x4 := k1.cell (j := 4) rfl
        cases hd : S.d0 with
        | false =>
          rw [hd] at x3
          have hbi : Hid (bitI S.d0 = 0) := Lib.hid (by rw [hd]; rfl)
          replace hd := Lib.hid hd
          go_wp2_with fail
          have hal := below_alloc w5 (.cells #[.int .i64 0, .int .i64 S.t0] 3)
          refine (refInt_any _ _ (L0 ++ txs [S.m0]) [0, S.t0] _ (Sl.of_own (o5.below hal)) (Sl.newMark _ _ _ _ _ rfl 2 rfl (by decide)) (by rw [List.length_append, txs_1, hl0.out]; simp; omega)).mono ?_
          rintro e w6 ⟨u6, rfl, o6, hb⟩
          have hb := bel hal hb
          have k1 := k1.below hb
          have kb := bel kb hb
          rw [← hbi.out] at o6
          have o6 : Ow w6 (G + 1) 5 u6 (L0 ++ txs [S.m0] ++ be8s [bitI S.d0, S.t0]).length (u8s (L0 ++ txs [S.m0] ++ be8s [bitI S.d0, S.t0])) := own_mono o6 (by simp; omega)
          have hzz := hb.size
          clear hb o5 hal x3 x4
          rw [hL1.out] at o6
          go_wp2_with fail
          exact ⟨⟨1, by omega, by go_num, fun h => absurd h (by omega), fun _ => o6, fun h => absurd h (by omega), k1, kb, by omega⟩, by simp [intOf]⟩
        | true =>
          rw [hd] at x3
          have hbi : Hid (bitI S.d0 = 1) := Lib.hid (by rw [hd]; rfl)
          replace hd := Lib.hid hd
          go_wp2_with fail
          have hal := below_alloc w5 (.cells #[.int .i64 1, .int .i64 S.t0] 3)
          refine (refInt_any _ _ (L0 ++ txs [S.m0]) [1, S.t0] _ (Sl.of_own (o5.below hal)) (Sl.newMark _ _ _ _ _ rfl 2 rfl (by decide)) (by rw [List.length_append, txs_1, hl0.out]; simp; omega)).mono ?_
          rintro e w6 ⟨u6, rfl, o6, hb⟩
          have hb := bel hal hb
          have k1 := k1.below hb
          have kb := bel kb hb
          rw [← hbi.out] at o6
          have o6 : Ow w6 (G + 1) 5 u6 (L0 ++ txs [S.m0] ++ be8s [bitI S.d0, S.t0]).length (u8s (L0 ++ txs [S.m0] ++ be8s [bitI S.d0, S.t0])) := own_mono o6 (by simp; omega)
          have hzz := hb.size
          clear hb o5 hal x3 x4
          rw [hL1.out] at o6
          go_wp2_with fail
          exact ⟨⟨1, by omega, by go_num, fun h => absurd h (by omega), fun _ => o6, fun h => absurd h (by omega), k1, kb, by omega⟩, by simp [intOf]⟩
      · have ow := r1 rfl
        clear r0 r1 r2
        have x2 := k1.cell (j := 5) rfl
        go_upto_region 9 with fail
        go_wp2_with fail
        have hal := below_alloc wr (.cells #[.slice a1 S.m1.length c1] 23)
        refine (refBytes_any _ _ L1 [S.m1] _ (Sl.of_own (ow.below hal)) (Sls.new1 (ho.out.m1.below kb) _) (by simp [total, hl1.out]; omega)).mono ?_
        rintro e w5 ⟨u5, rfl, o5, hb⟩
        have hb := bel hal hb
        have k1 := k1.below hb
        have kb := bel kb hb
        have o5 : Ow w5 (G + 1) 5 u5 (L1 ++ txs [S.m1]).length (u8s (L1 ++ txs [S.m1])) := own_mono o5 (by have := hal.size; omega)
        have hs5 : G + 1 ≤ w5.heap.size := by have := hb.size; omega
        clear hb ow hs3 x2 hal
        have x3 := k1.cell (j := 6) rfl
        have x4 := k1.cell (j := 7) rfl
        cases hd : S.d1 with
        | false =>
          rw [hd] at x3
          have hbi : Hid (bitI S.d1 = 0) := Lib.hid (by rw [hd]; rfl)
          replace hd := Lib.hid hd
          go_wp2_with fail
          have hal := below_alloc w5 (.cells #[.int .i64 0, .int .i64 S.t1] 3)
          refine (refInt_any _ _ (L1 ++ txs [S.m1]) [0, S.t1] _ (Sl.of_own (o5.below hal)) (Sl.newMark _ _ _ _ _ rfl 2 rfl (by decide)) (by rw [List.length_append, txs_1, hl1.out]; simp; omega)).mono ?_
          rintro e w6 ⟨u6, rfl, o6, hb⟩
          have hb := bel hal hb
          have k1 := k1.below hb
          have kb := bel kb hb
          rw [← hbi.out] at o6
          have o6 : Ow w6 (G + 1) 5 u6 (L1 ++ txs [S.m1] ++ be8s [bitI S.d1, S.t1]).length (u8s (L1 ++ txs [S.m1] ++ be8s [bitI S.d1, S.t1])) := own_mono o6 (by simp; omega)
          have hzz := hb.size
          clear hb o5 hal x3 x4
          have hfin : Hid (L1 ++ txs [S.m1] ++ be8s [bitI S.d1, S.t1] = packL S) := Lib.hid (by rw [← hL1.out, ← hL0.out, ← hb2.out]; rfl)
          rw [hfin.out] at o6
          go_wp2_with fail
          exact ⟨⟨2, by omega, by go_num, fun h => absurd h (by omega), fun h => absurd h (by omega), fun _ => o6, k1, kb, by omega⟩, by simp [intOf]⟩
        | true =>
          rw [hd] at x3
          have hbi : Hid (bitI S.d1 = 1) := Lib.hid (by rw [hd]; rfl)
          replace hd := Lib.hid hd
          go_wp2_with fail
          have hal := below_alloc w5 (.cells #[.int .i64 1, .int .i64 S.t1] 3)
          refine (refInt_any _ _ (L1 ++ txs [S.m1]) [1, S.t1] _ (Sl.of_own (o5.below hal)) (Sl.newMark _ _ _ _ _ rfl 2 rfl (by decide)) (by rw [List.length_append, txs_1, hl1.out]; simp; omega)).mono ?_
          rintro e w6 ⟨u6, rfl, o6, hb⟩
          have hb := bel hal hb
          have k1 := k1.below hb
          have kb := bel kb hb
          rw [← hbi.out] at o6
          have o6 : Ow w6 (G + 1) 5 u6 (L1 ++ txs [S.m1] ++ be8s [bitI S.d1, S.t1]).length (u8s (L1 ++ txs [S.m1] ++ be8s [bitI S.d1, S.t1])) := own_mono o6 (by simp; omega)
          have hzz := hb.size
          clear hb o5 hal x3 x4
          have hfin : Hid (L1 ++ txs [S.m1] ++ be8s [bitI S.d1, S.t1] = packL S) := Lib.hid (by rw [← hL1.out, ← hL0.out, ← hb2.out]; rfl)
          rw [hfin.out] at o6
          go_wp2_with fail
          exact ⟨⟨2, by omega, by go_num, fun h => absurd h (by omega), fun h => absurd h (by omega), fun _ => o6, k1, kb, by omega⟩, by simp [intOf]⟩
      · have ow := r2 rfl
        clear r0 r1 r2
        go_wp2_with fail
        go_ret2
        refine ⟨_, by rw [hq.out] <;> rfl, ?_, kb⟩
        rw [hq.out]
        exact own_mono ow (by rw [hG.out]; omega)

end Go.Proofs.Ytkipejhjpfakpaa
