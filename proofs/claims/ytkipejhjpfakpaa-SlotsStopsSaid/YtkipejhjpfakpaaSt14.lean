/- slots: Pack. -/
import Derived.Test.YtkipejhjpfakpaaSt13
import Derived.Lib.SlBytesConst
import Derived.Lib.SmallJoins
namespace Go.Proofs.Ytkipejhjpfakpaa
open Go.RowKit

def hd4 : List UInt8 := [80, 67, 83, 49]
/-- A state's bytes. -/
def packL (S : Stt) : List UInt8 := hd4 ++ be8s [S.floor, (S.rev.length : Int)] ++ be8s S.rev ++ be8s [S.act] ++ txs [S.m0] ++ be8s [bitI S.d0, S.t0] ++ txs [S.m1] ++ be8s [bitI S.d1, S.t1]
/-- What Pack answers. -/
noncomputable def packS (S : Stt) : List UInt8 × Int := if mayB S = true then (packL S, 0) else ([], 1)
/-- Bytes and a number that are handed back. -/
def RetB (p : List UInt8 × Int) (w : World) (e : Ending) (w' : World) : Prop := ∃ v : Value, e = .returned (.tuple #[v, .int .i64 p.2]) ∧ w'.ownsRow w.heap.size 5 1 v p.1.length (u8s p.1) ∧ Below w.heap.size w w'

/-- Bytes of one's own, as one of a pool's values. -/
def Ph.ow (B : Nat) (bs : List UInt8) : Ph := ⟨fun v w => ∃ d : Value, v = d ∧ Ow w B 5 d bs.length (u8s bs), fun _ _ _ ⟨d, h1, h2⟩ hb => ⟨d, h1, h2.below hb⟩, false, fun h => by cases h⟩

theorem Sl.newMark (w : World) (A : Array Value) (T : TypeId) (fr : Nat × Nat) (g : Nat) (hg : g = w.heap.size) (n : Nat) (hn : A.size = n) (hm : n ≤ maxLen) : Sl (w.alloc (.cells A T fr)) (.slice (some ⟨g, 0, none⟩) n n) A.toList := by
  have hl : A.toList.length = n := by rw [← hn]; simp
  refine ⟨some ⟨g, 0, none⟩, n, by rw [hl], by rw [hl]; exact Nat.le_refl _, hm, (fun h => by cases h), fun x hx j u hu => ?_⟩
  cases hx
  subst hg
  rw [Addr.add_lit, Nat.zero_add, World.cell?_alloc_mark]
  simpa using hu

theorem be8_1 (a : Int) : (be8s [a]).length = 8 := by rw [be8s_len]; rfl
theorem be8_2 (a b : Int) : (be8s [a, b]).length = 16 := by rw [be8s_len]; rfl
theorem hd4_len : hd4.length = 4 := rfl
theorem txs_1 (m : List UInt8) : (txs [m]).length = 8 + m.length := by rw [txs_len]; simp [total]

theorem cs_r01 {w : World} {g : Nat} {S : Stt} {v : Sv} (k : Arr w g (S.cs v)) : w.rangeAt g 2 [v.m0, .bool S.d0, .int .i64 S.t0, v.m1, .bool S.d1, .int .i64 S.t1] :=
  k.range (fun j hj => by rcases j with _ | _ | _ | _ | _ | _ | j <;> first | rfl | (simp only [List.length_cons, List.length_nil] at hj; omega))

theorem bitb_any (b : Bool) (w : World) : Calls Try.prog 49 #[.bool b] w fun e w' => e = .returned (.int .i64 (bitI b)) ∧ Below w.heap.size w w' := (bit_any b w).mono fun _ _ h => ⟨h.1, by rw [h.2]; exact Below.refl _ _⟩

set_option maxHeartbeats 4000000 in
set_option maxRecDepth 100000 in
theorem pack_any (S : Stt) (v : Sv) (w : World) (h : StOk w S v) : Calls Try.prog 21 #[.agg (S.cs v).toArray] w (RetB (packS S) w) := by
  obtain ⟨vr, v0, v1⟩ := v
  obtain ⟨ar, cr, er, hc1, -⟩ := slice_of h.rv
  obtain ⟨a0, c0, e0, -, -⟩ := slice_of h.m0
  obtain ⟨a1, c1, e1, -, -⟩ := slice_of h.m1
  rw [ints_len] at er hc1
  rw [u8s_len] at e0 e1
  simp only at er e0 e1
  subst er e0 e1
  have ho := Lib.hid h
  clear h
  obtain ⟨R, hR⟩ : ∃ R, packS S = R := ⟨_, rfl⟩
  rw [hR]
  replace hR := Lib.hid hR
  have hcv := fun (w : World) (C : Array Value) (n c : Nat) => Lib.run_convert_bytes_const (P := Try.prog) w 23 5 C n c Try.underlying23 Try.underlying5
  go_enter Try.func21, Try.ntmps21
  go_upto_region 1 with fail
  refine wp_new1 (fun W hsz k1 kb => ?_)
  have k1 : Arr W w.heap.size (S.cs ⟨.slice ar S.rev.length cr, .slice a0 S.m0.length c0, .slice a1 S.m1.length c1⟩) := k1
  obtain ⟨G, hG⟩ : ∃ G, w.heap.size = G := ⟨_, rfl⟩
  rw [hG] at k1 hsz ⊢
  replace hG := Lib.hid hG
  go_wp2_with (first | (refine wpList_load_arr2 rfl _ _ rfl _ rfl (by decide +kernel) _ (by assumption) (by first | (rw [lims_len]; kernel_rfl) | (rw [el_rep]; kernel_rfl) | (rw [el_len]; kernel_rfl) | (rw [byts_len]; kernel_rfl) | (rw [us_len]; kernel_rfl) | (rw [bytn_len]; kernel_rfl) | (rw [ens_len, digs_len]; kernel_rfl) | kernel_rfl) ?_) | fail)
  refine (mayb_any S _ _ (ho.out.below kb)).mono ?_
  rintro e w1 ⟨he, hb⟩
  have k1 := k1.below hb
  have kb := bel kb hb
  have hs1 : G + 1 ≤ w1.heap.size := by have := hb.size; omega
  clear hb hsz
  cases hm : mayB S with
  | false =>
    rw [hm] at he
    subst he
    have hq : Hid (R = ([], 1)) := Lib.hid (by rw [← hR.out]; unfold packS; rw [hm]; rfl)
    clear hm hR
    go_wp2_with fail
    go_ret2
    refine ⟨.slice none 0 0, by rw [hq.out] <;> rfl, ?_, kb⟩
    rw [hq.out]
    exact World.ownsRow_nil _ _ _ _
  | true =>
    rw [hm] at he
    subst he
    have hmp := Lib.hid ((mayB_iff S).1 hm)
    have hq : Hid (R = (packL S, 0)) := Lib.hid (by rw [← hR.out]; unfold packS; rw [hm]; rfl)
    clear hm hR
    obtain ⟨hf1, hf2, hf3⟩ := mayP_fit hmp.out
    have x0 := k1.cell (j := 0) rfl
    have x1 := k1.cell (j := 1) rfl
    have y0 := (k1.below (below_alloc w1 (.cells #[.int .u8 80, .int .u8 67, .int .u8 83, .int .u8 49] 5 (4, 5)))).cell (j := 0) rfl
    have y1 := (k1.below (below_alloc w1 (.cells #[.int .u8 80, .int .u8 67, .int .u8 83, .int .u8 49] 5 (4, 5)))).cell (j := 1) rfl
    go_wp2_with fail
    clear y0 y1
    have n1 : Sl (w1.alloc (.cells #[.int .u8 80, .int .u8 67, .int .u8 83, .int .u8 49] 5 (4, 5))) (.slice (some ⟨w1.heap.size, 0, none⟩) 4 4) (u8s hd4) := Sl.newMark _ _ _ _ _ rfl _ rfl (by decide)
    have n2 := n1.alloc (.cells #[.int .i64 S.floor, .int .i64 (S.rev.length : Int)] 3)
    have n3 : Sl ((w1.alloc (.cells #[.int .u8 80, .int .u8 67, .int .u8 83, .int .u8 49] 5 (4, 5))).alloc (.cells #[.int .i64 S.floor, .int .i64 (S.rev.length : Int)] 3)) (.slice (some ⟨w1.heap.size + 1, 0, none⟩) 2 2) (([S.floor, (S.rev.length : Int)] : List Int).map (.int .i64)) := Sl.newMark _ _ _ _ _ (by simp) _ rfl (by decide)
    refine (packInt_any _ _ hd4 [S.floor, (S.rev.length : Int)] _ n2 n3 (by simp [hd4])).mono ?_
    rintro e w2 ⟨u2, rfl, o2, hb2⟩
    have hb3 := bel (bel (below_alloc w1 (.cells #[.int .u8 80, .int .u8 67, .int .u8 83, .int .u8 49] 5 (4, 5))) (below_alloc _ (.cells #[.int .i64 S.floor, .int .i64 (S.rev.length : Int)] 3))) hb2
    have k1 := k1.below hb3
    have kb := bel kb hb3
    have o2 : Ow w2 (G + 1) 5 u2 (hd4 ++ be8s [S.floor, (S.rev.length : Int)]).length (u8s (hd4 ++ be8s [S.floor, (S.rev.length : Int)])) := own_mono o2 (by have := hb3.size; simp; omega)
    have hs2 : G + 1 ≤ w2.heap.size := by have := hb3.size; omega
    clear n1 n2 n3 hb3 hb2 x0 x1
    obtain ⟨b2, hb2⟩ : ∃ b, hd4 ++ be8s [S.floor, (S.rev.length : Int)] = b := ⟨_, rfl⟩
    rw [hb2] at o2
    have hl2 : b2.length = 20 := by rw [← hb2, List.length_append, be8_2]; rfl
    replace hb2 := Lib.hid hb2
    go_upto_region 4 with fail
    refine Tx.start (fun w' => Below (w2).heap.size (w2) w') 9999 9 rfl (by kernel_rfl) ?_
    have hS_1 : Below (w2).heap.size (w2) (World.drew w2) := (Below.refl _ _).drew
    refine Tx.seg (A := ?_) 4 55 (by kernel_rfl) (by exact hS_1) [0, 1, 2, 4, 5] (by kernel_rfl) ?_ ?_
    rotate_left
    · intro w' hB
      have e0 := k1.below hB
      have x1 := e0.cell (j := 1) rfl
      have x8 := e0.cell (j := 8) rfl
      iterate 5 (first | (refine rd_skip rfl rfl ?_; simp only [Act.put, List.setIfInBounds_toArray, List.set_cons_zero, List.set_cons_succ]) | (refine rd_load_arr rfl rfl _ _ rfl _ rfl (by decide +kernel) _ (by assumption) (by first | (rw [lims_len]; kernel_rfl) | (rw [el_rep]; kernel_rfl) | (rw [el_len]; kernel_rfl) | (rw [byts_len]; kernel_rfl) | (rw [us_len]; kernel_rfl) | (rw [bytn_len]; kernel_rfl) | (rw [ens_len, digs_len]; kernel_rfl) | kernel_rfl) ?_; simp only [Act.put, List.setIfInBounds_toArray, List.set_cons_zero, List.set_cons_succ]) | (refine rd_take (v := ?_) rfl rfl ?_ ?_; rotate_left; (focus (go_simp; try (with_reducible rfl))); simp only [Act.put, List.setIfInBounds_toArray, List.set_cons_zero, List.set_cons_succ]) | (refine rd_take (v := ?_) rfl rfl ?_ ?_; rotate_left; (focus (try go_simp); fail)))
      exact rd_nil
    have kbh := Lib.hid kb
    refine Tx.poolB 1 255 [(3, 22), (6, 25), (7, 26)] [(false, []), (false, []), (false, [(3, 22), (6, 25)])] [(3, Ph.ow (G + 1) (b2 ++ be8s S.rev)), (6, Ph.sl 1 (ints [S.act])), (7, Ph.ow (G + 1) (b2 ++ be8s S.rev ++ be8s [S.act]))] (by kernel_rfl) (by kernel_rfl) (by first | assumption | exact (Below.refl _ _).drew) ?_ ?_
    · refine ⟨⟨_, rfl, ?_⟩, ⟨_, rfl, ?_⟩, ⟨_, rfl, ?_⟩, trivial⟩
      · intro vs w1 hS hE hD K hK
        clear hD
        simp only [fillL, Act.put, List.setIfInBounds_toArray, List.set_cons_zero, List.set_cons_succ] at hK ⊢
        go_simp
        refine (packInt_any _ _ b2 S.rev _ (Sl.of_own (o2.below hS)) (ho.out.rv.below (bel kbh.out hS)) (by omega)).mono ?_
        rintro e w2 ⟨u3, rfl, ho3, hb2⟩
        exact hK _ _ ⟨u3, rfl, own_mono ho3 (Nat.le_trans hs2 hS.size)⟩ hb2 nofun
      · intro vs w1 hS hE hD K hK
        clear hD
        simp only [fillL, Act.put, List.setIfInBounds_toArray, List.set_cons_zero, List.set_cons_succ] at hK ⊢
        go_simp
        exact hK _ _ ⟨_, rfl, Sl.newMark _ _ _ _ _ rfl _ rfl (by decide)⟩ (below_alloc _ _) nofun
      · intro vs w1 hS hE hD K hK
        obtain ⟨q3, q6, -⟩ := hD
        simp only [fillL, Act.put, List.setIfInBounds_toArray, List.set_cons_zero, List.set_cons_succ] at hK ⊢
        obtain ⟨d3, e3, hs3⟩ := q3
        rw [e3] at hK ⊢
        clear e3
        obtain ⟨d6, e6, hs6⟩ := q6
        rw [e6] at hK ⊢
        rw [show vs _ = _ from e6] at hs6
        clear e6
        go_simp
        refine (packInt_any _ _ (b2 ++ be8s S.rev) [S.act] _ (Sl.of_own hs3) hs6 (by rw [List.length_append, be8s_len]; simp; omega)).mono ?_
        rintro e w2 ⟨u3, rfl, ho3, hb2⟩
        exact hK _ _ ⟨u3, rfl, own_mono ho3 (Nat.le_trans hs2 hS.size)⟩ hb2 nofun
    intro vs w_p0 hS_p0 hE_p0 hP hD
    obtain ⟨q3, q6, q7, -⟩ := hP
    simp only [fillL, Act.put, List.setIfInBounds_toArray, List.set_cons_zero, List.set_cons_succ]
    obtain ⟨d3, e3, hs3⟩ := q3
    rw [e3]
    clear e3
    obtain ⟨d6, e6, hs6⟩ := q6
    rw [e6]
    rw [show vs _ = _ from e6] at hs6
    clear e6
    obtain ⟨d7, e7, hs7⟩ := q7
    rw [e7]
    clear e7
    clear  hD vs
    refine Tx.seg (A := ?_) 0 511 (by kernel_rfl) (by exact hS_p0) [8] (by kernel_rfl) ?_ ?_
    rotate_left
    · intro w' hB
      iterate 1 (first | (refine rd_skip rfl rfl ?_; simp only [Act.put, List.setIfInBounds_toArray, List.set_cons_zero, List.set_cons_succ]) | (refine rd_load_arr rfl rfl _ _ rfl _ rfl (by decide +kernel) _ (by assumption) (by first | (rw [lims_len]; kernel_rfl) | (rw [el_rep]; kernel_rfl) | (rw [el_len]; kernel_rfl) | (rw [byts_len]; kernel_rfl) | (rw [us_len]; kernel_rfl) | (rw [bytn_len]; kernel_rfl) | (rw [ens_len, digs_len]; kernel_rfl) | kernel_rfl) ?_; simp only [Act.put, List.setIfInBounds_toArray, List.set_cons_zero, List.set_cons_succ]) | (refine rd_take (v := ?_) rfl rfl ?_ ?_; rotate_left; (focus (go_simp; try (with_reducible rfl))); simp only [Act.put, List.setIfInBounds_toArray, List.set_cons_zero, List.set_cons_succ]) | (refine rd_take (v := ?_) rfl rfl ?_ ?_; rotate_left; (focus (try go_simp); fail)))
      exact rd_nil
    refine Tx.done (by kernel_rfl) ?_
    have k1 := k1.below hS_p0
    have kb := bel kb hS_p0
    have hs3 : G + 1 ≤ w_p0.heap.size := by have := hS_p0.size; omega
    clear hS_p0 hE_p0 hs6
    obtain ⟨L0, hL0⟩ : ∃ L, b2 ++ be8s S.rev ++ be8s [S.act] = L := ⟨_, rfl⟩
    rw [hL0] at hs7
    have hl0 : L0.length = 28 + 8 * S.rev.length := by rw [← hL0, List.length_append, List.length_append, be8_1, be8s_len, hl2]; omega
    replace hL0 := Lib.hid hL0
    obtain ⟨L1, hL1⟩ : ∃ L, L0 ++ txs [S.m0] ++ be8s [bitI S.d0, S.t0] = L := ⟨_, rfl⟩
    have hl1 : L1.length = 52 + 8 * S.rev.length + S.m0.length := by rw [← hL1, List.length_append, List.length_append, be8_2, txs_1, hl0]; omega
    replace hL1 := Lib.hid hL1
    have hone0 : ∀ u ∈ [Value.slice a0 S.m0.length c0, .bool S.d0, .int .i64 S.t0], u.oneCell' = true := by
      intro u hu; apply StOk.one ho.out; simp [Stt.cs] at hu ⊢; rcases hu with rfl | rfl | rfl <;> simp
    have hone1 : ∀ u ∈ [Value.slice a1 S.m1.length c1, .bool S.d1, .int .i64 S.t1], u.oneCell' = true := by
      intro u hu; apply StOk.one ho.out; simp [Stt.cs] at hu ⊢; rcases hu with rfl | rfl | rfl <;> simp
    replace hone0 := Lib.hid hone0
    replace hone1 := Lib.hid hone1
    have hs7 : Ow w_p0 (G + 1) 5 d7 L0.length (u8s L0) := hs7
    have r01 := Lib.hid (cs_r01 k1)
    have i0 : ∀ w, (Instr.index 26 (.agg #[Value.slice a0 S.m0.length c0, .bool S.d0, .int .i64 S.t0, Value.slice a1 S.m1.length c1, .bool S.d1, .int .i64 S.t1]) (.int .i64 0)).run Try.prog w = .ok (.agg #[Value.slice a0 S.m0.length c0, .bool S.d0, .int .i64 S.t0]) w := fun _ => by kernel_rfl
    have i1 : ∀ w, (Instr.index 26 (.agg #[Value.slice a0 S.m0.length c0, .bool S.d0, .int .i64 S.t0, Value.slice a1 S.m1.length c1, .bool S.d1, .int .i64 S.t1]) (.int .i64 1)).run Try.prog w = .ok (.agg #[Value.slice a1 S.m1.length c1, .bool S.d1, .int .i64 S.t1]) w := fun _ => by kernel_rfl
    clear o2 hl2
    go_wp2_with (first | (refine wpList_load_mid2 rfl _ _ rfl _ _ rfl (by kernel_rfl) _ r01.out (by first | (rw [lims_len]; kernel_rfl) | (rw [el_rep]; kernel_rfl) | (rw [el_len]; kernel_rfl) | (rw [byts_len]; kernel_rfl) | (rw [us_len]; kernel_rfl) | (rw [bytn_len]; kernel_rfl) | (rw [ens_len, digs_len]; kernel_rfl) | kernel_rfl) ?_) | fail)
    clear r01
    go_loopw [4, 29] (fun ov kv wr => ∃ (j : Nat), j ≤ 2 ∧ kv = .int .i64 j ∧ (j = 0 → Ow wr (G + 1) 5 ov L0.length (u8s L0)) ∧ (j = 1 → Ow wr (G + 1) 5 ov L1.length (u8s L1)) ∧ (j = 2 → Ow wr (G + 1) 5 ov (packL S).length (u8s (packL S))) ∧ Below w.heap.size w wr ∧ G + 1 ≤ wr.heap.size) (fun _ kv _ => 2 - (intOf kv).toNat)
    case atStart => exact ⟨0, by omega, rfl, fun _ => hs7, fun h => absurd h (by omega), fun h => absurd h (by omega), kb, hs3⟩
    case round =>
      clear hs7 kb hs3 k1
      rename_i ov wr _
      obtain ⟨j, hj, rfl, r0, r1, r2, kb, hs3⟩ := hrel
      obtain rfl | rfl | rfl : j = 0 ∨ j = 1 ∨ j = 2 := by omega
      · have ow := r0 rfl
        clear r0 r1 r2
        have hms := Lib.hid (ho.out.m0.below kb)
        go_upto_region 8 with (first | (refine wpl_storeG rfl _ _ _ rfl _ _ rfl rfl _ (Arr.new _ _ _) (by kernel_rfl) rfl hone0.out (fun W8 k6 hg hsz => ?_)))
        have hb := below_new hg
        have kb := bel kb hb
        have o4 := ow.below hb
        have hms := Lib.hid (hms.out.below hb)
        obtain ⟨g6, hg6⟩ : ∃ g, wr.heap.size = g := ⟨_, rfl⟩
        rw [hg6] at k6 ⊢
        have hz8 : G + 1 ≤ W8.heap.size := by have := hb.size; omega
        clear hg hb hsz hg6 ow
        refine Tx.start (fun w' => Below (W8).heap.size (W8) w') 9999 13 rfl (by kernel_rfl) ?_
        have hS_2 : Below (W8).heap.size (W8) (World.drew W8) := (Below.refl _ _).drew
        refine Tx.seg (A := ?_) 6 871 (by kernel_rfl) (by exact hS_2) [0, 1, 2, 5, 6, 8, 9] (by kernel_rfl) ?_ ?_
        rotate_left
        · intro w' hB
          have e0 := k6.below hB
          have y0 := e0.cell (j := 0) rfl
          have y1 := e0.cell (j := 1) rfl
          have y2 := e0.cell (j := 2) rfl
          clear e0
          iterate 7 (first | (refine rd_skip rfl rfl ?_; simp only [Act.put, List.setIfInBounds_toArray, List.set_cons_zero, List.set_cons_succ]) | (refine rd_load_arr rfl rfl _ _ rfl _ rfl (by decide +kernel) _ (by assumption) (by first | (rw [lims_len]; kernel_rfl) | (rw [el_rep]; kernel_rfl) | (rw [el_len]; kernel_rfl) | (rw [byts_len]; kernel_rfl) | (rw [us_len]; kernel_rfl) | (rw [bytn_len]; kernel_rfl) | (rw [ens_len, digs_len]; kernel_rfl) | kernel_rfl) ?_; simp only [Act.put, List.setIfInBounds_toArray, List.set_cons_zero, List.set_cons_succ]) | (refine rd_take (v := ?_) rfl rfl ?_ ?_; rotate_left; (focus (go_simp; try (with_reducible rfl))); simp only [Act.put, List.setIfInBounds_toArray, List.set_cons_zero, List.set_cons_succ]) | (refine rd_take (v := ?_) rfl rfl ?_ ?_; rotate_left; (focus (try go_simp); fail)))
          exact rd_nil
        refine Tx.eff 3 879 rfl (by decide +kernel) (fun K hK => ?_)
        go_simp
        refine hK (fun w' => Below (W8).heap.size (W8) w') _ _ (ext_trans hS_2 (Nat.le_refl _) (below_alloc _ _)) (fun _ h => h) ?_
        clear hK K
        try simp only [Act.put, List.setIfInBounds_toArray, List.set_cons_zero, List.set_cons_succ]
        refine Tx.newF (F := fun w' => Sls w' (.slice (some ⟨(W8).heap.size, 0, none⟩) 1 1) [S.m0]) (w0 := W8) (Sls.new1 (hms.out.below hS_2) _) (fun w1 h => h.below (Below.refl _ _).drew) (by first | exact .inl rfl | exact .inr rfl) (fun w_3 h3 hb_3 => ?_)
        have hS_3 : Below (W8).heap.size (W8) w_3 := by first | exact hb_3 | exact ext_trans hS_2 (Nat.le_refl _) hb_3
        clear hS_2
        have o4 := o4.below hb_3
        have hzq := hS_3.size
        refine Tx.eff 4 895 rfl (by decide +kernel) (fun K hK => ?_)
        go_simp
        refine (packBytes_any _ _ L0 [S.m0] _ (Sl.of_own o4) h3 (by simp [total]; omega)).mono ?_
        rintro e w_4 ⟨u4, rfl, o5, hb_4⟩
        have hS_4 := ext_trans hS_3 (Nat.le_refl _) hb_4
        refine hK (fun w' => Below (W8).heap.size (W8) w') _ _ hS_4 (fun _ h => h) ?_
        clear hK K hS_3
        try simp only [Act.put, List.setIfInBounds_toArray, List.set_cons_zero, List.set_cons_succ]
        have o5 : Ow w_4 (G + 1) 5 u4 (L0 ++ txs [S.m0]).length (u8s (L0 ++ txs [S.m0])) := own_mono o5 (by omega)
        refine Tx.eff 7 1023 rfl (by decide +kernel) (fun K hK => ?_)
        go_simp
        refine (bitb_any _ _).mono ?_
        rintro e w_5 ⟨rfl, hb_5⟩
        have hS_5 := ext_trans hS_4 (Nat.le_refl _) hb_5
        refine hK (fun w' => Below (W8).heap.size (W8) w') _ _ hS_5 (fun _ h => h) ?_
        clear hK K hS_4
        try simp only [Act.put, List.setIfInBounds_toArray, List.set_cons_zero, List.set_cons_succ]
        have o5 := o5.below hb_5
        refine Tx.eff 10 2047 rfl (by decide +kernel) (fun K hK => ?_)
        go_simp
        refine hK (fun w' => Below (W8).heap.size (W8) w') _ _ (ext_trans hS_5 (Nat.le_refl _) (below_alloc _ _)) (fun _ h => h) ?_
        clear hK K
        try simp only [Act.put, List.setIfInBounds_toArray, List.set_cons_zero, List.set_cons_succ]
        refine Tx.newF (F := fun w' => Sl w' (.slice (some ⟨(w_5).heap.size, 0, none⟩) 2 2) (ints [bitI S.d0, S.t0])) (w0 := w_5) (Sl.newMark _ _ _ _ _ rfl _ rfl (by decide)) (fun w1 h => h.below (Below.refl _ _).drew) (by first | exact .inl rfl | exact .inr rfl) (fun w_6 h10 hb_6 => ?_)
        have hS_6 : Below (W8).heap.size (W8) w_6 := by first | exact hb_6 | exact ext_trans hS_5 (Nat.le_refl _) hb_6
        clear hS_5
        have o5 := o5.below hb_6
        have hzq := hS_6.size
        refine Tx.eff 11 4095 rfl (by decide +kernel) (fun K hK => ?_)
        go_simp
        refine (packInt_any _ _ (L0 ++ txs [S.m0]) [bitI S.d0, S.t0] _ (Sl.of_own o5) h10 (by rw [List.length_append, txs_1]; simp; omega)).mono ?_
        rintro e w_7 ⟨u6, rfl, o6, hb_7⟩
        have hS_7 := ext_trans hS_6 (Nat.le_refl _) hb_7
        refine hK (fun w' => Below (W8).heap.size (W8) w') _ _ hS_7 (fun _ h => h) ?_
        clear hK K hS_6
        try simp only [Act.put, List.setIfInBounds_toArray, List.set_cons_zero, List.set_cons_succ]
        have o6 : Ow w_7 (G + 1) 5 u6 (L0 ++ txs [S.m0] ++ be8s [bitI S.d0, S.t0]).length (u8s (L0 ++ txs [S.m0] ++ be8s [bitI S.d0, S.t0])) := own_mono o6 (by omega)
        have kb := bel kb hS_7
        have hzz := hS_7.size
        refine Tx.seg (A := ?_) 0 8191 (by kernel_rfl) (by exact hS_7) [12] (by kernel_rfl) ?_ ?_
        rotate_left
        · intro w' hB
          iterate 1 (first | (refine rd_skip rfl rfl ?_; simp only [Act.put, List.setIfInBounds_toArray, List.set_cons_zero, List.set_cons_succ]) | (refine rd_load_arr rfl rfl _ _ rfl _ rfl (by decide +kernel) _ (by assumption) (by first | (rw [lims_len]; kernel_rfl) | (rw [el_rep]; kernel_rfl) | (rw [el_len]; kernel_rfl) | (rw [byts_len]; kernel_rfl) | (rw [us_len]; kernel_rfl) | (rw [bytn_len]; kernel_rfl) | (rw [ens_len, digs_len]; kernel_rfl) | kernel_rfl) ?_; simp only [Act.put, List.setIfInBounds_toArray, List.set_cons_zero, List.set_cons_succ]) | (refine rd_take (v := ?_) rfl rfl ?_ ?_; rotate_left; (focus (go_simp; try (with_reducible rfl))); simp only [Act.put, List.setIfInBounds_toArray, List.set_cons_zero, List.set_cons_succ]) | (refine rd_take (v := ?_) rfl rfl ?_ ?_; rotate_left; (focus (try go_simp); fail)))
          exact rd_nil
        refine Tx.done (by kernel_rfl) ?_
        rw [hL1.out] at o6
        clear hS_7 hzq
        go_wp2_with fail
        exact ⟨⟨1, by omega, by go_num, fun h => absurd h (by omega), fun _ => o6, fun h => absurd h (by omega), kb, by omega⟩, by simp [intOf]⟩
      · have ow := r1 rfl
        clear r0 r1 r2
        have hms := Lib.hid (ho.out.m1.below kb)
        go_upto_region 8 with (first | (refine wpl_storeG rfl _ _ _ rfl _ _ rfl rfl _ (Arr.new _ _ _) (by kernel_rfl) rfl hone1.out (fun W8 k6 hg hsz => ?_)))
        have hb := below_new hg
        have kb := bel kb hb
        have o4 := ow.below hb
        have hms := Lib.hid (hms.out.below hb)
        obtain ⟨g6, hg6⟩ : ∃ g, wr.heap.size = g := ⟨_, rfl⟩
        rw [hg6] at k6 ⊢
        have hz8 : G + 1 ≤ W8.heap.size := by have := hb.size; omega
        clear hg hb hsz hg6 ow
        refine Tx.start (fun w' => Below (W8).heap.size (W8) w') 9999 13 rfl (by kernel_rfl) ?_
        have hS_8 : Below (W8).heap.size (W8) (World.drew W8) := (Below.refl _ _).drew
        refine Tx.seg (A := ?_) 6 871 (by kernel_rfl) (by exact hS_8) [0, 1, 2, 5, 6, 8, 9] (by kernel_rfl) ?_ ?_
        rotate_left
        · intro w' hB
          have e0 := k6.below hB
          have y0 := e0.cell (j := 0) rfl
          have y1 := e0.cell (j := 1) rfl
          have y2 := e0.cell (j := 2) rfl
          clear e0
          iterate 7 (first | (refine rd_skip rfl rfl ?_; simp only [Act.put, List.setIfInBounds_toArray, List.set_cons_zero, List.set_cons_succ]) | (refine rd_load_arr rfl rfl _ _ rfl _ rfl (by decide +kernel) _ (by assumption) (by first | (rw [lims_len]; kernel_rfl) | (rw [el_rep]; kernel_rfl) | (rw [el_len]; kernel_rfl) | (rw [byts_len]; kernel_rfl) | (rw [us_len]; kernel_rfl) | (rw [bytn_len]; kernel_rfl) | (rw [ens_len, digs_len]; kernel_rfl) | kernel_rfl) ?_; simp only [Act.put, List.setIfInBounds_toArray, List.set_cons_zero, List.set_cons_succ]) | (refine rd_take (v := ?_) rfl rfl ?_ ?_; rotate_left; (focus (go_simp; try (with_reducible rfl))); simp only [Act.put, List.setIfInBounds_toArray, List.set_cons_zero, List.set_cons_succ]) | (refine rd_take (v := ?_) rfl rfl ?_ ?_; rotate_left; (focus (try go_simp); fail)))
          exact rd_nil
        refine Tx.eff 3 879 rfl (by decide +kernel) (fun K hK => ?_)
        go_simp
        refine hK (fun w' => Below (W8).heap.size (W8) w') _ _ (ext_trans hS_8 (Nat.le_refl _) (below_alloc _ _)) (fun _ h => h) ?_
        clear hK K
        try simp only [Act.put, List.setIfInBounds_toArray, List.set_cons_zero, List.set_cons_succ]
        refine Tx.newF (F := fun w' => Sls w' (.slice (some ⟨(W8).heap.size, 0, none⟩) 1 1) [S.m1]) (w0 := W8) (Sls.new1 (hms.out.below hS_8) _) (fun w1 h => h.below (Below.refl _ _).drew) (by first | exact .inl rfl | exact .inr rfl) (fun w_9 h3 hb_9 => ?_)
        have hS_9 : Below (W8).heap.size (W8) w_9 := by first | exact hb_9 | exact ext_trans hS_8 (Nat.le_refl _) hb_9
        clear hS_8
        have o4 := o4.below hb_9
        have hzq := hS_9.size
        refine Tx.eff 4 895 rfl (by decide +kernel) (fun K hK => ?_)
        go_simp
        refine (packBytes_any _ _ L1 [S.m1] _ (Sl.of_own o4) h3 (by simp [total]; omega)).mono ?_
        rintro e w_10 ⟨u4, rfl, o5, hb_10⟩
        have hS_10 := ext_trans hS_9 (Nat.le_refl _) hb_10
        refine hK (fun w' => Below (W8).heap.size (W8) w') _ _ hS_10 (fun _ h => h) ?_
        clear hK K hS_9
        try simp only [Act.put, List.setIfInBounds_toArray, List.set_cons_zero, List.set_cons_succ]
        have o5 : Ow w_10 (G + 1) 5 u4 (L1 ++ txs [S.m1]).length (u8s (L1 ++ txs [S.m1])) := own_mono o5 (by omega)
        refine Tx.eff 7 1023 rfl (by decide +kernel) (fun K hK => ?_)
        go_simp
        refine (bitb_any _ _).mono ?_
        rintro e w_11 ⟨rfl, hb_11⟩
        have hS_11 := ext_trans hS_10 (Nat.le_refl _) hb_11
        refine hK (fun w' => Below (W8).heap.size (W8) w') _ _ hS_11 (fun _ h => h) ?_
        clear hK K hS_10
        try simp only [Act.put, List.setIfInBounds_toArray, List.set_cons_zero, List.set_cons_succ]
        have o5 := o5.below hb_11
        refine Tx.eff 10 2047 rfl (by decide +kernel) (fun K hK => ?_)
        go_simp
        refine hK (fun w' => Below (W8).heap.size (W8) w') _ _ (ext_trans hS_11 (Nat.le_refl _) (below_alloc _ _)) (fun _ h => h) ?_
        clear hK K
        try simp only [Act.put, List.setIfInBounds_toArray, List.set_cons_zero, List.set_cons_succ]
        refine Tx.newF (F := fun w' => Sl w' (.slice (some ⟨(w_11).heap.size, 0, none⟩) 2 2) (ints [bitI S.d1, S.t1])) (w0 := w_11) (Sl.newMark _ _ _ _ _ rfl _ rfl (by decide)) (fun w1 h => h.below (Below.refl _ _).drew) (by first | exact .inl rfl | exact .inr rfl) (fun w_12 h10 hb_12 => ?_)
        have hS_12 : Below (W8).heap.size (W8) w_12 := by first | exact hb_12 | exact ext_trans hS_11 (Nat.le_refl _) hb_12
        clear hS_11
        have o5 := o5.below hb_12
        have hzq := hS_12.size
        refine Tx.eff 11 4095 rfl (by decide +kernel) (fun K hK => ?_)
        go_simp
        refine (packInt_any _ _ (L1 ++ txs [S.m1]) [bitI S.d1, S.t1] _ (Sl.of_own o5) h10 (by rw [List.length_append, txs_1]; simp; omega)).mono ?_
        rintro e w_13 ⟨u6, rfl, o6, hb_13⟩
        have hS_13 := ext_trans hS_12 (Nat.le_refl _) hb_13
        refine hK (fun w' => Below (W8).heap.size (W8) w') _ _ hS_13 (fun _ h => h) ?_
        clear hK K hS_12
        try simp only [Act.put, List.setIfInBounds_toArray, List.set_cons_zero, List.set_cons_succ]
        have o6 : Ow w_13 (G + 1) 5 u6 (L1 ++ txs [S.m1] ++ be8s [bitI S.d1, S.t1]).length (u8s (L1 ++ txs [S.m1] ++ be8s [bitI S.d1, S.t1])) := own_mono o6 (by omega)
        have kb := bel kb hS_13
        have hzz := hS_13.size
        refine Tx.seg (A := ?_) 0 8191 (by kernel_rfl) (by exact hS_13) [12] (by kernel_rfl) ?_ ?_
        rotate_left
        · intro w' hB
          iterate 1 (first | (refine rd_skip rfl rfl ?_; simp only [Act.put, List.setIfInBounds_toArray, List.set_cons_zero, List.set_cons_succ]) | (refine rd_load_arr rfl rfl _ _ rfl _ rfl (by decide +kernel) _ (by assumption) (by first | (rw [lims_len]; kernel_rfl) | (rw [el_rep]; kernel_rfl) | (rw [el_len]; kernel_rfl) | (rw [byts_len]; kernel_rfl) | (rw [us_len]; kernel_rfl) | (rw [bytn_len]; kernel_rfl) | (rw [ens_len, digs_len]; kernel_rfl) | kernel_rfl) ?_; simp only [Act.put, List.setIfInBounds_toArray, List.set_cons_zero, List.set_cons_succ]) | (refine rd_take (v := ?_) rfl rfl ?_ ?_; rotate_left; (focus (go_simp; try (with_reducible rfl))); simp only [Act.put, List.setIfInBounds_toArray, List.set_cons_zero, List.set_cons_succ]) | (refine rd_take (v := ?_) rfl rfl ?_ ?_; rotate_left; (focus (try go_simp); fail)))
          exact rd_nil
        refine Tx.done (by kernel_rfl) ?_
        have hfin : Hid (L1 ++ txs [S.m1] ++ be8s [bitI S.d1, S.t1] = packL S) := Lib.hid (by rw [← hL1.out, ← hL0.out, ← hb2.out]; rfl)
        rw [hfin.out] at o6
        clear hS_13 hzq
        go_wp2_with fail
        exact ⟨⟨2, by omega, by go_num, fun h => absurd h (by omega), fun h => absurd h (by omega), fun _ => o6, kb, by omega⟩, by simp [intOf]⟩
      · have ow := r2 rfl
        clear r0 r1 r2
        go_wp2_with fail
        go_ret2
        refine ⟨_, by rw [hq.out] <;> rfl, ?_, kb⟩
        rw [hq.out]
        exact own_mono ow (by rw [hG.out]; omega)

end Go.Proofs.Ytkipejhjpfakpaa
