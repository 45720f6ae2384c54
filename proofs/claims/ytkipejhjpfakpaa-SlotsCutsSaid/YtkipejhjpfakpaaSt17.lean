/- slots: Read. -/
import Derived.Test.YtkipejhjpfakpaaSt16
namespace Go.Proofs.Ytkipejhjpfakpaa
open Go.RowKit

theorem rest_int {r rr : List UInt8} {b bb : Bool} {m : Int} {n : Nat} (h : intS r b = (m, rr, bb)) (hl : r.length ≤ n) : rr.length ≤ n := by
  have := rawS_rest r b 8
  unfold intS at h
  simp only [Prod.mk.injEq] at h
  rw [h.2] at this
  simp only at this
  omega
theorem rest_raw {r rr m : List UInt8} {b bb : Bool} {k : Int} {n : Nat} (h : rawS r b k = (m, rr, bb)) (hl : r.length ≤ n) : rr.length ≤ n := by
  have := rawS_rest r b k
  rw [h] at this
  simp only at this
  omega

theorem rest_bytes {r rr m : List UInt8} {b bb : Bool} {n : Nat} (h : bytesS r b = (m, rr, bb)) (hl : r.length ≤ n) : rr.length ≤ n := by
  obtain ⟨x, r1, b1, h1⟩ : ∃ m rr bb, intS r b = (m, rr, bb) := ⟨_, _, _, rfl⟩
  have h2 := rest_int h1 hl
  unfold bytesS at h
  rw [h1] at h
  exact rest_raw h h2

theorem read_no {b m r : List UInt8} {S : Stt} {bd : Bool} (hp : parse b = ⟨m, S, r, bd⟩) (h : packS S ≠ (b, 0)) : readS b = (zeroS, 4) := by
  unfold readS
  rw [hp, if_neg (fun h2 => h h2.2)]
theorem read_end {b m r : List UInt8} {S : Stt} {bd : Bool} (hp : parse b = ⟨m, S, r, bd⟩) (he : endS r bd = false) : readS b = (zeroS, 4) :=
  read_no hp (fun h => by
    have h1 := read_ok (b := b) (by rw [hp]; exact h)
    rw [hp] at h1
    obtain ⟨h2, -, h3⟩ := h1
    simp only at h2 h3
    subst h2 h3
    cases he)
theorem read_mark {b m r : List UInt8} {S : Stt} {bd : Bool} (hp : parse b = ⟨m, S, r, bd⟩) (hm : (m == [80, 67, 83, 49]) = false) : readS b = (zeroS, 4) :=
  read_no hp (fun h => by
    have h1 := read_ok (b := b) (by rw [hp]; exact h)
    rw [hp] at h1
    obtain ⟨-, h2, -⟩ := h1
    simp only at h2
    subst h2
    revert hm
    decide)
theorem read_yes {b m r : List UInt8} {S : Stt} {bd : Bool} (hp : parse b = ⟨m, S, r, bd⟩) (h : packS S = (b, 0)) : readS b = (S, 0) := by
  have h1 := read_ok (b := b) (by rw [hp]; exact h)
  rw [hp] at h1
  unfold readS
  rw [hp, if_pos ⟨h1.1, h⟩]

theorem beq_any (va vb : Value) (a b : List UInt8) (w : World) (ha : Sl w va (u8s a)) (hb : Sl w vb (u8s b)) : Calls Try.prog 57 #[va, vb] w fun e w' => e = .returned (.bool (a == b)) ∧ Below w.heap.size w w' := by
  have sa := str ha
  have sb := str hb
  obtain ⟨aa, ca, rfl, -, -⟩ := slice_of ha
  obtain ⟨ab, cb, rfl, -, -⟩ := slice_of hb
  go_enter Try.func57, Try.ntmps57
  go_wp2_with fail
  go_ret
  exact ⟨rfl, Below.refl _ _⟩

set_option maxHeartbeats 4000000 in
set_option maxRecDepth 100000 in
theorem read_any (vb : Value) (bs : List UInt8) (w : World) (h : Sl w vb (u8s bs)) (hl : bs.length ≤ 100000) : Calls Try.prog 24 #[vb] w (RetSt2 (readS bs) w) := by
  have hs := Lib.hid h
  clear h
  obtain ⟨R, hR⟩ : ∃ R, readS bs = R := ⟨_, rfl⟩
  rw [hR]
  replace hR := Lib.hid hR
  have hzone : ∀ u ∈ zeroS.cs nilSv, u.oneCell' = true := StOk.one (w := w) (zeroS_own 0 w).ok
  replace hzone := Lib.hid hzone
  obtain ⟨m, r1, b1, hp1⟩ : ∃ m r b, rawS bs false 4 = (m, r, b) := ⟨_, _, _, rfl⟩
  have hl1 : r1.length ≤ 100000 := by have := rawS_rest bs false 4; rw [hp1] at this; simp only at this; omega
  obtain ⟨f, r2, b2, hp2⟩ : ∃ m r b, intS r1 b1 = (m, r, b) := ⟨_, _, _, rfl⟩
  have hl2 : r2.length ≤ 100000 := by have := rawS_rest r1 b1 8; unfold intS at hp2; simp only [Prod.mk.injEq] at hp2; rw [hp2.2] at this; simp only at this; omega
  obtain ⟨n, r3, b3, hp3⟩ : ∃ m r b, intS r2 b2 = (m, r, b) := ⟨_, _, _, rfl⟩
  have hl3 : r3.length ≤ 100000 := by have := rawS_rest r2 b2 8; unfold intS at hp3; simp only [Prod.mk.injEq] at hp3; rw [hp3.2] at this; simp only at this; omega
  have q1 := Lib.hid hp1
  have q2 := Lib.hid hp2
  have q3 := Lib.hid hp3
  clear hp1 hp2 hp3
  go_enter Try.func24, Try.ntmps24
  go_upto_region 1 with fail
  refine wp_new1 (fun W hsz k0 kb => ?_)
  obtain ⟨G, hG⟩ : ∃ G, w.heap.size = G := ⟨_, rfl⟩
  rw [hG] at k0 hsz ⊢
  replace hG := Lib.hid hG
  go_wp2_with fail
  refine (packNew_any vb bs _ (hs.out.below kb) (by omega)).mono ?_
  rintro e w1 ⟨gc, rfl, hgc, cu, hb⟩
  have k0 := Lib.hid (k0.below hb)
  have kb := Lib.hid (bel kb hb)
  have hlc : G < gc := by omega
  clear hb hsz
  have cu := Lib.hid cu
  go_wp2_with fail
  refine (raw_any gc bs false 4 _ cu.out (by omega)).mono ?_
  rintro e w2 ⟨um, rfl, om, hg, cu⟩
  rw [q1.out] at om cu
  have hst := str (Sl.of_own om)
  have k0 := Lib.hid (k0.out.kept hg (by omega))
  have kb := Lib.hid (below_gr kb.out hg (by rw [hG.out]; omega) kb.out.size)
  have cu := Lib.hid cu
  clear hg om
  simp only at hst
  go_wp2_with fail
  refine (int_any gc r1 b1 _ cu.out (by omega)).mono ?_
  rintro e w3 ⟨rfl, hg, cu⟩
  rw [q2.out] at cu ⊢
  have k0 := Lib.hid (k0.out.kept hg (by omega))
  have kb := Lib.hid (below_gr kb.out hg (by rw [hG.out]; omega) kb.out.size)
  have cu := Lib.hid cu
  clear hg hst
  have hone : ∀ u ∈ Stt.cs ⟨f, [], [], false, 0, [], false, 0, 0⟩ nilSv, u.oneCell' = true := StOk.one (w := w) (show StOwn 0 w ⟨f, [], [], false, 0, [], false, 0, 0⟩ nilSv from ⟨World.ownsRow_nil _ _ _ _, World.ownsRow_nil _ _ _ _, World.ownsRow_nil _ _ _ _⟩).ok
  replace hone := Lib.hid hone
  simp only
  go_upto_region 4 with (first | (refine wpl_storeG rfl _ _ _ rfl _ _ rfl rfl _ (Arr.new _ _ _) (by kernel_rfl) rfl hone.out (fun W4 k6 hg hsz => ?_)))
  have hb := below_new hg
  have hlt : gc < w3.heap.size := cu.out.lt
  have k0 := Lib.hid (k0.out.below hb)
  have kb := Lib.hid (bel kb.out hb)
  have cu := Lib.hid (cu.out.below hb)
  obtain ⟨g6, hg6⟩ : ∃ g, w3.heap.size = g := ⟨_, rfl⟩
  rw [hg6] at k6 hlt ⊢
  clear hg hb hsz hg6 hone
  have hC := Lib.hid (curLike gc)
  have rd : Rd (fun w r b => Cur w gc r b) w gc g6 W4 ⟨f, [], [], false, 0, [], false, 0, 0⟩ nilSv r2 b2 := ⟨k6, ⟨World.ownsRow_nil _ _ _ _, World.ownsRow_nil _ _ _ _, World.ownsRow_nil _ _ _ _⟩, cu.out, hlt, by rw [hG.out]; omega, kb.out⟩
  clear k6 kb cu
  go_wp2_with fail
  refine (int_any gc r2 b2 _ rd.cur (by omega)).mono ?_
  rintro e w5 ⟨rfl, hg, cu⟩
  rw [q3.out] at cu ⊢
  have rd := rd.call hg cu
  have k0 := Lib.hid (k0.out.kept hg (by omega))
  clear hg cu
  simp only at rd ⊢
  obtain ⟨N, hN⟩ : ∃ N : Nat, (min n 33).toNat = N := ⟨_, rfl⟩
  obtain ⟨X, hX⟩ : ∃ X : Int, min n 33 = X := ⟨_, rfl⟩
  have hX33 : X ≤ 33 := by omega
  rw [hX] at hN
  go_wp2_with fail
  replace hX := Lib.hid hX
  have k0 := k0.out
  obtain ⟨ti, hti, htz0, htz1, htz2⟩ := info_parts info_int
  go_loopw [7] (fun nv wr => ∃ (k : Nat) (acc : List Int) (v : Sv) (r : List UInt8) (b : Bool), k ≤ N ∧ nv = .int .i64 (X - k) ∧ parseRev N r3 b3 [] = parseRev (N - k) r b acc ∧ acc.length = k ∧ r.length ≤ 100000 ∧
    Rd (fun w r b => Cur w gc r b) w gc g6 wr ⟨f, acc, [], false, 0, [], false, 0, 0⟩ v r b ∧ Arr wr G (zeroS.cs nilSv)) (fun nv _ => (intOf nv).toNat)
  case atStart => exact ⟨0, [], nilSv, r3, b3, Nat.zero_le _, by simp, rfl, rfl, hl3, rd, k0⟩
  case round =>
    clear rd k0
    obtain ⟨k, acc, v, r, b, hk, rfl, hpr, hac, hlr, rd, k0⟩ := hrel
    have hpr := Lib.hid hpr
    by_cases hlt : k < N
    · have hgt : 0 < X - (k : Int) := by omega
      obtain ⟨x, r', b', hx⟩ : ∃ m rr bb, intS r b = (m, rr, bb) := ⟨_, _, _, rfl⟩
      have hlr' : r'.length ≤ 100000 := by have := rawS_rest r b 8; unfold intS at hx; simp only [Prod.mk.injEq] at hx; rw [hx.2] at this; simp only at this; omega
      have hpr2 : Hid (parseRev N r3 b3 [] = parseRev (N - (k + 1)) r' b' (acc ++ [x])) := Lib.hid (by
        rw [hpr.out, show N - k = (N - (k + 1)) + 1 by omega, parseRev, hx])
      replace hx := Lib.hid hx
      have k0 := Lib.hid k0
      go_upto_region 7 with fail
      refine Tx.start (fun w' => w'.cell? ⟨g6, 1, none⟩ = some v.rv) 7 8 rfl (by kernel_rfl) ?_
      have hS0 : wr.drew.cell? ⟨g6, 1, none⟩ = some v.rv := rd.k.cell (j := 1) rfl
      have rd := rd.below hC.out ((Below.refl wr.heap.size wr).drew)
      have k0 := Lib.hid (k0.out.below ((Below.refl wr.heap.size wr).drew))
      refine Tx.seg (A := ?_) 5 7 (by kernel_rfl) (by exact hS0) [0, 1, 2] (by kernel_rfl) ?_ ?_
      rotate_left
      · intro w' hB
        have x1 : w'.cell? ⟨g6, 1, none⟩ = some v.rv := hB
        iterate 3 (first | (refine rd_skip rfl rfl ?_; simp only [Act.put, List.setIfInBounds_toArray, List.set_cons_zero, List.set_cons_succ]) | (refine rd_load_arr rfl rfl _ _ rfl _ rfl (by decide +kernel) _ (by assumption) (by first | (rw [lims_len]; kernel_rfl) | (rw [el_rep]; kernel_rfl) | (rw [el_len]; kernel_rfl) | (rw [byts_len]; kernel_rfl) | (rw [us_len]; kernel_rfl) | (rw [bytn_len]; kernel_rfl) | (rw [ens_len, digs_len]; kernel_rfl) | kernel_rfl) ?_; simp only [Act.put, List.setIfInBounds_toArray, List.set_cons_zero, List.set_cons_succ]) | (refine rd_take (v := ?_) rfl rfl ?_ ?_; rotate_left; (focus (go_simp; try (with_reducible rfl))); simp only [Act.put, List.setIfInBounds_toArray, List.set_cons_zero, List.set_cons_succ]) | (refine rd_take (v := ?_) rfl rfl ?_ ?_; rotate_left; (focus (try go_simp); fail)))
        exact rd_nil
      refine Tx.eff 3 15 rfl (by decide +kernel) (fun K hK => ?_)
      go_simp
      refine (int_any gc r b _ rd.cur (by omega)).mono ?_
      rintro e w6 ⟨rfl, hg, cu⟩
      rw [hx.out] at cu ⊢
      have rd := rd.call hg cu
      have k0 := Lib.hid (k0.out.kept hg (by have := rd.lt; omega))
      clear hg cu hS0
      simp only at rd
      refine hK (fun w' => w'.cell? ⟨g6, 1, none⟩ = some v.rv) _ _ (rd.k.cell (j := 1) rfl) (fun _ h => h) ?_
      clear hK K
      refine Tx.eff 4 31 rfl (by decide +kernel) (fun K hK => ?_)
      go_simp
      have hal := below_alloc w6 (.cells #[.int .i64 x] 3)
      have rd := rd.below hC.out hal
      have k0 := Lib.hid (k0.out.below hal)
      have hnew := Lib.hid (Sl.new1 w6 (.int .i64 x) 3)
      refine hK (fun w' => w'.cell? ⟨g6, 1, none⟩ = some v.rv) _ _ (rd.k.cell (j := 1) rfl) (fun _ h => h) ?_
      clear hK K hal
      refine Tx.eff 5 63 rfl (by decide +kernel) (fun K hK => ?_)
      refine step_append_sl rfl _ _ 22 rfl (g6 + 1) 3 Try.underlying22 hti htz0 htz1 htz2 rfl v.rv _ _ rfl rd.own.rv _ [.int .i64 x] rfl hnew.out (fun z hz => by rw [List.mem_singleton.1 hz]; rfl) ?c2 ?c3 (by have := rd.k.lt; omega) ?_
      case c2 => simp only [List.length_singleton]; unfold maxLen; omega
      case c3 => simp only [List.length_singleton]; omega
      intro u w8 hou hgu
      simp only [List.length_singleton] at hou
      have k8 := rd.k.keptO hgu (fun e => by have := (rd.own.rv.lt _ e).1; omega)
      have k0 := Lib.hid (k0.out.keptO hgu (fun e => by have := (rd.own.rv.lt _ e).1; have := rd.lt; omega))
      have hb8 := k8.cell (j := 1) rfl
      refine hK (fun w' => w'.cell? ⟨g6, 1, none⟩ = some v.rv) _ _ hb8 (fun _ h => h) ?_
      clear hK K
      try simp only [Act.put, List.setIfInBounds_toArray, List.set_cons_zero, List.set_cons_succ]
      refine Tx.seg (A := ?_) 1 127 (by kernel_rfl) (by exact hb8) [6] (by kernel_rfl) ?_ ?_
      rotate_left
      · intro w' hB
        iterate 1 (first | (refine rd_skip rfl rfl ?_; simp only [Act.put, List.setIfInBounds_toArray, List.set_cons_zero, List.set_cons_succ]) | (refine rd_load_arr rfl rfl _ _ rfl _ rfl (by decide +kernel) _ (by assumption) (by first | (rw [lims_len]; kernel_rfl) | (rw [el_rep]; kernel_rfl) | (rw [el_len]; kernel_rfl) | (rw [byts_len]; kernel_rfl) | (rw [us_len]; kernel_rfl) | (rw [bytn_len]; kernel_rfl) | (rw [ens_len, digs_len]; kernel_rfl) | kernel_rfl) ?_; simp only [Act.put, List.setIfInBounds_toArray, List.set_cons_zero, List.set_cons_succ]) | (refine rd_take (v := ?_) rfl rfl ?_ ?_; rotate_left; (focus (go_simp; try (with_reducible rfl))); simp only [Act.put, List.setIfInBounds_toArray, List.set_cons_zero, List.set_cons_succ]) | (refine rd_take (v := ?_) rfl rfl ?_ ?_; rotate_left; (focus (try go_simp); fail)))
        exact rd_nil
      refine Tx.bar 255 rfl (by decide +kernel) (fun K hK => ?_)
      refine step_cellG rfl _ _ _ rfl g6 1 u rfl rfl _ k8 (by kernel_rfl) (Nat.le_of_ble_eq_true rfl) (by obtain ⟨_, _, h⟩ := own_shape hou; rw [h]; rfl) (fun W9 k9 hg9 hsz9 => ?_)
      refine hK (fun _ => True) 9999 _ _ ?_
      clear hK K
      try simp only [Act.put]
      try simp only [List.setIfInBounds_toArray, List.set_cons_zero, List.set_cons_succ]
      refine Tx.done (by kernel_rfl) ?_
      have k0 := k0.out.kept hg9 (by have := rd.lt; omega)
      have hou : w8.ownsRow (g6 + 1) 3 1 u (acc.length + 1) (ints (acc ++ [x])) := by
        rw [show ints (acc ++ [x]) = ints acc ++ [.int .i64 x] by simp [ints]]
        exact hou
      have rd := Rd.append rd hC.out (x := x) (u := u) hgu hou hg9 k9
      clear hgu hou hg9 hsz9 k9 k8 hb8 hnew
      have ew : IntKind.i64.wrap (X - k - 1) = X - ((k + 1 : Nat) : Int) := by rw [i64_in (by omega)]; omega
      go_wp2_with fail
      exact ⟨⟨k + 1, acc ++ [x], _, r', b', by omega, congrArg (Value.int .i64) (by omega), hpr2.out, by simp [hac], hlr', rd, k0⟩, by simp only [intOf]; omega⟩
    · obtain rfl : k = N := by omega
      go_wp2_with fail
      have hpr := hpr.out
      rw [show k - k = 0 by omega, parseRev] at hpr
      have hpr := Lib.hid hpr
      obtain ⟨c, r4, b4, hp4⟩ : ∃ m rr bb, intS r b = (m, rr, bb) := ⟨_, _, _, rfl⟩
      have hl4 := rest_int hp4 hlr
      have q4 := Lib.hid hp4
      clear hp4
      refine (int_any gc r b _ rd.cur (by omega)).mono ?_
      rintro e w5 ⟨rfl, hg, cu⟩
      rw [q4.out] at cu ⊢
      have rd := rd.call hg cu
      have k0 := Lib.hid (k0.kept hg (by have := rd.lt; omega))
      clear hg cu
      simp only at rd ⊢
      have k6 := rd.k
      go_upto_region 9 with (first | (refine wpl_cellG rfl _ _ _ rfl g6 8 (.int .i64 c) rfl rfl _ k6 (by kernel_rfl) (Nat.le_of_ble_eq_true rfl) rfl (fun W6 k6 hg hsz => ?_)))
      have rd : Rd (fun w r b => Cur w gc r b) w gc g6 W6 ⟨f, acc, [], false, 0, [], false, 0, c⟩ v r4 b4 := rd.set hC.out hg k6 ⟨rd.own.rv, rd.own.m0, rd.own.m1⟩
      have k0 := Lib.hid (k0.out.kept hg (by have := rd.lt; omega))
      clear hg hsz k6
      --SLOTS
      obtain ⟨M0, r5, b5, hp5⟩ : ∃ m rr bb, bytesS r4 b4 = (m, rr, bb) := ⟨_, _, _, rfl⟩
      have hl5 := rest_bytes hp5 hl4
      obtain ⟨D0, r6, b6, hp6⟩ : ∃ m rr bb, intS r5 b5 = (m, rr, bb) := ⟨_, _, _, rfl⟩
      have hl6 := rest_int hp6 hl5
      obtain ⟨T0, r7, b7, hp7⟩ : ∃ m rr bb, intS r6 b6 = (m, rr, bb) := ⟨_, _, _, rfl⟩
      have hl7 := rest_int hp7 hl6
      obtain ⟨M1, r8, b8, hp8⟩ : ∃ m rr bb, bytesS r7 b7 = (m, rr, bb) := ⟨_, _, _, rfl⟩
      have hl8 := rest_bytes hp8 hl7
      obtain ⟨D1, r9, b9, hp9⟩ : ∃ m rr bb, intS r8 b8 = (m, rr, bb) := ⟨_, _, _, rfl⟩
      have hl9 := rest_int hp9 hl8
      obtain ⟨T1, r10, b10, hp10⟩ : ∃ m rr bb, intS r9 b9 = (m, rr, bb) := ⟨_, _, _, rfl⟩
      have q5 := Lib.hid hp5
      have q6 := Lib.hid hp6
      have q7 := Lib.hid hp7
      have q8 := Lib.hid hp8
      have q9 := Lib.hid hp9
      have q10 := Lib.hid hp10
      clear hp5 hp6 hp7 hp8 hp9 hp10
      go_wp2_with fail
      go_loopw [36] (fun iv wr => ((iv = .int .i64 0 ∧ ∃ v, Rd (fun w r b => Cur w gc r b) w gc g6 wr ⟨f, acc, [], false, 0, [], false, 0, c⟩ v r4 b4) ∨ (iv = .int .i64 1 ∧ ∃ v, Rd (fun w r b => Cur w gc r b) w gc g6 wr ⟨f, acc, M0, D0 == 1, T0, [], false, 0, c⟩ v r7 b7) ∨
        (iv = .int .i64 2 ∧ ∃ v, Rd (fun w r b => Cur w gc r b) w gc g6 wr ⟨f, acc, M0, D0 == 1, T0, M1, D1 == 1, T1, c⟩ v r10 b10)) ∧ Hid (Arr wr G (zeroS.cs nilSv))) (fun iv _ => (2 - intOf iv).toNat)
      case atStart => exact ⟨.inl ⟨rfl, v, rd⟩, k0⟩
      case round =>
        clear rd k0
        obtain ⟨hrel, k0⟩ := hrel
        rcases hrel with ⟨rfl, v, rd⟩ | ⟨rfl, v, rd⟩ | ⟨rfl, v, rd⟩
        · go_wp2_with fail
          refine (bytes_any gc r4 b4 _ rd.cur (by omega)).mono ?_
          rintro e w2 ⟨um, rfl, om, hg, cu⟩
          rw [q5.out] at om cu
          have om := own_mono om (show g6 + 1 ≤ _ from rd.k.lt)
          have rd := rd.call hg cu
          have k0 := Lib.hid (k0.out.kept hg (by have := rd.lt; omega))
          clear hg cu
          simp only at rd om
          have k6 := rd.k
          go_upto_region 13 with (first | (refine wpl_cellG rfl _ _ _ rfl g6 2 um rfl rfl _ k6 (by kernel_rfl) (Nat.le_of_ble_eq_true rfl) (by obtain ⟨_, _, h⟩ := own_shape om; rw [h]; rfl) (fun W6 k6 hg hsz => ?_)))
          have rd : Rd (fun w r b => Cur w gc r b) w gc g6 W6 ⟨f, acc, M0, false, 0, [], false, 0, c⟩ { v with m0 := um } r5 b5 := rd.set hC.out hg k6 ⟨rd.own.rv, om, rd.own.m1⟩
          have k0 := Lib.hid (k0.out.kept hg (by have := rd.lt; omega))
          clear hg hsz k6 om
          go_wp2_with fail
          refine (int_any gc r5 b5 _ rd.cur (by omega)).mono ?_
          rintro e w3 ⟨rfl, hg, cu⟩
          rw [q6.out] at cu ⊢
          have rd := rd.call hg cu
          have k0 := Lib.hid (k0.out.kept hg (by have := rd.lt; omega))
          clear hg cu
          simp only at rd ⊢
          have k6 := rd.k
          go_upto_region 14 with (first | (refine wpl_cellG rfl _ _ _ rfl g6 3 (.bool (D0 == 1)) rfl rfl _ k6 (by kernel_rfl) (Nat.le_of_ble_eq_true rfl) rfl (fun W6 k6 hg hsz => ?_)))
          have rd : Rd (fun w r b => Cur w gc r b) w gc g6 W6 ⟨f, acc, M0, D0 == 1, 0, [], false, 0, c⟩ { v with m0 := um } r6 b6 := rd.set hC.out hg k6 ⟨rd.own.rv, rd.own.m0, rd.own.m1⟩
          have k0 := Lib.hid (k0.out.kept hg (by have := rd.lt; omega))
          clear hg hsz k6
          go_wp2_with fail
          refine (int_any gc r6 b6 _ rd.cur (by omega)).mono ?_
          rintro e w4 ⟨rfl, hg, cu⟩
          rw [q7.out] at cu ⊢
          have rd := rd.call hg cu
          have k0 := Lib.hid (k0.out.kept hg (by have := rd.lt; omega))
          clear hg cu
          simp only at rd ⊢
          have k6 := rd.k
          go_upto_region 15 with (first | (refine wpl_cellG rfl _ _ _ rfl g6 4 (.int .i64 T0) rfl rfl _ k6 (by kernel_rfl) (Nat.le_of_ble_eq_true rfl) rfl (fun W6 k6 hg hsz => ?_)))
          have rd : Rd (fun w r b => Cur w gc r b) w gc g6 W6 ⟨f, acc, M0, D0 == 1, T0, [], false, 0, c⟩ { v with m0 := um } r7 b7 := rd.set hC.out hg k6 ⟨rd.own.rv, rd.own.m0, rd.own.m1⟩
          have k0 := Lib.hid (k0.out.kept hg (by have := rd.lt; omega))
          clear hg hsz k6
          go_wp2_with fail
          exact ⟨⟨.inr (.inl ⟨rfl, _, rd⟩), k0⟩, by simp [intOf]⟩
        · go_wp2_with fail
          refine (bytes_any gc r7 b7 _ rd.cur (by omega)).mono ?_
          rintro e w2 ⟨um, rfl, om, hg, cu⟩
          rw [q8.out] at om cu
          have om := own_mono om (show g6 + 1 ≤ _ from rd.k.lt)
          have rd := rd.call hg cu
          have k0 := Lib.hid (k0.out.kept hg (by have := rd.lt; omega))
          clear hg cu
          simp only at rd om
          have k6 := rd.k
          go_upto_region 13 with (first | (refine wpl_cellG rfl _ _ _ rfl g6 5 um rfl rfl _ k6 (by kernel_rfl) (Nat.le_of_ble_eq_true rfl) (by obtain ⟨_, _, h⟩ := own_shape om; rw [h]; rfl) (fun W6 k6 hg hsz => ?_)))
          have rd : Rd (fun w r b => Cur w gc r b) w gc g6 W6 ⟨f, acc, M0, D0 == 1, T0, M1, false, 0, c⟩ { v with m1 := um } r8 b8 := rd.set hC.out hg k6 ⟨rd.own.rv, rd.own.m0, om⟩
          have k0 := Lib.hid (k0.out.kept hg (by have := rd.lt; omega))
          clear hg hsz k6 om
          go_wp2_with fail
          refine (int_any gc r8 b8 _ rd.cur (by omega)).mono ?_
          rintro e w3 ⟨rfl, hg, cu⟩
          rw [q9.out] at cu ⊢
          have rd := rd.call hg cu
          have k0 := Lib.hid (k0.out.kept hg (by have := rd.lt; omega))
          clear hg cu
          simp only at rd ⊢
          have k6 := rd.k
          go_upto_region 14 with (first | (refine wpl_cellG rfl _ _ _ rfl g6 6 (.bool (D1 == 1)) rfl rfl _ k6 (by kernel_rfl) (Nat.le_of_ble_eq_true rfl) rfl (fun W6 k6 hg hsz => ?_)))
          have rd : Rd (fun w r b => Cur w gc r b) w gc g6 W6 ⟨f, acc, M0, D0 == 1, T0, M1, D1 == 1, 0, c⟩ { v with m1 := um } r9 b9 := rd.set hC.out hg k6 ⟨rd.own.rv, rd.own.m0, rd.own.m1⟩
          have k0 := Lib.hid (k0.out.kept hg (by have := rd.lt; omega))
          clear hg hsz k6
          go_wp2_with fail
          refine (int_any gc r9 b9 _ rd.cur (by omega)).mono ?_
          rintro e w4 ⟨rfl, hg, cu⟩
          rw [q10.out] at cu ⊢
          have rd := rd.call hg cu
          have k0 := Lib.hid (k0.out.kept hg (by have := rd.lt; omega))
          clear hg cu
          simp only at rd ⊢
          have k6 := rd.k
          go_upto_region 15 with (first | (refine wpl_cellG rfl _ _ _ rfl g6 7 (.int .i64 T1) rfl rfl _ k6 (by kernel_rfl) (Nat.le_of_ble_eq_true rfl) rfl (fun W6 k6 hg hsz => ?_)))
          have rd : Rd (fun w r b => Cur w gc r b) w gc g6 W6 ⟨f, acc, M0, D0 == 1, T0, M1, D1 == 1, T1, c⟩ { v with m1 := um } r10 b10 := rd.set hC.out hg k6 ⟨rd.own.rv, rd.own.m0, rd.own.m1⟩
          have k0 := Lib.hid (k0.out.kept hg (by have := rd.lt; omega))
          clear hg hsz k6
          go_wp2_with fail
          exact ⟨⟨.inr (.inr ⟨rfl, _, rd⟩), k0⟩, by simp [intOf]⟩
        · go_wp2_with fail
          refine (end_any gc r10 b10 _ rd.cur).mono ?_
          rintro e w' ⟨rfl, hw⟩
          rw [hw]
          clear hw w'
          have k2 := k0.out
          have hP : Hid (parse bs = ⟨m, ⟨f, acc, M0, D0 == 1, T0, M1, D1 == 1, T1, c⟩, r10, b10⟩) := Lib.hid (by
            unfold parse
            simp only [q1.out, q2.out, q3.out, hX.out, hN, hpr.out, q4.out, q5.out, q6.out, q7.out, q8.out, q9.out, q10.out])
          have fin1 : readS bs = (zeroS, 4) → R = (zeroS, 4) := fun h => by rw [← hR.out, h]
          replace fin1 := Lib.hid fin1
          cases he : endS r10 b10 with
          | false =>
            have hq := Lib.hid (fin1.out (read_end hP.out he))
            go_wp2_with (first | (refine wpl_storeG rfl _ _ _ rfl _ _ rfl rfl _ k2 (by kernel_rfl) rfl hzone.out (fun W3 k2 hg hsz => ?_)))
            have kb3 := below_gr rd.kb hg (by rw [hG.out]; omega) rd.kb.size
            refine bodyPost_ret (res_st2 Try.results24 _ _ _ rfl (by kernel_rfl) _ k2 (by kernel_rfl) _ rfl) rfl ?_
            rw [hq.out]
            exact ⟨nilSv, rfl, zeroS_own _ _, kb3⟩
          | true =>
            cases hm : (m == [80, 67, 83, 49]) with
            | false =>
              have hq := Lib.hid (fin1.out (read_mark hP.out hm))
              go_wp2_with (first | (refine wpl_storeG rfl _ _ _ rfl _ _ rfl rfl _ k2 (by kernel_rfl) rfl hzone.out (fun W3 k2 hg hsz => ?_)))
              have kb3 := below_gr rd.kb hg (by rw [hG.out]; omega) rd.kb.size
              refine bodyPost_ret (res_st2 Try.results24 _ _ _ rfl (by kernel_rfl) _ k2 (by kernel_rfl) _ rfl) rfl ?_
              rw [hq.out]
              exact ⟨nilSv, rfl, zeroS_own _ _, kb3⟩
            | true =>
              obtain ⟨S5, hS5⟩ : ∃ S : Stt, (⟨f, acc, M0, D0 == 1, T0, M1, D1 == 1, T1, c⟩ : Stt) = S := ⟨_, rfl⟩
              rw [hS5] at rd hP
              clear hS5
              have k6 := rd.k
              go_wp2_with (first | (refine wpList_load_arr2 rfl _ _ rfl _ rfl (by decide +kernel) _ (by assumption) (by first | (rw [lims_len]; kernel_rfl) | (rw [el_rep]; kernel_rfl) | (rw [el_len]; kernel_rfl) | (rw [byts_len]; kernel_rfl) | (rw [us_len]; kernel_rfl) | (rw [bytn_len]; kernel_rfl) | (rw [ens_len, digs_len]; kernel_rfl) | kernel_rfl) ?_) | fail)
              refine (pack_any S5 v _ rd.own.ok).mono ?_
              obtain ⟨⟨L, ee⟩, hL⟩ : ∃ p, packS S5 = p := ⟨_, rfl⟩
              rw [hL]
              rintro e w7 ⟨vp, rfl, op, hb⟩
              have rd := rd.below hC.out hb
              have k2 := k2.below hb
              have sp := Lib.hid (Sl.of_own op)
              have hs := Lib.hid (hs.out.below rd.kb)
              simp only at sp
              clear hb op k6
              by_cases hee : ee = 0
              · subst hee
                go_wp2_with fail
                refine (beq_any _ _ _ _ _ sp.out hs.out).mono ?_
                rintro e w8 ⟨rfl, hb⟩
                have rd := rd.below hC.out hb
                have k2 := k2.below hb
                clear hb
                cases he2 : (L == bs) with
                | true =>
                  have hq : Hid (R = (S5, 0)) := Lib.hid (by rw [← hR.out]; exact read_yes hP.out (by rw [hL, eq_of_beq he2]))
                  have k6 := rd.k
                  go_wp2_with (first | (refine wpList_load_arr2 rfl _ _ rfl _ rfl (by decide +kernel) _ (by assumption) (by first | (rw [lims_len]; kernel_rfl) | (rw [el_rep]; kernel_rfl) | (rw [el_len]; kernel_rfl) | (rw [byts_len]; kernel_rfl) | (rw [us_len]; kernel_rfl) | (rw [bytn_len]; kernel_rfl) | (rw [ens_len, digs_len]; kernel_rfl) | kernel_rfl) ?_) | (refine wpl_storeG rfl _ _ _ rfl _ _ rfl rfl _ k2 (by kernel_rfl) rfl rd.own.ok.one (fun W3 k2 hg hsz => ?_)))
                  have hB : w.heap.size ≤ g6 + 1 := by have := rd.lt; have := rd.lw; omega
                  have kb3 := below_gr rd.kb hg (by rw [hG.out]; omega) rd.kb.size
                  have ho := rd.own.grown hg (by have := rd.lt; omega)
                  refine bodyPost_ret (res_st2 Try.results24 _ _ _ rfl (by kernel_rfl) _ k2 (by kernel_rfl) _ rfl) rfl ?_
                  rw [hq.out]
                  exact ⟨v, rfl, ho.mono hB, kb3⟩
                | false =>
                  have hq := Lib.hid (fin1.out (read_no hP.out (fun h => by rw [hL] at h; rw [(Prod.mk.inj h).1] at he2; simp at he2)))
                  go_wp2_with (first | (refine wpl_storeG rfl _ _ _ rfl _ _ rfl rfl _ k2 (by kernel_rfl) rfl hzone.out (fun W3 k2 hg hsz => ?_)))
                  have kb3 := below_gr rd.kb hg (by rw [hG.out]; omega) rd.kb.size
                  refine bodyPost_ret (res_st2 Try.results24 _ _ _ rfl (by kernel_rfl) _ k2 (by kernel_rfl) _ rfl) rfl ?_
                  rw [hq.out]
                  exact ⟨nilSv, rfl, zeroS_own _ _, kb3⟩
              · have hq := Lib.hid (fin1.out (read_no hP.out (fun h => hee (by rw [hL] at h; exact (Prod.mk.inj h).2))))
                have dz : decide (ee = 0) = false := by simpa using hee
                go_wp2_with (first | (refine wpl_storeG rfl _ _ _ rfl _ _ rfl rfl _ k2 (by kernel_rfl) rfl hzone.out (fun W3 k2 hg hsz => ?_)))
                have kb3 := below_gr rd.kb hg (by rw [hG.out]; omega) rd.kb.size
                refine bodyPost_ret (res_st2 Try.results24 _ _ _ rfl (by kernel_rfl) _ k2 (by kernel_rfl) _ rfl) rfl ?_
                rw [hq.out]
                exact ⟨nilSv, rfl, zeroS_own _ _, kb3⟩

end Go.Proofs.Ytkipejhjpfakpaa
