import Derived.Test.YtmlmggmnlgcbcaaGreatJb01
import Derived.Test.YtmlmggmnlgcbcaaGreatJb04
import Derived.WalkSpells
import Derived.WalkKit
import Derived.Deep.CutRange
import Derived.Deep.CutBlock
import Derived.RegionTactic
import Derived.ScopeJumps
import Derived.WalkLawsBesides
import Derived.StillTailTactics
import Derived.ProofKit
import Derived.Test.YtmlmggmnlgcbcaaGreatJb02
import Derived.Test.YtmlmggmnlgcbcaaGreatJb05

namespace Go.Proofs.YtmlmggmnlgcbcaaGreat
open Go.RowKit
theorem gr_drewN {w w' : World} {g : Nat} (h : w.grownBy w' (some g)) {w2 : World} (hb : Below w'.heap.size w' w2) : w.grownBy w2 (some g) := gr_trans h (gr_below hb)
theorem rotl_16 {x : Nat} (hx : x < 4294967296) (w : World) :
    Calls Tryz.prog 123 #[.int .u32 (x : Int), .int .i64 16] w fun e w' => e = .returned (.int .u32 ((rl x 16 : Nat) : Int)) ∧ Below w.heap.size w w' := by
  have h0 : bits .and .u64 16 31 = 16 := by decide
  have h2 : bits .or .u32 ((x : Int) * 65536 % 4294967296) ((x : Int) / 65536) = ((rl x 16 : Nat) : Int) := by
    have := or_u32 (a := x * 65536 % 4294967296) (b := x / 65536) (Nat.mod_lt _ (by decide)) (Nat.lt_of_le_of_lt (Nat.div_le_self _ _) hx)
    rw [show ((x : Int) * 65536 % 4294967296) = ((x * 65536 % 4294967296 : Nat) : Int) by omega, show ((x : Int) / 65536) = ((x / 65536 : Nat) : Int) by omega]
    exact this
  go_enter Tryz.func123, Tryz.ntmps123
  go_wp2_with fail
  go_ret
  exact ⟨rfl, Below.refl _ _⟩
theorem rotl_12 {x : Nat} (hx : x < 4294967296) (w : World) :
    Calls Tryz.prog 123 #[.int .u32 (x : Int), .int .i64 12] w fun e w' => e = .returned (.int .u32 ((rl x 12 : Nat) : Int)) ∧ Below w.heap.size w w' := by
  have h0 : bits .and .u64 12 31 = 12 := by decide
  have h2 : bits .or .u32 ((x : Int) * 4096 % 4294967296) ((x : Int) / 1048576) = ((rl x 12 : Nat) : Int) := by
    have := or_u32 (a := x * 4096 % 4294967296) (b := x / 1048576) (Nat.mod_lt _ (by decide)) (Nat.lt_of_le_of_lt (Nat.div_le_self _ _) hx)
    rw [show ((x : Int) * 4096 % 4294967296) = ((x * 4096 % 4294967296 : Nat) : Int) by omega, show ((x : Int) / 1048576) = ((x / 1048576 : Nat) : Int) by omega]
    exact this
  go_enter Tryz.func123, Tryz.ntmps123
  go_wp2_with fail
  go_ret
  exact ⟨rfl, Below.refl _ _⟩
theorem rotl_8 {x : Nat} (hx : x < 4294967296) (w : World) :
    Calls Tryz.prog 123 #[.int .u32 (x : Int), .int .i64 8] w fun e w' => e = .returned (.int .u32 ((rl x 8 : Nat) : Int)) ∧ Below w.heap.size w w' := by
  have h0 : bits .and .u64 8 31 = 8 := by decide
  have h2 : bits .or .u32 ((x : Int) * 256 % 4294967296) ((x : Int) / 16777216) = ((rl x 8 : Nat) : Int) := by
    have := or_u32 (a := x * 256 % 4294967296) (b := x / 16777216) (Nat.mod_lt _ (by decide)) (Nat.lt_of_le_of_lt (Nat.div_le_self _ _) hx)
    rw [show ((x : Int) * 256 % 4294967296) = ((x * 256 % 4294967296 : Nat) : Int) by omega, show ((x : Int) / 16777216) = ((x / 16777216 : Nat) : Int) by omega]
    exact this
  go_enter Tryz.func123, Tryz.ntmps123
  go_wp2_with fail
  go_ret
  exact ⟨rfl, Below.refl _ _⟩
theorem rotl_7 {x : Nat} (hx : x < 4294967296) (w : World) :
    Calls Tryz.prog 123 #[.int .u32 (x : Int), .int .i64 7] w fun e w' => e = .returned (.int .u32 ((rl x 7 : Nat) : Int)) ∧ Below w.heap.size w w' := by
  have h0 : bits .and .u64 7 31 = 7 := by decide
  have h2 : bits .or .u32 ((x : Int) * 128 % 4294967296) ((x : Int) / 33554432) = ((rl x 7 : Nat) : Int) := by
    have := or_u32 (a := x * 128 % 4294967296) (b := x / 33554432) (Nat.mod_lt _ (by decide)) (Nat.lt_of_le_of_lt (Nat.div_le_self _ _) hx)
    rw [show ((x : Int) * 128 % 4294967296) = ((x * 128 % 4294967296 : Nat) : Int) by omega, show ((x : Int) / 33554432) = ((x / 33554432 : Nat) : Int) by omega]
    exact this
  go_enter Tryz.func123, Tryz.ntmps123
  go_wp2_with fail
  go_ret
  exact ⟨rfl, Below.refl _ _⟩
set_option maxHeartbeats 4000000 in
set_option maxRecDepth 100000 in
theorem quarter_any {g : Nat} {l0 : List Nat} {a b c d : Nat} (w : World) (hlen0 : l0.length = 16) (h320 : W32 l0) (ha : a < 16) (hb : b < 16) (hc : c < 16) (hd : d < 16) (k0 : Arr w g (ws l0)) :
    Calls Tryz.prog 79 #[.pointer (some ⟨g, 0, none⟩), .int .i64 a, .int .i64 b, .int .i64 c, .int .i64 d] w fun e w' => e = .returned (.tuple #[]) ∧ Arr w' g (ws (qr l0 a b c d)) ∧ w.grownBy w' (some g) := by
  obtain ⟨R, hR⟩ : ∃ R, qr l0 a b c d = R := ⟨_, rfl⟩
  rw [hR]
  have a0 : (0 : Int) ≤ (a : Int) := by omega
  have a1 : (a : Int) < 16 := by omega
  have b0 : (0 : Int) ≤ (b : Int) := by omega
  have b1 : (b : Int) < 16 := by omega
  have c0 : (0 : Int) ≤ (c : Int) := by omega
  have c1 : (c : Int) < 16 := by omega
  have d0 : (0 : Int) ≤ (d : Int) := by omega
  have d1 : (d : Int) < 16 := by omega
  obtain ⟨l, hll⟩ : ∃ l, l0 = l := ⟨_, rfl⟩
  have hlen : Hid (l.length = 16) := Lib.hid (by rw [← hll]; exact hlen0)
  have h32 : Hid (W32 l) := Lib.hid (by rw [← hll]; exact h320)
  rw [hll] at k0 hR
  unfold qr at hR
  replace hR := Lib.hid hR
  clear hlen0 h320 hll
  have kg := World.grownBy.refl w (some g)
  go_enter Tryz.func79, Tryz.ntmps79
  -- a += b
  obtain ⟨x, hx⟩ : ∃ x, l.getD a 0 = x := ⟨_, rfl⟩
  obtain ⟨y, hy⟩ : ∃ y, l.getD b 0 = y := ⟨_, rfl⟩
  have hcx := ws_get (l := l) (j := a) (by rw [hlen.out]; exact ha)
  have hcy := ws_get (l := l) (j := b) (by rw [hlen.out]; exact hb)
  rw [hx] at hcx
  rw [hy] at hcy
  replace hcx := Lib.hid hcx
  replace hcy := Lib.hid hcy
  obtain ⟨l2, hl2_0⟩ : ∃ l2, qa l a b = l2 := ⟨_, rfl⟩
  have hlen2 : Hid (l2.length = 16) := Lib.hid (by rw [← hl2_0, qa_len]; exact hlen.out)
  have h322 : Hid (W32 l2) := Lib.hid (by rw [← hl2_0]; exact qa_32 h32.out _ _)
  have hset : Hid ((ws l).set a (.int .u32 (IntKind.u32.wrap ((x : Int) + (y : Int)))) = ws l2) := Lib.hid (by
    rw [show ((x : Int) + (y : Int)) = ((x + y : Nat) : Int) by omega, u32_mod, ws_set, ← hl2_0, qa, hx, hy])
  replace hR := Lib.hid (by have q := hR.out; rw [hl2_0] at q; exact q)
  clear hl2_0 hx hy
  go_upto_region 0 with fail
  refine Tx.start (fun w' => Below (w).heap.size (w) w') 13 14 rfl (by kernel_rfl) ?_
  have hS_1 : Below (w).heap.size (w) (World.drew w) := (Below.refl _ _).drew
  refine Tx.seg2 (A := ?_) 1 8191 (by kernel_rfl) (by exact hS_1) [0, 1, 2, 3, 4, 5, 6, 7, 8, 9, 10, 11, 12] (by kernel_rfl) ?_ ?_
  rotate_left
  · intro w' hB
    have e1 := (k0.below hB).cell hcx.out
    have e2 := (k0.below hB).cell hcy.out
    iterate 13 (first | (refine rd_skip rfl rfl ?_; simp only [Act.put, List.setIfInBounds_toArray, List.set_cons_zero, List.set_cons_succ]) | (refine rd_load_arr rfl rfl _ _ rfl _ rfl (by decide +kernel) _ (by assumption) (by first | (rw [lims_len]; kernel_rfl) | (rw [el_rep]; kernel_rfl) | (rw [el_len]; kernel_rfl) | (rw [byts_len]; kernel_rfl) | (rw [us_len]; kernel_rfl) | (rw [bytn_len]; kernel_rfl) | (rw [ens_len, digs_len]; kernel_rfl) | kernel_rfl) ?_; simp only [Act.put, List.setIfInBounds_toArray, List.set_cons_zero, List.set_cons_succ]) | (refine rd_take (v := ?_) rfl rfl ?_ ?_; rotate_left; (focus (go_simp; try (with_reducible rfl))); simp only [Act.put, List.setIfInBounds_toArray, List.set_cons_zero, List.set_cons_succ]) | (refine rd_take (v := ?_) rfl rfl ?_ ?_; rotate_left; (focus (try go_simp); fail)))
    exact rd_nil
  refine Tx.bar 16383 rfl (by decide +kernel) (fun K hK => ?_)
  replace k0 := k0.below hS_1
  replace kg := gr_drewN kg hS_1
  clear hS_1
  refine step_cellG rfl _ _ _ rfl g a (.int .u32 (IntKind.u32.wrap ((x : Int) + (y : Int)))) rfl rfl _ k0 (by kernel_rfl) (by rw [ws_len, hlen.out]; exact ha) rfl (fun w1 k1 hg hsz => ?_)
  replace kg := gr_trans kg hg
  clear k0
  have k0 := k1
  clear k1
  rw [hset.out] at k0
  clear hg hsz hset hcx hcy hlen h32
  refine hK (fun _ => True) 9999 _ _ ?_
  clear hK K
  try simp only [Act.put]
  try simp only [List.setIfInBounds_toArray, List.set_cons_zero, List.set_cons_succ]
  refine Tx.done (by kernel_rfl) ?_
  have hlen := hlen2
  have h32 := h322
  clear hlen2 h322
  obtain ⟨l, hll⟩ : ∃ l3, l2 = l3 := ⟨_, rfl⟩
  rw [hll] at k0 hlen h32 hR
  -- d = (d ^ a) turned by 16
  obtain ⟨x, hx⟩ : ∃ x, l.getD d 0 = x := ⟨_, rfl⟩
  obtain ⟨y, hy⟩ : ∃ y, l.getD a 0 = y := ⟨_, rfl⟩
  have hcx := ws_get (l := l) (j := d) (by rw [hlen.out]; exact hd)
  have hcy := ws_get (l := l) (j := a) (by rw [hlen.out]; exact ha)
  rw [hx] at hcx
  rw [hy] at hcy
  replace hcx := Lib.hid hcx
  replace hcy := Lib.hid hcy
  have lx : x < 4294967296 := by rw [← hx]; exact h32.out.get _
  have ly : y < 4294967296 := by rw [← hy]; exact h32.out.get _
  have hxy := xor_u32 lx ly
  obtain ⟨z, hz⟩ : ∃ z, x ^^^ y = z := ⟨_, rfl⟩
  have lz : Hid (z < 4294967296) := Lib.hid (by rw [← hz]; exact xor_lt lx ly)
  rw [hz] at hxy
  obtain ⟨l2, hl2_1⟩ : ∃ l2, qx l d a 16 = l2 := ⟨_, rfl⟩
  have hlen2 : Hid (l2.length = 16) := Lib.hid (by rw [← hl2_1, qx_len]; exact hlen.out)
  have h322 : Hid (W32 l2) := Lib.hid (by rw [← hl2_1]; exact qx_32 h32.out _ _ _)
  have hset : Hid ((ws l).set d (.int .u32 ((rl z 16 : Nat) : Int)) = ws l2) := Lib.hid (by
    rw [ws_set, ← hl2_1, qx, hx, hy, hz])
  replace hR := Lib.hid (by have q := hR.out; rw [hl2_1] at q; exact q)
  clear hl2_1 hx hy hz lx ly
  go_upto_region 1 with fail
  obtain ⟨wq, hwq⟩ : ∃ wq : World, w1 = wq := ⟨_, rfl⟩
  rw [hwq] at k0 kg ⊢
  clear hwq
  refine Tx.start (fun w' => Below (wq).heap.size (wq) w') 16 17 rfl (by kernel_rfl) ?_
  have hS_2 : Below (wq).heap.size (wq) (World.drew wq) := (Below.refl _ _).drew
  refine Tx.seg2 (A := ?_) 3 24575 (by kernel_rfl) (by exact hS_2) [0, 1, 2, 3, 4, 5, 6, 7, 8, 9, 10, 11, 12, 14] (by kernel_rfl) ?_ ?_
  rotate_left
  · intro w' hB
    have e1 := (k0.below hB).cell hcx.out
    have e2 := (k0.below hB).cell hcy.out
    iterate 14 (first | (refine rd_skip rfl rfl ?_; simp only [Act.put, List.setIfInBounds_toArray, List.set_cons_zero, List.set_cons_succ]) | (refine rd_load_arr rfl rfl _ _ rfl _ rfl (by decide +kernel) _ (by assumption) (by first | (rw [lims_len]; kernel_rfl) | (rw [el_rep]; kernel_rfl) | (rw [el_len]; kernel_rfl) | (rw [byts_len]; kernel_rfl) | (rw [us_len]; kernel_rfl) | (rw [bytn_len]; kernel_rfl) | (rw [ens_len, digs_len]; kernel_rfl) | kernel_rfl) ?_; simp only [Act.put, List.setIfInBounds_toArray, List.set_cons_zero, List.set_cons_succ]) | (refine rd_take (v := ?_) rfl rfl ?_ ?_; rotate_left; (focus (go_simp; try (with_reducible rfl))); simp only [Act.put, List.setIfInBounds_toArray, List.set_cons_zero, List.set_cons_succ]) | (refine rd_take (v := ?_) rfl rfl ?_ ?_; rotate_left; (focus (try go_simp); fail)))
    exact rd_nil
  refine Tx.eff 13 32767 rfl (by decide +kernel) (fun K hK => ?_)
  go_simp
  refine (rotl_16 lz.out _).mono ?_
  rintro e w_3 ⟨rfl, hb_3⟩
  have hS_3 := ext_trans hS_2 (Nat.le_refl _) hb_3
  refine hK (fun w' => Below (wq).heap.size (wq) w') _ _ hS_3 (fun _ h => h) ?_
  clear hK K hb_3 hS_2
  try simp only [Act.put, List.setIfInBounds_toArray, List.set_cons_zero, List.set_cons_succ]
  refine Tx.seg2 (A := ?_) 1 65535 (by kernel_rfl) (by exact hS_3) [15] (by kernel_rfl) ?_ ?_
  rotate_left
  · intro w' hB
    iterate 1 (first | (refine rd_skip rfl rfl ?_; simp only [Act.put, List.setIfInBounds_toArray, List.set_cons_zero, List.set_cons_succ]) | (refine rd_load_arr rfl rfl _ _ rfl _ rfl (by decide +kernel) _ (by assumption) (by first | (rw [lims_len]; kernel_rfl) | (rw [el_rep]; kernel_rfl) | (rw [el_len]; kernel_rfl) | (rw [byts_len]; kernel_rfl) | (rw [us_len]; kernel_rfl) | (rw [bytn_len]; kernel_rfl) | (rw [ens_len, digs_len]; kernel_rfl) | kernel_rfl) ?_; simp only [Act.put, List.setIfInBounds_toArray, List.set_cons_zero, List.set_cons_succ]) | (refine rd_take (v := ?_) rfl rfl ?_ ?_; rotate_left; (focus (go_simp; try (with_reducible rfl))); simp only [Act.put, List.setIfInBounds_toArray, List.set_cons_zero, List.set_cons_succ]) | (refine rd_take (v := ?_) rfl rfl ?_ ?_; rotate_left; (focus (try go_simp); fail)))
    exact rd_nil
  refine Tx.bar 131071 rfl (by decide +kernel) (fun K hK => ?_)
  replace k0 := k0.below hS_3
  replace kg := gr_drewN kg hS_3
  clear hS_3
  refine step_cellG rfl _ _ _ rfl g d (.int .u32 ((rl z 16 : Nat) : Int)) rfl rfl _ k0 (by kernel_rfl) (by rw [ws_len, hlen.out]; exact hd) rfl (fun w2 k1 hg hsz => ?_)
  replace kg := gr_trans kg hg
  clear k0
  have k0 := k1
  clear k1
  rw [hset.out] at k0
  clear hg hsz hset hcx hcy hlen h32 hxy lz
  refine hK (fun _ => True) 9999 _ _ ?_
  clear hK K
  try simp only [Act.put]
  try simp only [List.setIfInBounds_toArray, List.set_cons_zero, List.set_cons_succ]
  refine Tx.done (by kernel_rfl) ?_
  have hlen := hlen2
  have h32 := h322
  clear hlen2 h322
  obtain ⟨l, hll⟩ : ∃ l3, l2 = l3 := ⟨_, rfl⟩
  rw [hll] at k0 hlen h32 hR
  -- c += d
  obtain ⟨x, hx⟩ : ∃ x, l.getD c 0 = x := ⟨_, rfl⟩
  obtain ⟨y, hy⟩ : ∃ y, l.getD d 0 = y := ⟨_, rfl⟩
  have hcx := ws_get (l := l) (j := c) (by rw [hlen.out]; exact hc)
  have hcy := ws_get (l := l) (j := d) (by rw [hlen.out]; exact hd)
  rw [hx] at hcx
  rw [hy] at hcy
  replace hcx := Lib.hid hcx
  replace hcy := Lib.hid hcy
  obtain ⟨l2, hl2_2⟩ : ∃ l2, qa l c d = l2 := ⟨_, rfl⟩
  have hlen2 : Hid (l2.length = 16) := Lib.hid (by rw [← hl2_2, qa_len]; exact hlen.out)
  have h322 : Hid (W32 l2) := Lib.hid (by rw [← hl2_2]; exact qa_32 h32.out _ _)
  have hset : Hid ((ws l).set c (.int .u32 (IntKind.u32.wrap ((x : Int) + (y : Int)))) = ws l2) := Lib.hid (by
    rw [show ((x : Int) + (y : Int)) = ((x + y : Nat) : Int) by omega, u32_mod, ws_set, ← hl2_2, qa, hx, hy])
  replace hR := Lib.hid (by have q := hR.out; rw [hl2_2] at q; exact q)
  clear hl2_2 hx hy
  go_upto_region 2 with fail
  obtain ⟨wq, hwq⟩ : ∃ wq : World, w2 = wq := ⟨_, rfl⟩
  rw [hwq] at k0 kg ⊢
  clear hwq
  refine Tx.start (fun w' => Below (wq).heap.size (wq) w') 13 14 rfl (by kernel_rfl) ?_
  have hS_4 : Below (wq).heap.size (wq) (World.drew wq) := (Below.refl _ _).drew
  refine Tx.seg2 (A := ?_) 1 8191 (by kernel_rfl) (by exact hS_4) [0, 1, 2, 3, 4, 5, 6, 7, 8, 9, 10, 11, 12] (by kernel_rfl) ?_ ?_
  rotate_left
  · intro w' hB
    have e1 := (k0.below hB).cell hcx.out
    have e2 := (k0.below hB).cell hcy.out
    iterate 13 (first | (refine rd_skip rfl rfl ?_; simp only [Act.put, List.setIfInBounds_toArray, List.set_cons_zero, List.set_cons_succ]) | (refine rd_load_arr rfl rfl _ _ rfl _ rfl (by decide +kernel) _ (by assumption) (by first | (rw [lims_len]; kernel_rfl) | (rw [el_rep]; kernel_rfl) | (rw [el_len]; kernel_rfl) | (rw [byts_len]; kernel_rfl) | (rw [us_len]; kernel_rfl) | (rw [bytn_len]; kernel_rfl) | (rw [ens_len, digs_len]; kernel_rfl) | kernel_rfl) ?_; simp only [Act.put, List.setIfInBounds_toArray, List.set_cons_zero, List.set_cons_succ]) | (refine rd_take (v := ?_) rfl rfl ?_ ?_; rotate_left; (focus (go_simp; try (with_reducible rfl))); simp only [Act.put, List.setIfInBounds_toArray, List.set_cons_zero, List.set_cons_succ]) | (refine rd_take (v := ?_) rfl rfl ?_ ?_; rotate_left; (focus (try go_simp); fail)))
    exact rd_nil
  refine Tx.bar 16383 rfl (by decide +kernel) (fun K hK => ?_)
  replace k0 := k0.below hS_4
  replace kg := gr_drewN kg hS_4
  clear hS_4
  refine step_cellG rfl _ _ _ rfl g c (.int .u32 (IntKind.u32.wrap ((x : Int) + (y : Int)))) rfl rfl _ k0 (by kernel_rfl) (by rw [ws_len, hlen.out]; exact hc) rfl (fun w3 k1 hg hsz => ?_)
  replace kg := gr_trans kg hg
  clear k0
  have k0 := k1
  clear k1
  rw [hset.out] at k0
  clear hg hsz hset hcx hcy hlen h32
  refine hK (fun _ => True) 9999 _ _ ?_
  clear hK K
  try simp only [Act.put]
  try simp only [List.setIfInBounds_toArray, List.set_cons_zero, List.set_cons_succ]
  refine Tx.done (by kernel_rfl) ?_
  have hlen := hlen2
  have h32 := h322
  clear hlen2 h322
  obtain ⟨l, hll⟩ : ∃ l3, l2 = l3 := ⟨_, rfl⟩
  rw [hll] at k0 hlen h32 hR
  -- b = (b ^ c) turned by 12
  obtain ⟨x, hx⟩ : ∃ x, l.getD b 0 = x := ⟨_, rfl⟩
  obtain ⟨y, hy⟩ : ∃ y, l.getD c 0 = y := ⟨_, rfl⟩
  have hcx := ws_get (l := l) (j := b) (by rw [hlen.out]; exact hb)
  have hcy := ws_get (l := l) (j := c) (by rw [hlen.out]; exact hc)
  rw [hx] at hcx
  rw [hy] at hcy
  replace hcx := Lib.hid hcx
  replace hcy := Lib.hid hcy
  have lx : x < 4294967296 := by rw [← hx]; exact h32.out.get _
  have ly : y < 4294967296 := by rw [← hy]; exact h32.out.get _
  have hxy := xor_u32 lx ly
  obtain ⟨z, hz⟩ : ∃ z, x ^^^ y = z := ⟨_, rfl⟩
  have lz : Hid (z < 4294967296) := Lib.hid (by rw [← hz]; exact xor_lt lx ly)
  rw [hz] at hxy
  obtain ⟨l2, hl2_3⟩ : ∃ l2, qx l b c 12 = l2 := ⟨_, rfl⟩
  have hlen2 : Hid (l2.length = 16) := Lib.hid (by rw [← hl2_3, qx_len]; exact hlen.out)
  have h322 : Hid (W32 l2) := Lib.hid (by rw [← hl2_3]; exact qx_32 h32.out _ _ _)
  have hset : Hid ((ws l).set b (.int .u32 ((rl z 12 : Nat) : Int)) = ws l2) := Lib.hid (by
    rw [ws_set, ← hl2_3, qx, hx, hy, hz])
  replace hR := Lib.hid (by have q := hR.out; rw [hl2_3] at q; exact q)
  clear hl2_3 hx hy hz lx ly
  go_upto_region 3 with fail
  obtain ⟨wq, hwq⟩ : ∃ wq : World, w3 = wq := ⟨_, rfl⟩
  rw [hwq] at k0 kg ⊢
  clear hwq
  refine Tx.start (fun w' => Below (wq).heap.size (wq) w') 16 17 rfl (by kernel_rfl) ?_
  have hS_5 : Below (wq).heap.size (wq) (World.drew wq) := (Below.refl _ _).drew
  refine Tx.seg2 (A := ?_) 3 24575 (by kernel_rfl) (by exact hS_5) [0, 1, 2, 3, 4, 5, 6, 7, 8, 9, 10, 11, 12, 14] (by kernel_rfl) ?_ ?_
  rotate_left
  · intro w' hB
    have e1 := (k0.below hB).cell hcx.out
    have e2 := (k0.below hB).cell hcy.out
    iterate 14 (first | (refine rd_skip rfl rfl ?_; simp only [Act.put, List.setIfInBounds_toArray, List.set_cons_zero, List.set_cons_succ]) | (refine rd_load_arr rfl rfl _ _ rfl _ rfl (by decide +kernel) _ (by assumption) (by first | (rw [lims_len]; kernel_rfl) | (rw [el_rep]; kernel_rfl) | (rw [el_len]; kernel_rfl) | (rw [byts_len]; kernel_rfl) | (rw [us_len]; kernel_rfl) | (rw [bytn_len]; kernel_rfl) | (rw [ens_len, digs_len]; kernel_rfl) | kernel_rfl) ?_; simp only [Act.put, List.setIfInBounds_toArray, List.set_cons_zero, List.set_cons_succ]) | (refine rd_take (v := ?_) rfl rfl ?_ ?_; rotate_left; (focus (go_simp; try (with_reducible rfl))); simp only [Act.put, List.setIfInBounds_toArray, List.set_cons_zero, List.set_cons_succ]) | (refine rd_take (v := ?_) rfl rfl ?_ ?_; rotate_left; (focus (try go_simp); fail)))
    exact rd_nil
  refine Tx.eff 13 32767 rfl (by decide +kernel) (fun K hK => ?_)
  go_simp
  refine (rotl_12 lz.out _).mono ?_
  rintro e w_6 ⟨rfl, hb_6⟩
  have hS_6 := ext_trans hS_5 (Nat.le_refl _) hb_6
  refine hK (fun w' => Below (wq).heap.size (wq) w') _ _ hS_6 (fun _ h => h) ?_
  clear hK K hb_6 hS_5
  try simp only [Act.put, List.setIfInBounds_toArray, List.set_cons_zero, List.set_cons_succ]
  refine Tx.seg2 (A := ?_) 1 65535 (by kernel_rfl) (by exact hS_6) [15] (by kernel_rfl) ?_ ?_
  rotate_left
  · intro w' hB
    iterate 1 (first | (refine rd_skip rfl rfl ?_; simp only [Act.put, List.setIfInBounds_toArray, List.set_cons_zero, List.set_cons_succ]) | (refine rd_load_arr rfl rfl _ _ rfl _ rfl (by decide +kernel) _ (by assumption) (by first | (rw [lims_len]; kernel_rfl) | (rw [el_rep]; kernel_rfl) | (rw [el_len]; kernel_rfl) | (rw [byts_len]; kernel_rfl) | (rw [us_len]; kernel_rfl) | (rw [bytn_len]; kernel_rfl) | (rw [ens_len, digs_len]; kernel_rfl) | kernel_rfl) ?_; simp only [Act.put, List.setIfInBounds_toArray, List.set_cons_zero, List.set_cons_succ]) | (refine rd_take (v := ?_) rfl rfl ?_ ?_; rotate_left; (focus (go_simp; try (with_reducible rfl))); simp only [Act.put, List.setIfInBounds_toArray, List.set_cons_zero, List.set_cons_succ]) | (refine rd_take (v := ?_) rfl rfl ?_ ?_; rotate_left; (focus (try go_simp); fail)))
    exact rd_nil
  refine Tx.bar 131071 rfl (by decide +kernel) (fun K hK => ?_)
  replace k0 := k0.below hS_6
  replace kg := gr_drewN kg hS_6
  clear hS_6
  refine step_cellG rfl _ _ _ rfl g b (.int .u32 ((rl z 12 : Nat) : Int)) rfl rfl _ k0 (by kernel_rfl) (by rw [ws_len, hlen.out]; exact hb) rfl (fun w4 k1 hg hsz => ?_)
  replace kg := gr_trans kg hg
  clear k0
  have k0 := k1
  clear k1
  rw [hset.out] at k0
  clear hg hsz hset hcx hcy hlen h32 hxy lz
  refine hK (fun _ => True) 9999 _ _ ?_
  clear hK K
  try simp only [Act.put]
  try simp only [List.setIfInBounds_toArray, List.set_cons_zero, List.set_cons_succ]
  refine Tx.done (by kernel_rfl) ?_
  have hlen := hlen2
  have h32 := h322
  clear hlen2 h322
  obtain ⟨l, hll⟩ : ∃ l3, l2 = l3 := ⟨_, rfl⟩
  rw [hll] at k0 hlen h32 hR
  -- a += b
  obtain ⟨x, hx⟩ : ∃ x, l.getD a 0 = x := ⟨_, rfl⟩
  obtain ⟨y, hy⟩ : ∃ y, l.getD b 0 = y := ⟨_, rfl⟩
  have hcx := ws_get (l := l) (j := a) (by rw [hlen.out]; exact ha)
  have hcy := ws_get (l := l) (j := b) (by rw [hlen.out]; exact hb)
  rw [hx] at hcx
  rw [hy] at hcy
  replace hcx := Lib.hid hcx
  replace hcy := Lib.hid hcy
  obtain ⟨l2, hl2_4⟩ : ∃ l2, qa l a b = l2 := ⟨_, rfl⟩
  have hlen2 : Hid (l2.length = 16) := Lib.hid (by rw [← hl2_4, qa_len]; exact hlen.out)
  have h322 : Hid (W32 l2) := Lib.hid (by rw [← hl2_4]; exact qa_32 h32.out _ _)
  have hset : Hid ((ws l).set a (.int .u32 (IntKind.u32.wrap ((x : Int) + (y : Int)))) = ws l2) := Lib.hid (by
    rw [show ((x : Int) + (y : Int)) = ((x + y : Nat) : Int) by omega, u32_mod, ws_set, ← hl2_4, qa, hx, hy])
  replace hR := Lib.hid (by have q := hR.out; rw [hl2_4] at q; exact q)
  clear hl2_4 hx hy
  go_upto_region 4 with fail
  obtain ⟨wq, hwq⟩ : ∃ wq : World, w4 = wq := ⟨_, rfl⟩
  rw [hwq] at k0 kg ⊢
  clear hwq
  refine Tx.start (fun w' => Below (wq).heap.size (wq) w') 13 14 rfl (by kernel_rfl) ?_
  have hS_7 : Below (wq).heap.size (wq) (World.drew wq) := (Below.refl _ _).drew
  refine Tx.seg2 (A := ?_) 1 8191 (by kernel_rfl) (by exact hS_7) [0, 1, 2, 3, 4, 5, 6, 7, 8, 9, 10, 11, 12] (by kernel_rfl) ?_ ?_
  rotate_left
  · intro w' hB
    have e1 := (k0.below hB).cell hcx.out
    have e2 := (k0.below hB).cell hcy.out
    iterate 13 (first | (refine rd_skip rfl rfl ?_; simp only [Act.put, List.setIfInBounds_toArray, List.set_cons_zero, List.set_cons_succ]) | (refine rd_load_arr rfl rfl _ _ rfl _ rfl (by decide +kernel) _ (by assumption) (by first | (rw [lims_len]; kernel_rfl) | (rw [el_rep]; kernel_rfl) | (rw [el_len]; kernel_rfl) | (rw [byts_len]; kernel_rfl) | (rw [us_len]; kernel_rfl) | (rw [bytn_len]; kernel_rfl) | (rw [ens_len, digs_len]; kernel_rfl) | kernel_rfl) ?_; simp only [Act.put, List.setIfInBounds_toArray, List.set_cons_zero, List.set_cons_succ]) | (refine rd_take (v := ?_) rfl rfl ?_ ?_; rotate_left; (focus (go_simp; try (with_reducible rfl))); simp only [Act.put, List.setIfInBounds_toArray, List.set_cons_zero, List.set_cons_succ]) | (refine rd_take (v := ?_) rfl rfl ?_ ?_; rotate_left; (focus (try go_simp); fail)))
    exact rd_nil
  refine Tx.bar 16383 rfl (by decide +kernel) (fun K hK => ?_)
  replace k0 := k0.below hS_7
  replace kg := gr_drewN kg hS_7
  clear hS_7
  refine step_cellG rfl _ _ _ rfl g a (.int .u32 (IntKind.u32.wrap ((x : Int) + (y : Int)))) rfl rfl _ k0 (by kernel_rfl) (by rw [ws_len, hlen.out]; exact ha) rfl (fun w5 k1 hg hsz => ?_)
  replace kg := gr_trans kg hg
  clear k0
  have k0 := k1
  clear k1
  rw [hset.out] at k0
  clear hg hsz hset hcx hcy hlen h32
  refine hK (fun _ => True) 9999 _ _ ?_
  clear hK K
  try simp only [Act.put]
  try simp only [List.setIfInBounds_toArray, List.set_cons_zero, List.set_cons_succ]
  refine Tx.done (by kernel_rfl) ?_
  have hlen := hlen2
  have h32 := h322
  clear hlen2 h322
  obtain ⟨l, hll⟩ : ∃ l3, l2 = l3 := ⟨_, rfl⟩
  rw [hll] at k0 hlen h32 hR
  -- d = (d ^ a) turned by 8
  obtain ⟨x, hx⟩ : ∃ x, l.getD d 0 = x := ⟨_, rfl⟩
  obtain ⟨y, hy⟩ : ∃ y, l.getD a 0 = y := ⟨_, rfl⟩
  have hcx := ws_get (l := l) (j := d) (by rw [hlen.out]; exact hd)
  have hcy := ws_get (l := l) (j := a) (by rw [hlen.out]; exact ha)
  rw [hx] at hcx
  rw [hy] at hcy
  replace hcx := Lib.hid hcx
  replace hcy := Lib.hid hcy
  have lx : x < 4294967296 := by rw [← hx]; exact h32.out.get _
  have ly : y < 4294967296 := by rw [← hy]; exact h32.out.get _
  have hxy := xor_u32 lx ly
  obtain ⟨z, hz⟩ : ∃ z, x ^^^ y = z := ⟨_, rfl⟩
  have lz : Hid (z < 4294967296) := Lib.hid (by rw [← hz]; exact xor_lt lx ly)
  rw [hz] at hxy
  obtain ⟨l2, hl2_5⟩ : ∃ l2, qx l d a 8 = l2 := ⟨_, rfl⟩
  have hlen2 : Hid (l2.length = 16) := Lib.hid (by rw [← hl2_5, qx_len]; exact hlen.out)
  have h322 : Hid (W32 l2) := Lib.hid (by rw [← hl2_5]; exact qx_32 h32.out _ _ _)
  have hset : Hid ((ws l).set d (.int .u32 ((rl z 8 : Nat) : Int)) = ws l2) := Lib.hid (by
    rw [ws_set, ← hl2_5, qx, hx, hy, hz])
  replace hR := Lib.hid (by have q := hR.out; rw [hl2_5] at q; exact q)
  clear hl2_5 hx hy hz lx ly
  go_upto_region 5 with fail
  obtain ⟨wq, hwq⟩ : ∃ wq : World, w5 = wq := ⟨_, rfl⟩
  rw [hwq] at k0 kg ⊢
  clear hwq
  refine Tx.start (fun w' => Below (wq).heap.size (wq) w') 16 17 rfl (by kernel_rfl) ?_
  have hS_8 : Below (wq).heap.size (wq) (World.drew wq) := (Below.refl _ _).drew
  refine Tx.seg2 (A := ?_) 3 24575 (by kernel_rfl) (by exact hS_8) [0, 1, 2, 3, 4, 5, 6, 7, 8, 9, 10, 11, 12, 14] (by kernel_rfl) ?_ ?_
  rotate_left
  · intro w' hB
    have e1 := (k0.below hB).cell hcx.out
    have e2 := (k0.below hB).cell hcy.out
    iterate 14 (first | (refine rd_skip rfl rfl ?_; simp only [Act.put, List.setIfInBounds_toArray, List.set_cons_zero, List.set_cons_succ]) | (refine rd_load_arr rfl rfl _ _ rfl _ rfl (by decide +kernel) _ (by assumption) (by first | (rw [lims_len]; kernel_rfl) | (rw [el_rep]; kernel_rfl) | (rw [el_len]; kernel_rfl) | (rw [byts_len]; kernel_rfl) | (rw [us_len]; kernel_rfl) | (rw [bytn_len]; kernel_rfl) | (rw [ens_len, digs_len]; kernel_rfl) | kernel_rfl) ?_; simp only [Act.put, List.setIfInBounds_toArray, List.set_cons_zero, List.set_cons_succ]) | (refine rd_take (v := ?_) rfl rfl ?_ ?_; rotate_left; (focus (go_simp; try (with_reducible rfl))); simp only [Act.put, List.setIfInBounds_toArray, List.set_cons_zero, List.set_cons_succ]) | (refine rd_take (v := ?_) rfl rfl ?_ ?_; rotate_left; (focus (try go_simp); fail)))
    exact rd_nil
  refine Tx.eff 13 32767 rfl (by decide +kernel) (fun K hK => ?_)
  go_simp
  refine (rotl_8 lz.out _).mono ?_
  rintro e w_9 ⟨rfl, hb_9⟩
  have hS_9 := ext_trans hS_8 (Nat.le_refl _) hb_9
  refine hK (fun w' => Below (wq).heap.size (wq) w') _ _ hS_9 (fun _ h => h) ?_
  clear hK K hb_9 hS_8
  try simp only [Act.put, List.setIfInBounds_toArray, List.set_cons_zero, List.set_cons_succ]
  refine Tx.seg2 (A := ?_) 1 65535 (by kernel_rfl) (by exact hS_9) [15] (by kernel_rfl) ?_ ?_
  rotate_left
  · intro w' hB
    iterate 1 (first | (refine rd_skip rfl rfl ?_; simp only [Act.put, List.setIfInBounds_toArray, List.set_cons_zero, List.set_cons_succ]) | (refine rd_load_arr rfl rfl _ _ rfl _ rfl (by decide +kernel) _ (by assumption) (by first | (rw [lims_len]; kernel_rfl) | (rw [el_rep]; kernel_rfl) | (rw [el_len]; kernel_rfl) | (rw [byts_len]; kernel_rfl) | (rw [us_len]; kernel_rfl) | (rw [bytn_len]; kernel_rfl) | (rw [ens_len, digs_len]; kernel_rfl) | kernel_rfl) ?_; simp only [Act.put, List.setIfInBounds_toArray, List.set_cons_zero, List.set_cons_succ]) | (refine rd_take (v := ?_) rfl rfl ?_ ?_; rotate_left; (focus (go_simp; try (with_reducible rfl))); simp only [Act.put, List.setIfInBounds_toArray, List.set_cons_zero, List.set_cons_succ]) | (refine rd_take (v := ?_) rfl rfl ?_ ?_; rotate_left; (focus (try go_simp); fail)))
    exact rd_nil
  refine Tx.bar 131071 rfl (by decide +kernel) (fun K hK => ?_)
  replace k0 := k0.below hS_9
  replace kg := gr_drewN kg hS_9
  clear hS_9
  refine step_cellG rfl _ _ _ rfl g d (.int .u32 ((rl z 8 : Nat) : Int)) rfl rfl _ k0 (by kernel_rfl) (by rw [ws_len, hlen.out]; exact hd) rfl (fun w6 k1 hg hsz => ?_)
  replace kg := gr_trans kg hg
  clear k0
  have k0 := k1
  clear k1
  rw [hset.out] at k0
  clear hg hsz hset hcx hcy hlen h32 hxy lz
  refine hK (fun _ => True) 9999 _ _ ?_
  clear hK K
  try simp only [Act.put]
  try simp only [List.setIfInBounds_toArray, List.set_cons_zero, List.set_cons_succ]
  refine Tx.done (by kernel_rfl) ?_
  have hlen := hlen2
  have h32 := h322
  clear hlen2 h322
  obtain ⟨l, hll⟩ : ∃ l3, l2 = l3 := ⟨_, rfl⟩
  rw [hll] at k0 hlen h32 hR
  -- c += d
  obtain ⟨x, hx⟩ : ∃ x, l.getD c 0 = x := ⟨_, rfl⟩
  obtain ⟨y, hy⟩ : ∃ y, l.getD d 0 = y := ⟨_, rfl⟩
  have hcx := ws_get (l := l) (j := c) (by rw [hlen.out]; exact hc)
  have hcy := ws_get (l := l) (j := d) (by rw [hlen.out]; exact hd)
  rw [hx] at hcx
  rw [hy] at hcy
  replace hcx := Lib.hid hcx
  replace hcy := Lib.hid hcy
  obtain ⟨l2, hl2_6⟩ : ∃ l2, qa l c d = l2 := ⟨_, rfl⟩
  have hlen2 : Hid (l2.length = 16) := Lib.hid (by rw [← hl2_6, qa_len]; exact hlen.out)
  have h322 : Hid (W32 l2) := Lib.hid (by rw [← hl2_6]; exact qa_32 h32.out _ _)
  have hset : Hid ((ws l).set c (.int .u32 (IntKind.u32.wrap ((x : Int) + (y : Int)))) = ws l2) := Lib.hid (by
    rw [show ((x : Int) + (y : Int)) = ((x + y : Nat) : Int) by omega, u32_mod, ws_set, ← hl2_6, qa, hx, hy])
  replace hR := Lib.hid (by have q := hR.out; rw [hl2_6] at q; exact q)
  clear hl2_6 hx hy
  go_upto_region 6 with fail
  obtain ⟨wq, hwq⟩ : ∃ wq : World, w6 = wq := ⟨_, rfl⟩
  rw [hwq] at k0 kg ⊢
  clear hwq
  refine Tx.start (fun w' => Below (wq).heap.size (wq) w') 13 14 rfl (by kernel_rfl) ?_
  have hS_10 : Below (wq).heap.size (wq) (World.drew wq) := (Below.refl _ _).drew
  refine Tx.seg2 (A := ?_) 1 8191 (by kernel_rfl) (by exact hS_10) [0, 1, 2, 3, 4, 5, 6, 7, 8, 9, 10, 11, 12] (by kernel_rfl) ?_ ?_
  rotate_left
  · intro w' hB
    have e1 := (k0.below hB).cell hcx.out
    have e2 := (k0.below hB).cell hcy.out
    iterate 13 (first | (refine rd_skip rfl rfl ?_; simp only [Act.put, List.setIfInBounds_toArray, List.set_cons_zero, List.set_cons_succ]) | (refine rd_load_arr rfl rfl _ _ rfl _ rfl (by decide +kernel) _ (by assumption) (by first | (rw [lims_len]; kernel_rfl) | (rw [el_rep]; kernel_rfl) | (rw [el_len]; kernel_rfl) | (rw [byts_len]; kernel_rfl) | (rw [us_len]; kernel_rfl) | (rw [bytn_len]; kernel_rfl) | (rw [ens_len, digs_len]; kernel_rfl) | kernel_rfl) ?_; simp only [Act.put, List.setIfInBounds_toArray, List.set_cons_zero, List.set_cons_succ]) | (refine rd_take (v := ?_) rfl rfl ?_ ?_; rotate_left; (focus (go_simp; try (with_reducible rfl))); simp only [Act.put, List.setIfInBounds_toArray, List.set_cons_zero, List.set_cons_succ]) | (refine rd_take (v := ?_) rfl rfl ?_ ?_; rotate_left; (focus (try go_simp); fail)))
    exact rd_nil
  refine Tx.bar 16383 rfl (by decide +kernel) (fun K hK => ?_)
  replace k0 := k0.below hS_10
  replace kg := gr_drewN kg hS_10
  clear hS_10
  refine step_cellG rfl _ _ _ rfl g c (.int .u32 (IntKind.u32.wrap ((x : Int) + (y : Int)))) rfl rfl _ k0 (by kernel_rfl) (by rw [ws_len, hlen.out]; exact hc) rfl (fun w7 k1 hg hsz => ?_)
  replace kg := gr_trans kg hg
  clear k0
  have k0 := k1
  clear k1
  rw [hset.out] at k0
  clear hg hsz hset hcx hcy hlen h32
  refine hK (fun _ => True) 9999 _ _ ?_
  clear hK K
  try simp only [Act.put]
  try simp only [List.setIfInBounds_toArray, List.set_cons_zero, List.set_cons_succ]
  refine Tx.done (by kernel_rfl) ?_
  have hlen := hlen2
  have h32 := h322
  clear hlen2 h322
  obtain ⟨l, hll⟩ : ∃ l3, l2 = l3 := ⟨_, rfl⟩
  rw [hll] at k0 hlen h32 hR
  -- b = (b ^ c) turned by 7
  obtain ⟨x, hx⟩ : ∃ x, l.getD b 0 = x := ⟨_, rfl⟩
  obtain ⟨y, hy⟩ : ∃ y, l.getD c 0 = y := ⟨_, rfl⟩
  have hcx := ws_get (l := l) (j := b) (by rw [hlen.out]; exact hb)
  have hcy := ws_get (l := l) (j := c) (by rw [hlen.out]; exact hc)
  rw [hx] at hcx
  rw [hy] at hcy
  replace hcx := Lib.hid hcx
  replace hcy := Lib.hid hcy
  have lx : x < 4294967296 := by rw [← hx]; exact h32.out.get _
  have ly : y < 4294967296 := by rw [← hy]; exact h32.out.get _
  have hxy := xor_u32 lx ly
  obtain ⟨z, hz⟩ : ∃ z, x ^^^ y = z := ⟨_, rfl⟩
  have lz : Hid (z < 4294967296) := Lib.hid (by rw [← hz]; exact xor_lt lx ly)
  rw [hz] at hxy
  obtain ⟨l2, hl2_7⟩ : ∃ l2, qx l b c 7 = l2 := ⟨_, rfl⟩
  have hlen2 : Hid (l2.length = 16) := Lib.hid (by rw [← hl2_7, qx_len]; exact hlen.out)
  have h322 : Hid (W32 l2) := Lib.hid (by rw [← hl2_7]; exact qx_32 h32.out _ _ _)
  have hset : Hid ((ws l).set b (.int .u32 ((rl z 7 : Nat) : Int)) = ws l2) := Lib.hid (by
    rw [ws_set, ← hl2_7, qx, hx, hy, hz])
  replace hR := Lib.hid (by have q := hR.out; rw [hl2_7] at q; exact q)
  clear hl2_7 hx hy hz lx ly
  go_upto_region 7 with fail
  obtain ⟨wq, hwq⟩ : ∃ wq : World, w7 = wq := ⟨_, rfl⟩
  rw [hwq] at k0 kg ⊢
  clear hwq
  refine Tx.start (fun w' => Below (wq).heap.size (wq) w') 16 17 rfl (by kernel_rfl) ?_
  have hS_11 : Below (wq).heap.size (wq) (World.drew wq) := (Below.refl _ _).drew
  refine Tx.seg2 (A := ?_) 3 24575 (by kernel_rfl) (by exact hS_11) [0, 1, 2, 3, 4, 5, 6, 7, 8, 9, 10, 11, 12, 14] (by kernel_rfl) ?_ ?_
  rotate_left
  · intro w' hB
    have e1 := (k0.below hB).cell hcx.out
    have e2 := (k0.below hB).cell hcy.out
    iterate 14 (first | (refine rd_skip rfl rfl ?_; simp only [Act.put, List.setIfInBounds_toArray, List.set_cons_zero, List.set_cons_succ]) | (refine rd_load_arr rfl rfl _ _ rfl _ rfl (by decide +kernel) _ (by assumption) (by first | (rw [lims_len]; kernel_rfl) | (rw [el_rep]; kernel_rfl) | (rw [el_len]; kernel_rfl) | (rw [byts_len]; kernel_rfl) | (rw [us_len]; kernel_rfl) | (rw [bytn_len]; kernel_rfl) | (rw [ens_len, digs_len]; kernel_rfl) | kernel_rfl) ?_; simp only [Act.put, List.setIfInBounds_toArray, List.set_cons_zero, List.set_cons_succ]) | (refine rd_take (v := ?_) rfl rfl ?_ ?_; rotate_left; (focus (go_simp; try (with_reducible rfl))); simp only [Act.put, List.setIfInBounds_toArray, List.set_cons_zero, List.set_cons_succ]) | (refine rd_take (v := ?_) rfl rfl ?_ ?_; rotate_left; (focus (try go_simp); fail)))
    exact rd_nil
  refine Tx.eff 13 32767 rfl (by decide +kernel) (fun K hK => ?_)
  go_simp
  refine (rotl_7 lz.out _).mono ?_
  rintro e w_12 ⟨rfl, hb_12⟩
  have hS_12 := ext_trans hS_11 (Nat.le_refl _) hb_12
  refine hK (fun w' => Below (wq).heap.size (wq) w') _ _ hS_12 (fun _ h => h) ?_
  clear hK K hb_12 hS_11
  try simp only [Act.put, List.setIfInBounds_toArray, List.set_cons_zero, List.set_cons_succ]
  refine Tx.seg2 (A := ?_) 1 65535 (by kernel_rfl) (by exact hS_12) [15] (by kernel_rfl) ?_ ?_
  rotate_left
  · intro w' hB
    iterate 1 (first | (refine rd_skip rfl rfl ?_; simp only [Act.put, List.setIfInBounds_toArray, List.set_cons_zero, List.set_cons_succ]) | (refine rd_load_arr rfl rfl _ _ rfl _ rfl (by decide +kernel) _ (by assumption) (by first | (rw [lims_len]; kernel_rfl) | (rw [el_rep]; kernel_rfl) | (rw [el_len]; kernel_rfl) | (rw [byts_len]; kernel_rfl) | (rw [us_len]; kernel_rfl) | (rw [bytn_len]; kernel_rfl) | (rw [ens_len, digs_len]; kernel_rfl) | kernel_rfl) ?_; simp only [Act.put, List.setIfInBounds_toArray, List.set_cons_zero, List.set_cons_succ]) | (refine rd_take (v := ?_) rfl rfl ?_ ?_; rotate_left; (focus (go_simp; try (with_reducible rfl))); simp only [Act.put, List.setIfInBounds_toArray, List.set_cons_zero, List.set_cons_succ]) | (refine rd_take (v := ?_) rfl rfl ?_ ?_; rotate_left; (focus (try go_simp); fail)))
    exact rd_nil
  refine Tx.bar 131071 rfl (by decide +kernel) (fun K hK => ?_)
  replace k0 := k0.below hS_12
  replace kg := gr_drewN kg hS_12
  clear hS_12
  refine step_cellG rfl _ _ _ rfl g b (.int .u32 ((rl z 7 : Nat) : Int)) rfl rfl _ k0 (by kernel_rfl) (by rw [ws_len, hlen.out]; exact hb) rfl (fun w8 k1 hg hsz => ?_)
  replace kg := gr_trans kg hg
  clear k0
  have k0 := k1
  clear k1
  rw [hset.out] at k0
  clear hg hsz hset hcx hcy hlen h32 hxy lz
  refine hK (fun _ => True) 9999 _ _ ?_
  clear hK K
  try simp only [Act.put]
  try simp only [List.setIfInBounds_toArray, List.set_cons_zero, List.set_cons_succ]
  refine Tx.done (by kernel_rfl) ?_
  have hlen := hlen2
  have h32 := h322
  clear hlen2 h322
  obtain ⟨l, hll⟩ : ∃ l3, l2 = l3 := ⟨_, rfl⟩
  rw [hll] at k0 hlen h32 hR
  go_wp2_with fail
  go_end0
  have q := hR.out
  subst q
  exact ⟨rfl, k0, kg⟩
end Go.Proofs.YtmlmggmnlgcbcaaGreat


namespace Go.Proofs.YtmlmggmnlgcbcaaGreat
open Go.RowKit
theorem of_step {n k l0 b0 : Nat} (hl : n % 256 ^ k / 18446744073709551616 ^ (k / 8) % 18446744073709551616 = l0) (hb : n / 256 ^ k % 256 = b0) :
    bits .or .u64 (l0 : Int) (IntKind.u64.wrap ((b0 * 2 ^ (8 * (k % 8)) : Nat) : Int)) = ((n % 256 ^ (k + 1) / 18446744073709551616 ^ (k / 8) % 18446744073709551616 : Nat) : Int) := by
  obtain ⟨h1, h2, h3⟩ := of_at n k
  have e : (2 : Nat) ^ (8 * (k % 8)) = 256 ^ (k % 8) := by rw [Nat.pow_mul]
  rw [h1, hb]
  rw [hb] at h3
  have hl2 : n % 256 ^ k / 18446744073709551616 ^ (k / 8) = l0 := by rw [← hl]; exact (Nat.mod_eq_of_lt (by omega)).symm
  rw [hl2] at h2 h3 ⊢
  clear hl hl2 h1 hb
  rw [e]
  generalize 256 ^ (k % 8) = P at *
  have h4 : (b0 * P) % 2 ^ (8 * (k % 8)) = 0 := by rw [e]; exact Nat.mul_mod_left _ _
  have h5 : l0 < 2 ^ (8 * (k % 8)) := by rw [e]; exact h2
  generalize b0 * P = x at *
  have hw : IntKind.u64.wrap (x : Int) = (x : Int) := by simp [IntKind.wrap, IntKind.bits, IntKind.signed]; omega
  rw [hw, u64_or_nat _ _ (by omega) (by omega)]
  congr 1
  rw [Nat.or_comm, nat_join _ _ _ h4 h5, Nat.add_comm]
theorem lims_set_of (n k : Nat) : (lims 4 (n % 256 ^ k)).set (k / 8) (.int .u64 ((n % 256 ^ (k + 1) / 18446744073709551616 ^ (k / 8) % 18446744073709551616 : Nat) : Int)) = lims 4 (n % 256 ^ (k + 1)) := by
  apply List.ext_getElem?
  intro j
  by_cases hj : j < 4
  · rw [List.getElem?_set, lims_get _ _ _ hj, lims_get _ _ _ hj, lims_len]
    by_cases h1 : k / 8 = j
    · subst h1; rw [if_pos rfl, if_pos hj]
    · rw [if_neg h1]
      rcases Nat.lt_or_ge j (k / 8) with h2 | h2
      · rw [of_low n k j h2]
      · rw [of_high n k j (by omega)]
  · rw [List.getElem?_eq_none (by rw [List.length_set, lims_len]; omega), List.getElem?_eq_none (by rw [lims_len]; omega)]
set_option maxHeartbeats 1000000 in
set_option maxRecDepth 100000 in
theorem limOf_any (n : Nat) (hn : n < 256 ^ 32) (w : World) :
    Calls Tryz.prog 40 #[.agg (byts n).toArray] w fun e w' => e = .returned (.agg (lims 4 n).toArray) ∧ Below w.heap.size w w' := by
  have hbl := byts_len n
  go_enter Tryz.func40, Tryz.ntmps40
  go_upto_region 2 with fail
  refine wp_new3 (fun W hsz h1 h2 h3 hb => ?_)
  go_wp2_with (refine wpList_load_arr rfl 23 _ rfl w.heap.size rfl _ Tryz.underlying23 rfl _ h1 (by rw [byts_len]; kernel_rfl) ?_)
  clear h1
  go_loopw [7] (fun kv wr => ∃ k : Nat, k ≤ 32 ∧ kv = .int .i64 k ∧ Arr wr (w.heap.size + 1 + 1) (lims 4 (n % 256 ^ k)) ∧ Arr wr (w.heap.size + 1) (lims 4 0) ∧ Below w.heap.size w wr) (fun kv _ => 32 - (intOf kv).toNat)
  case atStart => exact ⟨0, Nat.zero_le _, rfl, by rw [Nat.pow_zero, Nat.mod_one]; exact h3, h2, hb⟩
  case round =>
    obtain ⟨k, hk, rfl, k3, k2, kb⟩ := hrel
    clear h2 h3 hb hsz
    by_cases hlt : k < 32
    · have hc := k3.cell (lims_get 4 (n % 256 ^ k) (k / 8) (by omega))
      have hf := k3.frozen (k / 8)
      have hbk := byts_get n k hlt
      obtain ⟨b0, hb0⟩ : ∃ b0, n / 256 ^ k % 256 = b0 := ⟨_, rfl⟩
      obtain ⟨l0, hl0⟩ : ∃ l0, n % 256 ^ k / 18446744073709551616 ^ (k / 8) % 18446744073709551616 = l0 := ⟨_, rfl⟩
      rw [hb0] at hbk
      rw [hl0] at hc
      have hb1 : b0 < 256 := by omega
      have hl1 : l0 < 18446744073709551616 := by omega
      have hb0' := Lib.hid hb0
      have hl0' := Lib.hid hl0
      clear hb0 hl0
      obtain ⟨i, hi, hz0, hz1, hz2⟩ := info_parts info_u8
      have hix := run_index_arr (P := Tryz.prog) wr 23 5 32 _ i Tryz.underlying23 Tryz.underlying5 rfl hi hz1 (byts n) k _ hlt hbk
      go_wp2_with fail
      have hq0 : (0 : Int) ≤ (k : Int) / 8 := by omega
      have hq1 : (k : Int) / 8 < 4 := by omega
      have ew1 : IntKind.i64.wrap ((k : Int) / 8) = (k : Int) / 8 := i64_in (by omega)
      have et : ((k : Int) / 8).toNat = k / 8 := by omega
      have em : ((k : Int)).tmod 8 = (k : Int) % 8 := Int.tmod_eq_emod_of_nonneg (by omega)
      have eb : IntKind.u64.wrap (b0 : Int) = (b0 : Int) := by simp [IntKind.wrap, IntKind.bits, IntKind.signed]; omega
      have hs0 : (0 : Int) ≤ 8 * ((k : Int) % 8) := by omega
      have ew2 : IntKind.i64.wrap ((k : Int) % 8) = (k : Int) % 8 := i64_in (by omega)
      have ew3 : IntKind.i64.wrap (8 * ((k : Int) % 8)) = 8 * ((k : Int) % 8) := i64_in (by omega)
      go_still_tail 12, (by kernel_rfl)
      change wpList _ _ _ _ _ wr.drew
      have hc2 : wr.drew.cell? ⟨w.heap.size + 1 + 1, k / 8, none⟩ = some (.int .u64 (l0 : Int)) := hc
      have hf2 : wr.drew.frozen? ⟨w.heap.size + 1 + 1, k / 8, none⟩ = false := hf
      go_wp2_with fail
      have hexp : (8 * ((k : Int) % 8)).toNat = 8 * (k % 8) := by omega
      try rw [hexp]
      rw [show (b0 : Int) * 2 ^ (8 * (k % 8)) = ((b0 * 2 ^ (8 * (k % 8)) : Nat) : Int) by simp, of_step hl0'.out hb0'.out]
      refine ⟨⟨k + 1, by omega, by go_num, ?_, (k2.other (by simp) _), (kb.setCell (by simp; omega) _).drew⟩, by simp [intOf]; omega⟩
      have := k3.set (k / 8) (.int .u64 ((n % 256 ^ (k + 1) / 18446744073709551616 ^ (k / 8) % 18446744073709551616 : Nat) : Int))
      rw [lims_set_of] at this
      exact this
    · obtain rfl : k = 32 := by omega
      rw [Nat.mod_eq_of_lt hn] at k3
      have hl := lims_len 4 n
      have hone : ∀ v ∈ lims 4 n, v.oneCell' = true := by
        intro v hv
        simp only [lims, List.mem_map] at hv
        obtain ⟨x, -, rfl⟩ := hv
        rfl
      go_wp2_with (first | (refine wpList_load_arr rfl 92 _ rfl (w.heap.size + 1 + 1) rfl _ Tryz.underlying92 rfl _ k3 (by rw [hl]; kernel_rfl) ?_) | (refine wpList_store_arr rfl 92 _ _ rfl (w.heap.size + 1) (lims 4 n) rfl rfl _ k2 (by rw [hl]; kernel_rfl) (by rw [hl, lims_len]) hone ?_))
      refine bodyPost_ret (v := .agg (lims 4 n).toArray) (results_arr Tryz.results40 _ _ (w.heap.size + 1) _ rfl Tryz.underlying92 rfl _ (k2.setRow _) (by rw [hl]; kernel_rfl)) rfl ⟨rfl, below_setRow kb (by omega) _⟩
end Go.Proofs.YtmlmggmnlgcbcaaGreat

