/- PortcullisWrong: part 5 of its proof: lemmas and contracts, each with its conditions in its own statement; the last part holds the law itself. -/
import Derived.Test.YtibdgkhkhmdihaaGreatDoorJe03
import Derived.WalkSpells
import Derived.WalkKit
import Derived.Deep.CutRange
import Derived.Deep.CutBlock
import Derived.RegionTactic
import Derived.ScopeJumps
import Derived.WalkLawsBesides
import Derived.StillTailTactics
import Derived.ProofKit
import Derived.Shelf.Spec.BitsCarry
import Derived.Lib.Mul64
import Derived.Laws.Bits64b
import Derived.Deep.QuietTactic
import Derived.BigQuiet

set_option maxHeartbeats 4000000
set_option maxRecDepth 100000
namespace Go.Proofs.YtibdgkhkhmdihaaGreatDoor
open Go.RowKit
theorem gr_drewN {w w' : World} {g : Nat} (h : w.grownBy w' (some g)) {w2 : World} (hb : Below w'.heap.size w' w2) : w.grownBy w2 (some g) := gr_trans h (gr_below hb)
theorem rotl_16 {x : Nat} (hx : x < 4294967296) (w : World) :
 Calls Tryz.prog 114 #[.int .u32 (x : Int), .int .i64 16] w fun e w' => e = .returned (.int .u32 ((rl x 16 : Nat) : Int)) ∧ Below w.heap.size w w' := by
 have h0 : bits .and .u64 16 31 = 16 := by decide
 have h2 : bits .or .u32 ((x : Int) * 65536 % 4294967296) ((x : Int) / 65536) = ((rl x 16 : Nat) : Int) := by
  have := or_u32 (a := x * 65536 % 4294967296) (b := x / 65536) (Nat.mod_lt _ zDc) (Nat.lt_of_le_of_lt (Nat.div_le_self _ _) hx)
  rw [show ((x : Int) * 65536 % 4294967296) = ((x * 65536 % 4294967296 : Nat) : Int) by omega, show ((x : Int) / 65536) = ((x / 65536 : Nat) : Int) by omega]
  exact this
 go_enter Tryz.func114, Tryz.ntmps114
 go_wp2_with fail
 go_ret
 exact ⟨rfl, Below.refl _ _⟩
theorem rotl_12 {x : Nat} (hx : x < 4294967296) (w : World) :
 Calls Tryz.prog 114 #[.int .u32 (x : Int), .int .i64 12] w fun e w' => e = .returned (.int .u32 ((rl x 12 : Nat) : Int)) ∧ Below w.heap.size w w' := by
 have h0 : bits .and .u64 12 31 = 12 := by decide
 have h2 : bits .or .u32 ((x : Int) * 4096 % 4294967296) ((x : Int) / 1048576) = ((rl x 12 : Nat) : Int) := by
  have := or_u32 (a := x * 4096 % 4294967296) (b := x / 1048576) (Nat.mod_lt _ zDc) (Nat.lt_of_le_of_lt (Nat.div_le_self _ _) hx)
  rw [show ((x : Int) * 4096 % 4294967296) = ((x * 4096 % 4294967296 : Nat) : Int) by omega, show ((x : Int) / 1048576) = ((x / 1048576 : Nat) : Int) by omega]
  exact this
 go_enter Tryz.func114, Tryz.ntmps114
 go_wp2_with fail
 go_ret
 exact ⟨rfl, Below.refl _ _⟩
theorem rotl_8 {x : Nat} (hx : x < 4294967296) (w : World) :
 Calls Tryz.prog 114 #[.int .u32 (x : Int), .int .i64 8] w fun e w' => e = .returned (.int .u32 ((rl x 8 : Nat) : Int)) ∧ Below w.heap.size w w' := by
 have h0 : bits .and .u64 8 31 = 8 := by decide
 have h2 : bits .or .u32 ((x : Int) * 256 % 4294967296) ((x : Int) / 16777216) = ((rl x 8 : Nat) : Int) := by
  have := or_u32 (a := x * 256 % 4294967296) (b := x / 16777216) (Nat.mod_lt _ zDc) (Nat.lt_of_le_of_lt (Nat.div_le_self _ _) hx)
  rw [show ((x : Int) * 256 % 4294967296) = ((x * 256 % 4294967296 : Nat) : Int) by omega, show ((x : Int) / 16777216) = ((x / 16777216 : Nat) : Int) by omega]
  exact this
 go_enter Tryz.func114, Tryz.ntmps114
 go_wp2_with fail
 go_ret
 exact ⟨rfl, Below.refl _ _⟩
theorem rotl_7 {x : Nat} (hx : x < 4294967296) (w : World) :
 Calls Tryz.prog 114 #[.int .u32 (x : Int), .int .i64 7] w fun e w' => e = .returned (.int .u32 ((rl x 7 : Nat) : Int)) ∧ Below w.heap.size w w' := by
 have h0 : bits .and .u64 7 31 = 7 := by decide
 have h2 : bits .or .u32 ((x : Int) * 128 % 4294967296) ((x : Int) / 33554432) = ((rl x 7 : Nat) : Int) := by
  have := or_u32 (a := x * 128 % 4294967296) (b := x / 33554432) (Nat.mod_lt _ zDc) (Nat.lt_of_le_of_lt (Nat.div_le_self _ _) hx)
  rw [show ((x : Int) * 128 % 4294967296) = ((x * 128 % 4294967296 : Nat) : Int) by omega, show ((x : Int) / 33554432) = ((x / 33554432 : Nat) : Int) by omega]
  exact this
 go_enter Tryz.func114, Tryz.ntmps114
 go_wp2_with fail
 go_ret
 exact ⟨rfl, Below.refl _ _⟩
theorem quarter_any {g : Nat} {l0 : List Nat} {a b c d : Nat} (w : World) (hlen0 : l0.length = 16) (h320 : W32 l0) (ha : a < 16) (hb : b < 16) (hc : c < 16) (hd : d < 16) (k0 : Arr w g (ws l0)) :
 Calls Tryz.prog 285 #[.pointer (some ⟨g, 0, none⟩), .int .i64 a, .int .i64 b, .int .i64 c, .int .i64 d] w fun e w' => e = .returned (.tuple #[]) ∧ Arr w' g (ws (qr l0 a b c d)) ∧ w.grownBy w' (some g) := by
 obtain ⟨R, hR⟩ : ∃ R, qr l0 a b c d = R := ⟨_, rfl⟩
 rw [hR]
 have a0 : (0 : Int) ≤ (a : Int) := by omega
 have a1 : (a : Int) < 16 := by omega
 have b0 : (0 : Int) ≤ (b : Int) := by omega
 have b1 : (b : Int) < 16 := by omega
 have c0 : (0 : Int) ≤ (c : Int) := by omega
 have c1 : (c : Int) < 16 := by omega
 have d0 : (0 : Int) ≤ (d : Int) := by omega
 have d1 : (d : Int) < 16 := by omega
 obtain ⟨l, hll⟩ : ∃ l, l0 = l := ⟨_, rfl⟩
 have hlen : Hid (l.length = 16) := zH (by rw [← hll]; exact hlen0)
 have h32 : Hid (W32 l) := zH (by rw [← hll]; exact h320)
 rw [hll] at k0 hR
 unfold qr at hR
 replace hR := zH hR
 clear hlen0 h320 hll
 have kg := World.grownBy.refl w (some g)
 go_enter Tryz.func285, Tryz.ntmps285
 -- a += b
 obtain ⟨x, hx⟩ : ∃ x, l.getD a 0 = x := ⟨_, rfl⟩
 obtain ⟨y, hy⟩ : ∃ y, l.getD b 0 = y := ⟨_, rfl⟩
 have hcx := ws_get (l := l) (j := a) (by rw [hlen.out]; exact ha)
 have hcy := ws_get (l := l) (j := b) (by rw [hlen.out]; exact hb)
 rw [hx] at hcx
 rw [hy] at hcy
 replace hcx := zH hcx
 replace hcy := zH hcy
 obtain ⟨l2, hl2_0⟩ : ∃ l2, qa l a b = l2 := ⟨_, rfl⟩
 have hlen2 : Hid (l2.length = 16) := zH (by rw [← hl2_0, qa_len]; exact hlen.out)
 have h322 : Hid (W32 l2) := zH (by rw [← hl2_0]; exact qa_32 h32.out _ _)
 have hset : Hid ((ws l).set a (.int .u32 (IntKind.u32.wrap ((x : Int) + (y : Int)))) = ws l2) := zH (by
  rw [show ((x : Int) + (y : Int)) = ((x + y : Nat) : Int) by omega, u32_mod, ws_set, ← hl2_0, qa, hx, hy])
 replace hR := zH (by have q := hR.out; rw [hl2_0] at q; exact q)
 clear hl2_0 hx hy
 go_upto_region 0 with fail
 refine Tx.start (fun w' => Below (w).heap.size (w) w') 13 14 rfl zKr ?_
 have hS_1 : Below (w).heap.size (w) (World.drew w) := (Below.refl _ _).drew
 refine Tx.seg2 (A := ?_) 1 8191 zKr (by exact hS_1) [0, 1, 2, 3, 4, 5, 6, 7, 8, 9, 10, 11, 12] zKr ?_ ?_
 rotate_left
 · intro w' hB
   have e1 := (k0.below hB).cell hcx.out
   have e2 := (k0.below hB).cell hcy.out
   exact zRd
 refine Tx.bar 16383 rfl zDk (fun K hK => ?_)
 replace k0 := k0.below hS_1
 replace kg := gr_drewN kg hS_1
 clear hS_1
 refine step_cellG rfl _ _ _ rfl g a (.int .u32 (IntKind.u32.wrap ((x : Int) + (y : Int)))) rfl rfl _ k0 zKr (by rw [ws_len, hlen.out]; exact ha) rfl (fun w1 k1 hg hsz => ?_)
 replace kg := gr_trans kg hg
 clear k0
 have k0 := k1
 clear k1
 rw [hset.out] at k0
 clear hg hsz hset hcx hcy hlen h32
 refine hK (fun _ => True) 9999 _ _ ?_
 clear hK K
 try simp only [Act.put]
 try simp only [zSa, zSz, zSs]
 refine Tx.done zKr ?_
 have hlen := hlen2
 have h32 := h322
 clear hlen2 h322
 obtain ⟨l, hll⟩ : ∃ l3, l2 = l3 := ⟨_, rfl⟩
 rw [hll] at k0 hlen h32 hR
 -- d = (d ^ a) turned by 16
 obtain ⟨x, hx⟩ : ∃ x, l.getD d 0 = x := ⟨_, rfl⟩
 obtain ⟨y, hy⟩ : ∃ y, l.getD a 0 = y := ⟨_, rfl⟩
 have hcx := ws_get (l := l) (j := d) (by rw [hlen.out]; exact hd)
 have hcy := ws_get (l := l) (j := a) (by rw [hlen.out]; exact ha)
 rw [hx] at hcx
 rw [hy] at hcy
 replace hcx := zH hcx
 replace hcy := zH hcy
 have lx : x < 4294967296 := by rw [← hx]; exact h32.out.get _
 have ly : y < 4294967296 := by rw [← hy]; exact h32.out.get _
 have hxy := xor_u32 lx ly
 obtain ⟨z, hz⟩ : ∃ z, x ^^^ y = z := ⟨_, rfl⟩
 have lz : Hid (z < 4294967296) := zH (by rw [← hz]; exact xor_lt lx ly)
 rw [hz] at hxy
 obtain ⟨l2, hl2_1⟩ : ∃ l2, qx l d a 16 = l2 := ⟨_, rfl⟩
 have hlen2 : Hid (l2.length = 16) := zH (by rw [← hl2_1, qx_len]; exact hlen.out)
 have h322 : Hid (W32 l2) := zH (by rw [← hl2_1]; exact qx_32 h32.out _ _ _)
 have hset : Hid ((ws l).set d (.int .u32 ((rl z 16 : Nat) : Int)) = ws l2) := zH (by
  rw [ws_set, ← hl2_1, qx, hx, hy, hz])
 replace hR := zH (by have q := hR.out; rw [hl2_1] at q; exact q)
 clear hl2_1 hx hy hz lx ly
 go_upto_region 1 with fail
 obtain ⟨wq, hwq⟩ : ∃ wq : World, w1 = wq := ⟨_, rfl⟩
 rw [hwq] at k0 kg ⊢
 clear hwq
 refine Tx.start (fun w' => Below (wq).heap.size (wq) w') 16 17 rfl zKr ?_
 have hS_2 : Below (wq).heap.size (wq) (World.drew wq) := (Below.refl _ _).drew
 refine Tx.seg2 (A := ?_) 3 24575 zKr (by exact hS_2) [0, 1, 2, 3, 4, 5, 6, 7, 8, 9, 10, 11, 12, 14] zKr ?_ ?_
 rotate_left
 · intro w' hB
   have e1 := (k0.below hB).cell hcx.out
   have e2 := (k0.below hB).cell hcy.out
   exact zRd
 refine Tx.eff 13 32767 rfl zDk (fun K hK => ?_)
 go_simp
 refine (rotl_16 lz.out _).mono ?_
 rintro e w_3 ⟨rfl, hb_3⟩
 have hS_3 := ext_trans hS_2 (Nat.le_refl _) hb_3
 refine hK (fun w' => Below (wq).heap.size (wq) w') _ _ hS_3 (fun _ h => h) ?_
 clear hK K hb_3 hS_2
 try simp only [Act.put, zSa, zSz, zSs]
 refine Tx.seg2 (A := ?_) 1 65535 zKr (by exact hS_3) [15] zKr ?_ ?_
 rotate_left
 · intro w' hB
   exact zRd
 refine Tx.bar 131071 rfl zDk (fun K hK => ?_)
 replace k0 := k0.below hS_3
 replace kg := gr_drewN kg hS_3
 clear hS_3
 refine step_cellG rfl _ _ _ rfl g d (.int .u32 ((rl z 16 : Nat) : Int)) rfl rfl _ k0 zKr (by rw [ws_len, hlen.out]; exact hd) rfl (fun w2 k1 hg hsz => ?_)
 replace kg := gr_trans kg hg
 clear k0
 have k0 := k1
 clear k1
 rw [hset.out] at k0
 clear hg hsz hset hcx hcy hlen h32 hxy lz
 refine hK (fun _ => True) 9999 _ _ ?_
 clear hK K
 try simp only [Act.put]
 try simp only [zSa, zSz, zSs]
 refine Tx.done zKr ?_
 have hlen := hlen2
 have h32 := h322
 clear hlen2 h322
 obtain ⟨l, hll⟩ : ∃ l3, l2 = l3 := ⟨_, rfl⟩
 rw [hll] at k0 hlen h32 hR
 -- c += d
 obtain ⟨x, hx⟩ : ∃ x, l.getD c 0 = x := ⟨_, rfl⟩
 obtain ⟨y, hy⟩ : ∃ y, l.getD d 0 = y := ⟨_, rfl⟩
 have hcx := ws_get (l := l) (j := c) (by rw [hlen.out]; exact hc)
 have hcy := ws_get (l := l) (j := d) (by rw [hlen.out]; exact hd)
 rw [hx] at hcx
 rw [hy] at hcy
 replace hcx := zH hcx
 replace hcy := zH hcy
 obtain ⟨l2, hl2_2⟩ : ∃ l2, qa l c d = l2 := ⟨_, rfl⟩
 have hlen2 : Hid (l2.length = 16) := zH (by rw [← hl2_2, qa_len]; exact hlen.out)
 have h322 : Hid (W32 l2) := zH (by rw [← hl2_2]; exact qa_32 h32.out _ _)
 have hset : Hid ((ws l).set c (.int .u32 (IntKind.u32.wrap ((x : Int) + (y : Int)))) = ws l2) := zH (by
  rw [show ((x : Int) + (y : Int)) = ((x + y : Nat) : Int) by omega, u32_mod, ws_set, ← hl2_2, qa, hx, hy])
 replace hR := zH (by have q := hR.out; rw [hl2_2] at q; exact q)
 clear hl2_2 hx hy
 go_upto_region 2 with fail
 obtain ⟨wq, hwq⟩ : ∃ wq : World, w2 = wq := ⟨_, rfl⟩
 rw [hwq] at k0 kg ⊢
 clear hwq
 refine Tx.start (fun w' => Below (wq).heap.size (wq) w') 13 14 rfl zKr ?_
 have hS_4 : Below (wq).heap.size (wq) (World.drew wq) := (Below.refl _ _).drew
 refine Tx.seg2 (A := ?_) 1 8191 zKr (by exact hS_4) [0, 1, 2, 3, 4, 5, 6, 7, 8, 9, 10, 11, 12] zKr ?_ ?_
 rotate_left
 · intro w' hB
   have e1 := (k0.below hB).cell hcx.out
   have e2 := (k0.below hB).cell hcy.out
   exact zRd
 refine Tx.bar 16383 rfl zDk (fun K hK => ?_)
 replace k0 := k0.below hS_4
 replace kg := gr_drewN kg hS_4
 clear hS_4
 refine step_cellG rfl _ _ _ rfl g c (.int .u32 (IntKind.u32.wrap ((x : Int) + (y : Int)))) rfl rfl _ k0 zKr (by rw [ws_len, hlen.out]; exact hc) rfl (fun w3 k1 hg hsz => ?_)
 replace kg := gr_trans kg hg
 clear k0
 have k0 := k1
 clear k1
 rw [hset.out] at k0
 clear hg hsz hset hcx hcy hlen h32
 refine hK (fun _ => True) 9999 _ _ ?_
 clear hK K
 try simp only [Act.put]
 try simp only [zSa, zSz, zSs]
 refine Tx.done zKr ?_
 have hlen := hlen2
 have h32 := h322
 clear hlen2 h322
 obtain ⟨l, hll⟩ : ∃ l3, l2 = l3 := ⟨_, rfl⟩
 rw [hll] at k0 hlen h32 hR
 -- b = (b ^ c) turned by 12
 obtain ⟨x, hx⟩ : ∃ x, l.getD b 0 = x := ⟨_, rfl⟩
 obtain ⟨y, hy⟩ : ∃ y, l.getD c 0 = y := ⟨_, rfl⟩
 have hcx := ws_get (l := l) (j := b) (by rw [hlen.out]; exact hb)
 have hcy := ws_get (l := l) (j := c) (by rw [hlen.out]; exact hc)
 rw [hx] at hcx
 rw [hy] at hcy
 replace hcx := zH hcx
 replace hcy := zH hcy
 have lx : x < 4294967296 := by rw [← hx]; exact h32.out.get _
 have ly : y < 4294967296 := by rw [← hy]; exact h32.out.get _
 have hxy := xor_u32 lx ly
 obtain ⟨z, hz⟩ : ∃ z, x ^^^ y = z := ⟨_, rfl⟩
 have lz : Hid (z < 4294967296) := zH (by rw [← hz]; exact xor_lt lx ly)
 rw [hz] at hxy
 obtain ⟨l2, hl2_3⟩ : ∃ l2, qx l b c 12 = l2 := ⟨_, rfl⟩
 have hlen2 : Hid (l2.length = 16) := zH (by rw [← hl2_3, qx_len]; exact hlen.out)
 have h322 : Hid (W32 l2) := zH (by rw [← hl2_3]; exact qx_32 h32.out _ _ _)
 have hset : Hid ((ws l).set b (.int .u32 ((rl z 12 : Nat) : Int)) = ws l2) := zH (by
  rw [ws_set, ← hl2_3, qx, hx, hy, hz])
 replace hR := zH (by have q := hR.out; rw [hl2_3] at q; exact q)
 clear hl2_3 hx hy hz lx ly
 go_upto_region 3 with fail
 obtain ⟨wq, hwq⟩ : ∃ wq : World, w3 = wq := ⟨_, rfl⟩
 rw [hwq] at k0 kg ⊢
 clear hwq
 refine Tx.start (fun w' => Below (wq).heap.size (wq) w') 16 17 rfl zKr ?_
 have hS_5 : Below (wq).heap.size (wq) (World.drew wq) := (Below.refl _ _).drew
 refine Tx.seg2 (A := ?_) 3 24575 zKr (by exact hS_5) [0, 1, 2, 3, 4, 5, 6, 7, 8, 9, 10, 11, 12, 14] zKr ?_ ?_
 rotate_left
 · intro w' hB
   have e1 := (k0.below hB).cell hcx.out
   have e2 := (k0.below hB).cell hcy.out
   exact zRd
 refine Tx.eff 13 32767 rfl zDk (fun K hK => ?_)
 go_simp
 refine (rotl_12 lz.out _).mono ?_
 rintro e w_6 ⟨rfl, hb_6⟩
 have hS_6 := ext_trans hS_5 (Nat.le_refl _) hb_6
 refine hK (fun w' => Below (wq).heap.size (wq) w') _ _ hS_6 (fun _ h => h) ?_
 clear hK K hb_6 hS_5
 try simp only [Act.put, zSa, zSz, zSs]
 refine Tx.seg2 (A := ?_) 1 65535 zKr (by exact hS_6) [15] zKr ?_ ?_
 rotate_left
 · intro w' hB
   exact zRd
 refine Tx.bar 131071 rfl zDk (fun K hK => ?_)
 replace k0 := k0.below hS_6
 replace kg := gr_drewN kg hS_6
 clear hS_6
 refine step_cellG rfl _ _ _ rfl g b (.int .u32 ((rl z 12 : Nat) : Int)) rfl rfl _ k0 zKr (by rw [ws_len, hlen.out]; exact hb) rfl (fun w4 k1 hg hsz => ?_)
 replace kg := gr_trans kg hg
 clear k0
 have k0 := k1
 clear k1
 rw [hset.out] at k0
 clear hg hsz hset hcx hcy hlen h32 hxy lz
 refine hK (fun _ => True) 9999 _ _ ?_
 clear hK K
 try simp only [Act.put]
 try simp only [zSa, zSz, zSs]
 refine Tx.done zKr ?_
 have hlen := hlen2
 have h32 := h322
 clear hlen2 h322
 obtain ⟨l, hll⟩ : ∃ l3, l2 = l3 := ⟨_, rfl⟩
 rw [hll] at k0 hlen h32 hR
 -- a += b
 obtain ⟨x, hx⟩ : ∃ x, l.getD a 0 = x := ⟨_, rfl⟩
 obtain ⟨y, hy⟩ : ∃ y, l.getD b 0 = y := ⟨_, rfl⟩
 have hcx := ws_get (l := l) (j := a) (by rw [hlen.out]; exact ha)
 have hcy := ws_get (l := l) (j := b) (by rw [hlen.out]; exact hb)
 rw [hx] at hcx
 rw [hy] at hcy
 replace hcx := zH hcx
 replace hcy := zH hcy
 obtain ⟨l2, hl2_4⟩ : ∃ l2, qa l a b = l2 := ⟨_, rfl⟩
 have hlen2 : Hid (l2.length = 16) := zH (by rw [← hl2_4, qa_len]; exact hlen.out)
 have h322 : Hid (W32 l2) := zH (by rw [← hl2_4]; exact qa_32 h32.out _ _)
 have hset : Hid ((ws l).set a (.int .u32 (IntKind.u32.wrap ((x : Int) + (y : Int)))) = ws l2) := zH (by
  rw [show ((x : Int) + (y : Int)) = ((x + y : Nat) : Int) by omega, u32_mod, ws_set, ← hl2_4, qa, hx, hy])
 replace hR := zH (by have q := hR.out; rw [hl2_4] at q; exact q)
 clear hl2_4 hx hy
 go_upto_region 4 with fail
 obtain ⟨wq, hwq⟩ : ∃ wq : World, w4 = wq := ⟨_, rfl⟩
 rw [hwq] at k0 kg ⊢
 clear hwq
 refine Tx.start (fun w' => Below (wq).heap.size (wq) w') 13 14 rfl zKr ?_
 have hS_7 : Below (wq).heap.size (wq) (World.drew wq) := (Below.refl _ _).drew
 refine Tx.seg2 (A := ?_) 1 8191 zKr (by exact hS_7) [0, 1, 2, 3, 4, 5, 6, 7, 8, 9, 10, 11, 12] zKr ?_ ?_
 rotate_left
 · intro w' hB
   have e1 := (k0.below hB).cell hcx.out
   have e2 := (k0.below hB).cell hcy.out
   exact zRd
 refine Tx.bar 16383 rfl zDk (fun K hK => ?_)
 replace k0 := k0.below hS_7
 replace kg := gr_drewN kg hS_7
 clear hS_7
 refine step_cellG rfl _ _ _ rfl g a (.int .u32 (IntKind.u32.wrap ((x : Int) + (y : Int)))) rfl rfl _ k0 zKr (by rw [ws_len, hlen.out]; exact ha) rfl (fun w5 k1 hg hsz => ?_)
 replace kg := gr_trans kg hg
 clear k0
 have k0 := k1
 clear k1
 rw [hset.out] at k0
 clear hg hsz hset hcx hcy hlen h32
 refine hK (fun _ => True) 9999 _ _ ?_
 clear hK K
 try simp only [Act.put]
 try simp only [zSa, zSz, zSs]
 refine Tx.done zKr ?_
 have hlen := hlen2
 have h32 := h322
 clear hlen2 h322
 obtain ⟨l, hll⟩ : ∃ l3, l2 = l3 := ⟨_, rfl⟩
 rw [hll] at k0 hlen h32 hR
 -- d = (d ^ a) turned by 8
 obtain ⟨x, hx⟩ : ∃ x, l.getD d 0 = x := ⟨_, rfl⟩
 obtain ⟨y, hy⟩ : ∃ y, l.getD a 0 = y := ⟨_, rfl⟩
 have hcx := ws_get (l := l) (j := d) (by rw [hlen.out]; exact hd)
 have hcy := ws_get (l := l) (j := a) (by rw [hlen.out]; exact ha)
 rw [hx] at hcx
 rw [hy] at hcy
 replace hcx := zH hcx
 replace hcy := zH hcy
 have lx : x < 4294967296 := by rw [← hx]; exact h32.out.get _
 have ly : y < 4294967296 := by rw [← hy]; exact h32.out.get _
 have hxy := xor_u32 lx ly
 obtain ⟨z, hz⟩ : ∃ z, x ^^^ y = z := ⟨_, rfl⟩
 have lz : Hid (z < 4294967296) := zH (by rw [← hz]; exact xor_lt lx ly)
 rw [hz] at hxy
 obtain ⟨l2, hl2_5⟩ : ∃ l2, qx l d a 8 = l2 := ⟨_, rfl⟩
 have hlen2 : Hid (l2.length = 16) := zH (by rw [← hl2_5, qx_len]; exact hlen.out)
 have h322 : Hid (W32 l2) := zH (by rw [← hl2_5]; exact qx_32 h32.out _ _ _)
 have hset : Hid ((ws l).set d (.int .u32 ((rl z 8 : Nat) : Int)) = ws l2) := zH (by
  rw [ws_set, ← hl2_5, qx, hx, hy, hz])
 replace hR := zH (by have q := hR.out; rw [hl2_5] at q; exact q)
 clear hl2_5 hx hy hz lx ly
 go_upto_region 5 with fail
 obtain ⟨wq, hwq⟩ : ∃ wq : World, w5 = wq := ⟨_, rfl⟩
 rw [hwq] at k0 kg ⊢
 clear hwq
 refine Tx.start (fun w' => Below (wq).heap.size (wq) w') 16 17 rfl zKr ?_
 have hS_8 : Below (wq).heap.size (wq) (World.drew wq) := (Below.refl _ _).drew
 refine Tx.seg2 (A := ?_) 3 24575 zKr (by exact hS_8) [0, 1, 2, 3, 4, 5, 6, 7, 8, 9, 10, 11, 12, 14] zKr ?_ ?_
 rotate_left
 · intro w' hB
   have e1 := (k0.below hB).cell hcx.out
   have e2 := (k0.below hB).cell hcy.out
   exact zRd
 refine Tx.eff 13 32767 rfl zDk (fun K hK => ?_)
 go_simp
 refine (rotl_8 lz.out _).mono ?_
 rintro e w_9 ⟨rfl, hb_9⟩
 have hS_9 := ext_trans hS_8 (Nat.le_refl _) hb_9
 refine hK (fun w' => Below (wq).heap.size (wq) w') _ _ hS_9 (fun _ h => h) ?_
 clear hK K hb_9 hS_8
 try simp only [Act.put, zSa, zSz, zSs]
 refine Tx.seg2 (A := ?_) 1 65535 zKr (by exact hS_9) [15] zKr ?_ ?_
 rotate_left
 · intro w' hB
   exact zRd
 refine Tx.bar 131071 rfl zDk (fun K hK => ?_)
 replace k0 := k0.below hS_9
 replace kg := gr_drewN kg hS_9
 clear hS_9
 refine step_cellG rfl _ _ _ rfl g d (.int .u32 ((rl z 8 : Nat) : Int)) rfl rfl _ k0 zKr (by rw [ws_len, hlen.out]; exact hd) rfl (fun w6 k1 hg hsz => ?_)
 replace kg := gr_trans kg hg
 clear k0
 have k0 := k1
 clear k1
 rw [hset.out] at k0
 clear hg hsz hset hcx hcy hlen h32 hxy lz
 refine hK (fun _ => True) 9999 _ _ ?_
 clear hK K
 try simp only [Act.put]
 try simp only [zSa, zSz, zSs]
 refine Tx.done zKr ?_
 have hlen := hlen2
 have h32 := h322
 clear hlen2 h322
 obtain ⟨l, hll⟩ : ∃ l3, l2 = l3 := ⟨_, rfl⟩
 rw [hll] at k0 hlen h32 hR
 -- c += d
 obtain ⟨x, hx⟩ : ∃ x, l.getD c 0 = x := ⟨_, rfl⟩
 obtain ⟨y, hy⟩ : ∃ y, l.getD d 0 = y := ⟨_, rfl⟩
 have hcx := ws_get (l := l) (j := c) (by rw [hlen.out]; exact hc)
 have hcy := ws_get (l := l) (j := d) (by rw [hlen.out]; exact hd)
 rw [hx] at hcx
 rw [hy] at hcy
 replace hcx := zH hcx
 replace hcy := zH hcy
 obtain ⟨l2, hl2_6⟩ : ∃ l2, qa l c d = l2 := ⟨_, rfl⟩
 have hlen2 : Hid (l2.length = 16) := zH (by rw [← hl2_6, qa_len]; exact hlen.out)
 have h322 : Hid (W32 l2) := zH (by rw [← hl2_6]; exact qa_32 h32.out _ _)
 have hset : Hid ((ws l).set c (.int .u32 (IntKind.u32.wrap ((x : Int) + (y : Int)))) = ws l2) := zH (by
  rw [show ((x : Int) + (y : Int)) = ((x + y : Nat) : Int) by omega, u32_mod, ws_set, ← hl2_6, qa, hx, hy])
 replace hR := zH (by have q := hR.out; rw [hl2_6] at q; exact q)
 clear hl2_6 hx hy
 go_upto_region 6 with fail
 obtain ⟨wq, hwq⟩ : ∃ wq : World, w6 = wq := ⟨_, rfl⟩
 rw [hwq] at k0 kg ⊢
 clear hwq
 refine Tx.start (fun w' => Below (wq).heap.size (wq) w') 13 14 rfl zKr ?_
 have hS_10 : Below (wq).heap.size (wq) (World.drew wq) := (Below.refl _ _).drew
 refine Tx.seg2 (A := ?_) 1 8191 zKr (by exact hS_10) [0, 1, 2, 3, 4, 5, 6, 7, 8, 9, 10, 11, 12] zKr ?_ ?_
 rotate_left
 · intro w' hB
   have e1 := (k0.below hB).cell hcx.out
   have e2 := (k0.below hB).cell hcy.out
   exact zRd
 refine Tx.bar 16383 rfl zDk (fun K hK => ?_)
 replace k0 := k0.below hS_10
 replace kg := gr_drewN kg hS_10
 clear hS_10
 refine step_cellG rfl _ _ _ rfl g c (.int .u32 (IntKind.u32.wrap ((x : Int) + (y : Int)))) rfl rfl _ k0 zKr (by rw [ws_len, hlen.out]; exact hc) rfl (fun w7 k1 hg hsz => ?_)
 replace kg := gr_trans kg hg
 clear k0
 have k0 := k1
 clear k1
 rw [hset.out] at k0
 clear hg hsz hset hcx hcy hlen h32
 refine hK (fun _ => True) 9999 _ _ ?_
 clear hK K
 try simp only [Act.put]
 try simp only [zSa, zSz, zSs]
 refine Tx.done zKr ?_
 have hlen := hlen2
 have h32 := h322
 clear hlen2 h322
 obtain ⟨l, hll⟩ : ∃ l3, l2 = l3 := ⟨_, rfl⟩
 rw [hll] at k0 hlen h32 hR
 -- b = (b ^ c) turned by 7
 obtain ⟨x, hx⟩ : ∃ x, l.getD b 0 = x := ⟨_, rfl⟩
 obtain ⟨y, hy⟩ : ∃ y, l.getD c 0 = y := ⟨_, rfl⟩
 have hcx := ws_get (l := l) (j := b) (by rw [hlen.out]; exact hb)
 have hcy := ws_get (l := l) (j := c) (by rw [hlen.out]; exact hc)
 rw [hx] at hcx
 rw [hy] at hcy
 replace hcx := zH hcx
 replace hcy := zH hcy
 have lx : x < 4294967296 := by rw [← hx]; exact h32.out.get _
 have ly : y < 4294967296 := by rw [← hy]; exact h32.out.get _
 have hxy := xor_u32 lx ly
 obtain ⟨z, hz⟩ : ∃ z, x ^^^ y = z := ⟨_, rfl⟩
 have lz : Hid (z < 4294967296) := zH (by rw [← hz]; exact xor_lt lx ly)
 rw [hz] at hxy
 obtain ⟨l2, hl2_7⟩ : ∃ l2, qx l b c 7 = l2 := ⟨_, rfl⟩
 have hlen2 : Hid (l2.length = 16) := zH (by rw [← hl2_7, qx_len]; exact hlen.out)
 have h322 : Hid (W32 l2) := zH (by rw [← hl2_7]; exact qx_32 h32.out _ _ _)
 have hset : Hid ((ws l).set b (.int .u32 ((rl z 7 : Nat) : Int)) = ws l2) := zH (by
  rw [ws_set, ← hl2_7, qx, hx, hy, hz])
 replace hR := zH (by have q := hR.out; rw [hl2_7] at q; exact q)
 clear hl2_7 hx hy hz lx ly
 go_upto_region 7 with fail
 obtain ⟨wq, hwq⟩ : ∃ wq : World, w7 = wq := ⟨_, rfl⟩
 rw [hwq] at k0 kg ⊢
 clear hwq
 refine Tx.start (fun w' => Below (wq).heap.size (wq) w') 16 17 rfl zKr ?_
 have hS_11 : Below (wq).heap.size (wq) (World.drew wq) := (Below.refl _ _).drew
 refine Tx.seg2 (A := ?_) 3 24575 zKr (by exact hS_11) [0, 1, 2, 3, 4, 5, 6, 7, 8, 9, 10, 11, 12, 14] zKr ?_ ?_
 rotate_left
 · intro w' hB
   have e1 := (k0.below hB).cell hcx.out
   have e2 := (k0.below hB).cell hcy.out
   exact zRd
 refine Tx.eff 13 32767 rfl zDk (fun K hK => ?_)
 go_simp
 refine (rotl_7 lz.out _).mono ?_
 rintro e w_12 ⟨rfl, hb_12⟩
 have hS_12 := ext_trans hS_11 (Nat.le_refl _) hb_12
 refine hK (fun w' => Below (wq).heap.size (wq) w') _ _ hS_12 (fun _ h => h) ?_
 clear hK K hb_12 hS_11
 try simp only [Act.put, zSa, zSz, zSs]
 refine Tx.seg2 (A := ?_) 1 65535 zKr (by exact hS_12) [15] zKr ?_ ?_
 rotate_left
 · intro w' hB
   exact zRd
 refine Tx.bar 131071 rfl zDk (fun K hK => ?_)
 replace k0 := k0.below hS_12
 replace kg := gr_drewN kg hS_12
 clear hS_12
 refine step_cellG rfl _ _ _ rfl g b (.int .u32 ((rl z 7 : Nat) : Int)) rfl rfl _ k0 zKr (by rw [ws_len, hlen.out]; exact hb) rfl (fun w8 k1 hg hsz => ?_)
 replace kg := gr_trans kg hg
 clear k0
 have k0 := k1
 clear k1
 rw [hset.out] at k0
 clear hg hsz hset hcx hcy hlen h32 hxy lz
 refine hK (fun _ => True) 9999 _ _ ?_
 clear hK K
 try simp only [Act.put]
 try simp only [zSa, zSz, zSs]
 refine Tx.done zKr ?_
 have hlen := hlen2
 have h32 := h322
 clear hlen2 h322
 obtain ⟨l, hll⟩ : ∃ l3, l2 = l3 := ⟨_, rfl⟩
 rw [hll] at k0 hlen h32 hR
 go_wp2_with fail
 go_end0
 have q := hR.out
 subst q
 exact ⟨rfl, k0, kg⟩
theorem of_step {n k l0 b0 : Nat} (hl : n % 256 ^ k / 18446744073709551616 ^ (k / 8) % 18446744073709551616 = l0) (hb : n / 256 ^ k % 256 = b0) :
 bits .or .u64 (l0 : Int) (IntKind.u64.wrap ((b0 * 2 ^ (8 * (k % 8)) : Nat) : Int)) = ((n % 256 ^ (k + 1) / 18446744073709551616 ^ (k / 8) % 18446744073709551616 : Nat) : Int) := by
 obtain ⟨h1, h2, h3⟩ := of_at n k
 have e : (2 : Nat) ^ (8 * (k % 8)) = 256 ^ (k % 8) := by rw [Nat.pow_mul]
 rw [h1, hb]
 rw [hb] at h3
 have hl2 : n % 256 ^ k / 18446744073709551616 ^ (k / 8) = l0 := by rw [← hl]; exact (Nat.mod_eq_of_lt zOm).symm
 rw [hl2] at h2 h3 ⊢
 clear hl hl2 h1 hb
 rw [e]
 generalize 256 ^ (k % 8) = P at *
 have h4 : (b0 * P) % 2 ^ (8 * (k % 8)) = 0 := by rw [e]; exact Nat.mul_mod_left _ _
 have h5 : l0 < 2 ^ (8 * (k % 8)) := by rw [e]; exact h2
 generalize b0 * P = x at *
 have hw : IntKind.u64.wrap (x : Int) = (x : Int) := by simp [IntKind.wrap, IntKind.bits, IntKind.signed]; omega
 rw [hw, u64_or_nat _ _ zOm zOm]
 congr 1
 rw [Nat.or_comm, nat_join _ _ _ h4 h5, Nat.add_comm]
theorem lims_set_of (n k : Nat) : (lims 4 (n % 256 ^ k)).set (k / 8) (.int .u64 ((n % 256 ^ (k + 1) / 18446744073709551616 ^ (k / 8) % 18446744073709551616 : Nat) : Int)) = lims 4 (n % 256 ^ (k + 1)) := by
 apply List.ext_getElem?
 intro j
 by_cases hj : j < 4
 · rw [List.getElem?_set, lims_get _ _ _ hj, lims_get _ _ _ hj, lims_len]
   by_cases h1 : k / 8 = j
   · subst h1; rw [if_pos rfl, if_pos hj]
   · rw [if_neg h1]
     rcases Nat.lt_or_ge j (k / 8) with h2 | h2
     · rw [of_low n k j h2]
     · rw [of_high n k j zOm]
 · rw [List.getElem?_eq_none (by rw [List.length_set, lims_len]; omega), List.getElem?_eq_none (by rw [lims_len]; omega)]
theorem limOf_any (n : Nat) (hn : n < 256 ^ 32) (w : World) :
 Calls Tryz.prog 120 #[.agg (byts n).toArray] w fun e w' => e = .returned (.agg (lims 4 n).toArray) ∧ Below w.heap.size w w' := by
 have hbl := byts_len n
 go_enter Tryz.func120, Tryz.ntmps120
 go_upto_region 2 with fail
 refine wp_new3 (fun W hsz h1 h2 h3 hb => ?_)
 go_wp2_with (refine wpList_load_arr rfl 34 _ rfl w.heap.size rfl _ Tryz.underlying34 rfl _ h1 (by rw [byts_len]; kernel_rfl) ?_)
 clear h1
 go_loopw [7] (fun kv wr => ∃ k : Nat, k ≤ 32 ∧ kv = .int .i64 k ∧ Arr wr (w.heap.size + 1 + 1) (lims 4 (n % 256 ^ k)) ∧ Arr wr (w.heap.size + 1) (lims 4 0) ∧ Below w.heap.size w wr) (fun kv _ => 32 - (intOf kv).toNat)
 case atStart => exact ⟨0, Nat.zero_le _, rfl, by rw [Nat.pow_zero, Nat.mod_one]; exact h3, h2, hb⟩
 case round =>
  obtain ⟨k, hk, rfl, k3, k2, kb⟩ := hrel
  clear h2 h3 hb hsz
  by_cases hlt : k < 32
  · have hc := k3.cell (lims_get 4 (n % 256 ^ k) (k / 8) zOm)
    have hf := k3.frozen (k / 8)
    have hbk := byts_get n k hlt
    obtain ⟨b0, hb0⟩ : ∃ b0, n / 256 ^ k % 256 = b0 := ⟨_, rfl⟩
    obtain ⟨l0, hl0⟩ : ∃ l0, n % 256 ^ k / 18446744073709551616 ^ (k / 8) % 18446744073709551616 = l0 := ⟨_, rfl⟩
    rw [hb0] at hbk
    rw [hl0] at hc
    have hb1 : b0 < 256 := by omega
    have hl1 : l0 < 18446744073709551616 := by omega
    have hb0' := zH hb0
    have hl0' := zH hl0
    clear hb0 hl0
    obtain ⟨i, hi, hz0, hz1, hz2⟩ := info_parts info_u8
    have hix := run_index_arr (P := Tryz.prog) wr 34 5 32 _ i Tryz.underlying34 Tryz.underlying5 rfl hi hz1 (byts n) k _ hlt hbk
    go_wp2_with fail
    have hq0 : (0 : Int) ≤ (k : Int) / 8 := by omega
    have hq1 : (k : Int) / 8 < 4 := by omega
    have ew1 : IntKind.i64.wrap ((k : Int) / 8) = (k : Int) / 8 := i64_in zOm
    have et : ((k : Int) / 8).toNat = k / 8 := by omega
    have em : ((k : Int)).tmod 8 = (k : Int) % 8 := Int.tmod_eq_emod_of_nonneg zOm
    have eb : IntKind.u64.wrap (b0 : Int) = (b0 : Int) := by simp [IntKind.wrap, IntKind.bits, IntKind.signed]; omega
    have hs0 : (0 : Int) ≤ 8 * ((k : Int) % 8) := by omega
    have ew2 : IntKind.i64.wrap ((k : Int) % 8) = (k : Int) % 8 := i64_in zOm
    have ew3 : IntKind.i64.wrap (8 * ((k : Int) % 8)) = 8 * ((k : Int) % 8) := i64_in zOm
    go_still_tail 12, zKr
    change wpList _ _ _ _ _ wr.drew
    have hc2 : wr.drew.cell? ⟨w.heap.size + 1 + 1, k / 8, none⟩ = some (.int .u64 (l0 : Int)) := hc
    have hf2 : wr.drew.frozen? ⟨w.heap.size + 1 + 1, k / 8, none⟩ = false := hf
    go_wp2_with fail
    have hexp : (8 * ((k : Int) % 8)).toNat = 8 * (k % 8) := by omega
    try rw [hexp]
    rw [show (b0 : Int) * 2 ^ (8 * (k % 8)) = ((b0 * 2 ^ (8 * (k % 8)) : Nat) : Int) by simp, of_step hl0'.out hb0'.out]
    refine ⟨⟨k + 1, by omega, by go_num, ?_, (k2.other (by simp) _), (kb.setCell (by simp; omega) _).drew⟩, by simp [intOf]; omega⟩
    have := k3.set (k / 8) (.int .u64 ((n % 256 ^ (k + 1) / 18446744073709551616 ^ (k / 8) % 18446744073709551616 : Nat) : Int))
    rw [lims_set_of] at this
    exact this
  · obtain rfl : k = 32 := by omega
    rw [Nat.mod_eq_of_lt hn] at k3
    have hl := lims_len 4 n
    have hone : ∀ v ∈ lims 4 n, v.oneCell' = true := by
     intro v hv
     simp only [lims, List.mem_map] at hv
     obtain ⟨x, -, rfl⟩ := hv
     rfl
    go_wp2_with (first | (refine wpList_load_arr rfl 127 _ rfl (w.heap.size + 1 + 1) rfl _ Tryz.underlying127 rfl _ k3 (by rw [hl]; kernel_rfl) ?_) | (refine wpList_store_arr rfl 127 _ _ rfl (w.heap.size + 1) (lims 4 n) rfl rfl _ k2 (by rw [hl]; kernel_rfl) (by rw [hl, lims_len]) hone ?_))
    refine bodyPost_ret (v := .agg (lims 4 n).toArray) (results_arr Tryz.results120 _ _ (w.heap.size + 1) _ rfl Tryz.underlying127 rfl _ (k2.setRow _) (by rw [hl]; kernel_rfl)) rfl ⟨rfl, below_setRow kb zOm _⟩
theorem add64 (x y c : Nat) (hc : c ≤ 1) (w : World) :
 (callFunc 178 #[.int .u64 x, .int .u64 y, .int .u64 c]).run Tryz.prog w =
  .ok (.value (.tuple #[.int .u64 (((x + y + c) % 18446744073709551616 : Nat) : Int), .int .u64 (((x + y + c) / 18446744073709551616 : Nat) : Int)])) w := by
 rw [run_callFunc_extern Tryz.func178 zKr zKr zKr (e := add64Entry) zKr, run_add64 x y c zOm zOm zOm zOm]
 simp only [Result.andThen]
 congr 5 <;> omega
theorem sub64 (x y b : Nat) (hb : b ≤ 1) (w : World) :
 (callFunc 225 #[.int .u64 x, .int .u64 y, .int .u64 b]).run Tryz.prog w =
  .ok (.value (.tuple #[.int .u64 (((x + 18446744073709551616 - y - b) % 18446744073709551616 : Nat) : Int), .int .u64 ((if x < y + b then 1 else 0 : Nat) : Int)])) w := by
 rw [run_callFunc_extern Tryz.func225 zKr zKr zKr (e := sub64Entry) zKr, run_sub64 x y b hb]
 rfl
theorem limAdd_any (a b : Nat) (w : World) :
 Calls Tryz.prog 224 #[.agg (lims 4 a).toArray, .agg (lims 4 b).toArray] w fun e w' =>
  e = .returned (.tuple #[.agg (lims 4 (a + b)).toArray, .int .u64 (carry 18446744073709551616 4 a b : Nat)]) ∧ Below w.heap.size w w' := by
 go_enter Tryz.func224, Tryz.ntmps224
 go_upto_region 2 with fail
 refine wp_new4 (fun W hsz h1 h2 h3 h4 hb => ?_)
 go_wp2_with fail
 go_loopw [7, 9] (fun cv kv wr => ∃ k : Nat, k ≤ 4 ∧ kv = .int .i64 k ∧ cv = .int .u64 (carry 18446744073709551616 k a b : Nat) ∧ Arr wr w.heap.size (lims 4 a) ∧ Arr wr (w.heap.size + 1) (lims 4 b) ∧ Arr wr (w.heap.size + 1 + 1) (lims 4 0) ∧ Arr wr (w.heap.size + 1 + 1 + 1) (part k (lims 4 (a + b)) (.int .u64 0)) ∧ Below w.heap.size w wr) (fun _ kv _ => 4 - (intOf kv).toNat)
 case atStart => exact ⟨0, Nat.zero_le _, rfl, by rw [carry_zero]; rfl, h1, h2, h3, h4, hb⟩
 case round =>
  obtain ⟨k, hk, rfl, rfl, k1, k2, k3, k4, kb⟩ := hrel
  clear h1 h2 h3 h4 hb hsz
  have hcl := carry_le 18446744073709551616 k a b zDc
  by_cases hlt : k < 4
  · have ha := k1.cell (lims_get 4 a k hlt)
    have hbb := k2.cell (lims_get 4 b k hlt)
    obtain ⟨x, hx⟩ : ∃ x, a / 18446744073709551616 ^ k % 18446744073709551616 = x := ⟨_, rfl⟩
    obtain ⟨y, hy⟩ : ∃ y, b / 18446744073709551616 ^ k % 18446744073709551616 = y := ⟨_, rfl⟩
    obtain ⟨c, hc⟩ : ∃ c, carry 18446744073709551616 k a b = c := ⟨_, rfl⟩
    have hd := carry_digit 18446744073709551616 k a b zDc
    have hs := carry_step 18446744073709551616 k a b zDc
    rw [hx, hy, hc] at hd hs
    rw [hx] at ha
    rw [hy] at hbb
    rw [hc] at hcl ⊢
    have hx := zH hx
    have hy := zH hy
    clear hc
    have hd' := zH hd
    have hs' := zH hs
    clear hd hs
    obtain ⟨s, hs⟩ : ∃ s, (x + y + c) % 18446744073709551616 = s := ⟨_, rfl⟩
    obtain ⟨t, ht⟩ : ∃ t, (x + y + c) / 18446744073709551616 = t := ⟨_, rfl⟩
    have hadd := fun w => add64 x y c hcl w
    rw [hs, ht] at hadd
    have hadd := zH hadd
    have hsz := lims_len 4 (a + b)
    have hcell := k4.cell (j := k) (u := .int .u64 0) (by rw [part_get k k _ _ (by rw [hsz]; exact hlt), if_neg zOm])
    have hfr := k4.frozen k
    have hs2 := zH hs
    have ht2 := zH ht
    clear hs ht
    have hk0 : (0 : Int) ≤ (k : Int) := by omega
    have hk4 : (k : Int) < 4 := by omega
    go_wp2_with fail
    refine Txt.start ((fun w' => wr.grownBy w' (some (w.heap.size + 1 + 1 + 1)))) 15 rfl zKr ?_
    refine Txt.seg (A := ?_) 2 8191 zKr (by exact (grownBy_drew (World.grownBy.refl wr _))) [0, 1, 2, 3, 4, 5, 6, 7, 8, 9, 10, 11, 12] zKr ?_ ?_
    rotate_left
    · intro w' hB
      have e1 := (k1.kept hB zOm).cell (lims_get 4 a k hlt)
      have e2 := (k2.kept hB zOm).cell (lims_get 4 b k hlt)
      rw [hx.out] at e1
      rw [hy.out] at e2
      have e3 := hadd.out w'
      iterate 13 (first | (refine rd_skip rfl rfl ?_; simp only [Act.put, zSa, zSz, zSs]) | fail | (refine rd_take (v := ?_) rfl rfl ?_ ?_; rotate_left; (focus (go_simp; try (with_reducible rfl))); simp only [Act.put, zSa, zSz, zSs]))
      exact rd_nil
    have hcell2 : wr.drew.cell? ⟨w.heap.size + 1 + 1 + 1, k, none⟩ = some (.int .u64 0) := hcell
    have hfr2 : wr.drew.frozen? ⟨w.heap.size + 1 + 1 + 1, k, none⟩ = false := hfr
    refine Txt.eff 13 16383 rfl zDk (fun K hK => ?_)
    go_simp
    refine hK (fun w' => wr.grownBy w' (some (w.heap.size + 1 + 1 + 1))) _ _ (grownBy_drew (k4.grown _ _)) (fun _ h => h) ?_
    clear hK
    try simp only [Act.put, zSa, zSz, zSs]
    refine Txt.seg (A := ?_) 0 32767 zKr (by exact (grownBy_drew (k4.grown _ _))) [14] zKr ?_ ?_
    rotate_left
    · intro w' hB
      iterate 1 (first | (refine rd_skip rfl rfl ?_; simp only [Act.put, zSa, zSz, zSs]) | fail | (refine rd_take (v := ?_) rfl rfl ?_ ?_; rotate_left; (focus (go_simp; try (with_reducible rfl))); simp only [Act.put, zSa, zSz, zSs]))
      exact rd_nil
    refine Txt.done zKr ?_
    go_wp2_with fail
    have hst := k4.set k (.int .u64 (s : Int))
    rw [part_set (by rw [lims_get 4 (a + b) k hlt, hd'.out, hs2.out])] at hst
    exact ⟨⟨k + 1, by omega, by go_num, by rw [hs'.out, ht2.out], k1.other (by simp; omega) _, k2.other (by simp) _, k3.other (by simp) _, hst, (kb.setCell (by simp; omega) _).drew⟩, by simp [intOf]; omega⟩
  · obtain rfl : k = 4 := by omega
    have hl := lims_len 4 (a + b)
    have h5 : Arr wr (w.heap.size + 1 + 1 + 1) (lims 4 (a + b)) := by
     have e := part_all (lims 4 (a + b)) (.int .u64 0)
     rw [hl] at e
     rwa [e] at k4
    clear k4
    go_wp2_with (first | (refine wpList_load_arr rfl 127 _ rfl (w.heap.size + 1 + 1 + 1) rfl _ Tryz.underlying127 rfl _ h5 (by rw [hl]; kernel_rfl) ?_) | (refine wpList_store_arr rfl 127 _ _ rfl (w.heap.size + 1 + 1) (lims 4 (a + b)) rfl rfl _ k3 (by rw [hl]; kernel_rfl) (by rw [hl, lims_len]) (lims_one _ _) ?_))
    refine bodyPost_ret (results_arr_tmp Tryz.results224 _ _ (w.heap.size + 1 + 1) _ rfl Tryz.underlying127 rfl _ (k3.setRow _) (by rw [hl]; kernel_rfl) _ rfl) rfl ⟨rfl, below_setRow kb zOm _⟩
theorem limSub_any (a b : Nat) (hab : b ≤ a + 18446744073709551616 ^ 4) (w : World) :
 Calls Tryz.prog 184 #[.agg (lims 4 a).toArray, .agg (lims 4 b).toArray] w fun e w' =>
  e = .returned (.tuple #[.agg (lims 4 (a + 18446744073709551616 ^ 4 - b)).toArray, .int .u64 (borrow 18446744073709551616 4 a b : Nat)]) ∧ Below w.heap.size w w' := by
 go_enter Tryz.func184, Tryz.ntmps184
 go_upto_region 2 with fail
 refine wp_new4 (fun W hsz h1 h2 h3 h4 hb => ?_)
 go_wp2_with fail
 go_loopw [7, 9] (fun cv kv wr => ∃ k : Nat, k ≤ 4 ∧ kv = .int .i64 k ∧ cv = .int .u64 (borrow 18446744073709551616 k a b : Nat) ∧ Arr wr w.heap.size (lims 4 a) ∧ Arr wr (w.heap.size + 1) (lims 4 b) ∧ Arr wr (w.heap.size + 1 + 1) (lims 4 0) ∧ Arr wr (w.heap.size + 1 + 1 + 1) (part k (lims 4 (a + 18446744073709551616 ^ 4 - b)) (.int .u64 0)) ∧ Below w.heap.size w wr) (fun _ kv _ => 4 - (intOf kv).toNat)
 case atStart => exact ⟨0, Nat.zero_le _, rfl, by rw [borrow_zero]; rfl, h1, h2, h3, h4, hb⟩
 case round =>
  obtain ⟨k, hk, rfl, rfl, k1, k2, k3, k4, kb⟩ := hrel
  clear h1 h2 h3 h4 hb hsz
  have hcl := borrow_le 18446744073709551616 k a b
  by_cases hlt : k < 4
  · have ha := k1.cell (lims_get 4 a k hlt)
    have hbb := k2.cell (lims_get 4 b k hlt)
    obtain ⟨x, hx⟩ : ∃ x, a / 18446744073709551616 ^ k % 18446744073709551616 = x := ⟨_, rfl⟩
    obtain ⟨y, hy⟩ : ∃ y, b / 18446744073709551616 ^ k % 18446744073709551616 = y := ⟨_, rfl⟩
    obtain ⟨c, hc⟩ : ∃ c, borrow 18446744073709551616 k a b = c := ⟨_, rfl⟩
    have hd := borrow_digit 18446744073709551616 k 4 a b zDc hlt hab
    have hs := borrow_step 18446744073709551616 k a b zDc
    rw [hx, hy, hc] at hd hs
    rw [hx] at ha
    rw [hy] at hbb
    rw [hc] at hcl ⊢
    have hx := zH hx
    have hy := zH hy
    clear hc
    have hd' := zH hd
    have hs' := zH hs
    clear hd hs
    obtain ⟨s, hs⟩ : ∃ s, (x + 18446744073709551616 - y - c) % 18446744073709551616 = s := ⟨_, rfl⟩
    obtain ⟨t, ht⟩ : ∃ t, (if x < y + c then 1 else 0) = t := ⟨_, rfl⟩
    have hadd := fun w => sub64 x y c hcl w
    rw [hs, ht] at hadd
    have hadd := zH hadd
    have hsz := lims_len 4 (a + 18446744073709551616 ^ 4 - b)
    have hcell := k4.cell (j := k) (u := .int .u64 0) (by rw [part_get k k _ _ (by rw [hsz]; exact hlt), if_neg zOm])
    have hfr := k4.frozen k
    have hs2 := zH hs
    have ht2 := zH ht
    clear hs ht
    have hk0 : (0 : Int) ≤ (k : Int) := by omega
    have hk4 : (k : Int) < 4 := by omega
    go_wp2_with fail
    refine Txt.start ((fun w' => wr.grownBy w' (some (w.heap.size + 1 + 1 + 1)))) 15 rfl zKr ?_
    refine Txt.seg (A := ?_) 2 8191 zKr (by exact (grownBy_drew (World.grownBy.refl wr _))) [0, 1, 2, 3, 4, 5, 6, 7, 8, 9, 10, 11, 12] zKr ?_ ?_
    rotate_left
    · intro w' hB
      have e1 := (k1.kept hB zOm).cell (lims_get 4 a k hlt)
      have e2 := (k2.kept hB zOm).cell (lims_get 4 b k hlt)
      rw [hx.out] at e1
      rw [hy.out] at e2
      have e3 := hadd.out w'
      iterate 13 (first | (refine rd_skip rfl rfl ?_; simp only [Act.put, zSa, zSz, zSs]) | fail | (refine rd_take (v := ?_) rfl rfl ?_ ?_; rotate_left; (focus (go_simp; try (with_reducible rfl))); simp only [Act.put, zSa, zSz, zSs]))
      exact rd_nil
    have hcell2 : wr.drew.cell? ⟨w.heap.size + 1 + 1 + 1, k, none⟩ = some (.int .u64 0) := hcell
    have hfr2 : wr.drew.frozen? ⟨w.heap.size + 1 + 1 + 1, k, none⟩ = false := hfr
    refine Txt.eff 13 16383 rfl zDk (fun K hK => ?_)
    go_simp
    refine hK (fun w' => wr.grownBy w' (some (w.heap.size + 1 + 1 + 1))) _ _ (grownBy_drew (k4.grown _ _)) (fun _ h => h) ?_
    clear hK
    try simp only [Act.put, zSa, zSz, zSs]
    refine Txt.seg (A := ?_) 0 32767 zKr (by exact (grownBy_drew (k4.grown _ _))) [14] zKr ?_ ?_
    rotate_left
    · intro w' hB
      iterate 1 (first | (refine rd_skip rfl rfl ?_; simp only [Act.put, zSa, zSz, zSs]) | fail | (refine rd_take (v := ?_) rfl rfl ?_ ?_; rotate_left; (focus (go_simp; try (with_reducible rfl))); simp only [Act.put, zSa, zSz, zSs]))
      exact rd_nil
    refine Txt.done zKr ?_
    go_wp2_with fail
    have hst := k4.set k (.int .u64 (s : Int))
    rw [part_set (by rw [lims_get 4 (a + 18446744073709551616 ^ 4 - b) k hlt, hd'.out, hs2.out])] at hst
    exact ⟨⟨k + 1, by omega, by go_num, by rw [hs'.out, ht2.out], k1.other (by simp; omega) _, k2.other (by simp) _, k3.other (by simp) _, hst, (kb.setCell (by simp; omega) _).drew⟩, by simp [intOf]; omega⟩
  · obtain rfl : k = 4 := by omega
    clear hab
    have hl := lims_len 4 (a + 18446744073709551616 ^ 4 - b)
    have h5 : Arr wr (w.heap.size + 1 + 1 + 1) (lims 4 (a + 18446744073709551616 ^ 4 - b)) := by
     have e := part_all (lims 4 (a + 18446744073709551616 ^ 4 - b)) (.int .u64 0)
     rw [hl] at e
     rwa [e] at k4
    clear k4
    go_wp2_with (first | (refine wpList_load_arr rfl 127 _ rfl (w.heap.size + 1 + 1 + 1) rfl _ Tryz.underlying127 rfl _ h5 (by rw [hl]; kernel_rfl) ?_) | (refine wpList_store_arr rfl 127 _ _ rfl (w.heap.size + 1 + 1) (lims 4 (a + 18446744073709551616 ^ 4 - b)) rfl rfl _ k3 (by rw [hl]; kernel_rfl) (by rw [hl, lims_len]) (lims_one _ _) ?_))
    refine bodyPost_ret (results_arr_tmp Tryz.results184 _ _ (w.heap.size + 1 + 1) _ rfl Tryz.underlying127 rfl _ (k3.setRow _) (by rw [hl]; kernel_rfl) _ rfl) rfl ⟨rfl, below_setRow kb zOm _⟩
theorem borrow_all {a b : Nat} (ha : a < 18446744073709551616 ^ 4) (hb : b < 18446744073709551616 ^ 4) : borrow 18446744073709551616 4 a b = if a < b then 1 else 0 := by
 unfold borrow
 rw [Nat.mod_eq_of_lt ha, Nat.mod_eq_of_lt hb]
open Go.RowKit Go.Lib
namespace M64
theorem maskN (a : Nat) (ha : a < 18446744073709551616) : bits .and .u64 (a : Int) 4294967295 = ((a % 4294967296 : Nat) : Int) := by
 have h := bits_and_u64_nat a 4294967295 ha zOm
 have e : a &&& 4294967295 = a % 4294967296 := Nat.and_two_pow_sub_one_eq_mod a 32
 rw [e] at h
 exact h
theorem divN (a : Nat) : (a : Int) / 4294967296 = ((a / 4294967296 : Nat) : Int) := by omega
theorem mulN (a b : Nat) : (a : Int) * (b : Int) = ((a * b : Nat) : Int) := (Int.natCast_mul a b).symm
theorem addN (a b : Nat) : (a : Int) + (b : Int) = ((a + b : Nat) : Int) := (Int.natCast_add a b).symm
theorem wrapN (a : Nat) (ha : a < 18446744073709551616) : IntKind.u64.wrap (a : Int) = (a : Int) := by rw [IntKind.wrap_u64]; omega
theorem wrapM (a : Nat) : IntKind.u64.wrap (a : Int) = ((a % 18446744073709551616 : Nat) : Int) := by rw [IntKind.wrap_u64]; omega
end M64
theorem mul64 (x y : Nat) (hx : x < 18446744073709551616) (hy : y < 18446744073709551616) (w : World) :
 Calls Tryz.prog 174 #[.int .u64 x, .int .u64 y] w fun e w' => e = .returned (.tuple #[.int .u64 ((x * y / 18446744073709551616 : Nat) : Int), .int .u64 ((x * y % 18446744073709551616 : Nat) : Int)]) ∧ w' = w := by
 obtain ⟨bd, bt, bw, hhi⟩ := Lib.mul64_hi x y hx hy
 have ba := Lib.half_mul_le (a := x / 4294967296) (b := y / 4294967296) zOm zOm
 have bb := Lib.half_mul_le (a := x / 4294967296) (b := y % 4294967296) zOm zOm
 have bc := Lib.half_mul_le (a := x % 4294967296) (b := y / 4294967296) zOm zOm
 have ba' : x / 4294967296 * (y / 4294967296) < 18446744073709551616 := by omega
 have bb' : x / 4294967296 * (y % 4294967296) < 18446744073709551616 := by omega
 have bc' : x % 4294967296 * (y / 4294967296) < 18446744073709551616 := by omega
 have bh1 : x / 4294967296 * (y / 4294967296) + (x / 4294967296 * (y % 4294967296) + x % 4294967296 * (y % 4294967296) / 4294967296) / 4294967296 < 18446744073709551616 := by omega
 have bh : x / 4294967296 * (y / 4294967296) + (x / 4294967296 * (y % 4294967296) + x % 4294967296 * (y % 4294967296) / 4294967296) / 4294967296 + ((x / 4294967296 * (y % 4294967296) + x % 4294967296 * (y % 4294967296) / 4294967296) % 4294967296 + x % 4294967296 * (y / 4294967296)) / 4294967296 < 18446744073709551616 := by omega
 go_enter Tryz.func174, Tryz.ntmps174
 go_wp2
 simp only [M64.maskN x hx, M64.maskN y hy, M64.divN, M64.mulN, M64.addN, M64.wrapN _ bd, M64.wrapN _ bb', M64.wrapN _ bt, M64.maskN _ bt, M64.wrapN _ bc', M64.wrapN _ bw, M64.wrapN _ ba', M64.wrapN _ bh1, M64.wrapN _ bh, M64.wrapM (x * y)]
 rw [hhi]
 go_ret2
 exact ⟨rfl, rfl⟩
theorem add64z (x y : Nat) (w : World) :
 (callFunc 178 #[.int .u64 x, .int .u64 y, .int .u64 0]).run Tryz.prog w =
  .ok (.value (.tuple #[.int .u64 (((x + y) % 18446744073709551616 : Nat) : Int), .int .u64 (((x + y) / 18446744073709551616 : Nat) : Int)])) w :=
 add64 x y 0 zDc w
def us (ds : List Nat) : List Value := ds.map fun (x : Nat) => .int .u64 (x : Int)
theorem lims_us (k n : Nat) : lims k n = us (digs 18446744073709551616 k n) := rfl
theorem us_len (ds : List Nat) : (us ds).length = ds.length := by simp [us]
theorem us_get (ds : List Nat) (j x : Nat) (h : ds[j]? = some x) : (us ds)[j]? = some (.int .u64 (x : Int)) := by simp [us, h]
theorem us_set (ds : List Nat) (j x : Nat) : (us ds).set j (.int .u64 (x : Int)) = us (ds.set j x) := by simp [us, List.map_set]
theorem us_one (ds : List Nat) : ∀ v ∈ us ds, v.oneCell' = true := by
 intro v hv
 simp only [us, List.mem_map] at hv
 obtain ⟨x, -, rfl⟩ := hv
 rfl
def val (b : Nat) : List Nat → Nat
 | [] => 0
 | d :: ds => d + b * val b ds
theorem val_zeros (b k : Nat) : val b (List.replicate k 0) = 0 := by
 induction k with
 | zero => rfl
 | succ k ih => rw [List.replicate_succ, val, ih, Nat.mul_zero]
theorem val_set (b : Nat) : ∀ (ds : List Nat) (j d x : Nat), ds[j]? = some d → val b (ds.set j x) + b ^ j * d = val b ds + b ^ j * x
 | [], j, d, x, h => by simp at h
 | e :: ds, 0, d, x, h => by
  simp only [List.getElem?_cons_zero, Option.some.injEq] at h
  subst h
  simp only [List.set_cons_zero, val, Nat.pow_zero]; omega
 | e :: ds, j + 1, d, x, h => by
  simp only [List.getElem?_cons_succ] at h
  have := val_set b ds j d x h
  have h2 := congrArg (b * ·) this
  simp only [Nat.mul_add, ← Nat.mul_assoc] at h2
  simp only [List.set_cons_succ, val, Nat.pow_succ, Nat.mul_comm (b ^ j) b]
  omega
theorem val_digs (b k n : Nat) : val b (digs b k n) = n % b ^ k := by
 induction k generalizing n with
 | zero => simp [digs, val, Nat.mod_one]
 | succ k ih =>
  have e : digs b (k + 1) n = n % b :: digs b k (n / b) := by
   simp only [digs, List.range_succ_eq_map, List.map_cons, List.map_map, Nat.pow_zero, Nat.div_one]
   congr 1
   apply List.map_congr_left
   intro i _
   simp only [Function.comp_apply, Nat.pow_succ, Nat.mul_comm (b ^ i) b, Nat.div_div_eq_div_mul]
  rw [e, val, ih, Nat.pow_succ, Nat.mul_comm (b ^ k) b, Nat.mod_mul]
theorem digs_val (b : Nat) (hb : 0 < b) : ∀ (ds : List Nat), (∀ d ∈ ds, d < b) → digs b ds.length (val b ds) = ds
 | [], _ => rfl
 | d :: ds, h => by
  have hd := h d (by simp)
  have ih := digs_val b hb ds (fun x hx => h x (by simp [hx]))
  have e : digs b (ds.length + 1) (d + b * val b ds) = (d + b * val b ds) % b :: digs b ds.length ((d + b * val b ds) / b) := by
   simp only [digs, List.range_succ_eq_map, List.map_cons, List.map_map, Nat.pow_zero, Nat.div_one]
   congr 1
   apply List.map_congr_left
   intro i _
   simp only [Function.comp_apply, Nat.pow_succ, Nat.mul_comm (b ^ i) b, Nat.div_div_eq_div_mul]
  rw [List.length_cons, val, e, Nat.add_mul_mod_self_left, Nat.mod_eq_of_lt hd, Nat.add_mul_div_left _ _ hb, Nat.div_eq_of_lt hd, Nat.zero_add, ih]
theorem digs_lt (b k n : Nat) (hb : 0 < b) : ∀ d ∈ digs b k n, d < b := by
 intro d hd
 simp only [digs, List.mem_map] at hd
 obtain ⟨i, -, rfl⟩ := hd
 exact Nat.mod_lt _ hb
theorem val_lt (b : Nat) (hb : 0 < b) : ∀ (ds : List Nat), (∀ d ∈ ds, d < b) → val b ds < b ^ ds.length
 | [], _ => by simp [val]
 | d :: ds, h => by
  have hd := h d (by simp)
  have ih := val_lt b hb ds (fun x hx => h x (by simp [hx]))
  have := Nat.mul_le_mul_left b ih
  rw [Nat.mul_succ] at this
  rw [val, List.length_cons, Nat.pow_succ, Nat.mul_comm (b ^ ds.length) b]
  omega
theorem set_lt {b : Nat} {ds : List Nat} (h : ∀ d ∈ ds, d < b) {j x : Nat} (hx : x < b) : ∀ d ∈ ds.set j x, d < b := by
 intro d hd
 rcases List.mem_or_eq_of_mem_set hd with h1 | h1
 · exact h d h1
 · rw [h1]; exact hx
theorem limMul_any (a b : Nat) (hb : b < 18446744073709551616 ^ 4) (w : World) :
 Calls Tryz.prog 177 #[.agg (lims 4 a).toArray, .agg (lims 4 b).toArray] w fun e w' =>
  e = .returned (.agg (lims 8 (a % 18446744073709551616 ^ 4 * b)).toArray) ∧ Below w.heap.size w w' := by
 go_enter Tryz.func177, Tryz.ntmps177
 go_upto_region 2 with fail
 refine wp_new4 (fun W hsz h1 h2 h3 h4 hb0 => ?_)
 go_wp2_with fail
 go_loopw [12] (fun kv wr => ∃ (k : Nat) (ds : List Nat), k ≤ 4 ∧ kv = .int .i64 k ∧ Arr wr w.heap.size (lims 4 a) ∧ Arr wr (w.heap.size + 1) (lims 4 b) ∧ Arr wr (w.heap.size + 1 + 1) (List.replicate 8 (.int .u64 0)) ∧ Arr wr (w.heap.size + 1 + 1 + 1) (us ds) ∧ Below w.heap.size w wr ∧
  ds.length = 8 ∧ (∀ d ∈ ds, d < 18446744073709551616) ∧ val 18446744073709551616 ds = a % 18446744073709551616 ^ k * b ∧ (∀ p, k + 4 ≤ p → p < 8 → ds[p]? = some 0)) (fun kv _ => 4 - (intOf kv).toNat)
 case atStart => exact ⟨0, List.replicate 8 0, Nat.zero_le _, rfl, h1, h2, h3, h4, hb0, rfl, by simp, by rw [val_zeros, Nat.pow_zero, Nat.mod_one, Nat.zero_mul], fun p h0 hp => by rw [List.getElem?_replicate, if_pos hp]⟩
 case round =>
  obtain ⟨k, ds, hk, rfl, k1, k2, k3, k4, kb, hlen, hlt, hval, hz⟩ := hrel
  clear h1 h2 h3 h4 hb0 hsz
  by_cases hlt4 : k < 4
  · have hdk : decide ((k : Int) < 4) = true := by simp; omega
    obtain ⟨x, hx⟩ : ∃ x, a / 18446744073709551616 ^ k % 18446744073709551616 = x := ⟨_, rfl⟩
    have hxl : x < 18446744073709551616 := by rw [← hx]; exact Nat.mod_lt _ zDc
    have hx' := zH hx
    have hval' := zH hval
    have hz' := zH hz
    have hlen' := zH hlen
    have hlt' := zH hlt
    clear hval hz hlen hlt
    go_wp2_with fail
    go_loopw [7, 15] (fun cv jv wr => ∃ (j c : Nat) (es : List Nat), j ≤ 4 ∧ c < 18446744073709551616 ∧ cv = .int .u64 (c : Int) ∧ jv = .int .i64 j ∧ Arr wr w.heap.size (lims 4 a) ∧ Arr wr (w.heap.size + 1) (lims 4 b) ∧ Arr wr (w.heap.size + 1 + 1) (List.replicate 8 (.int .u64 0)) ∧ Arr wr (w.heap.size + 1 + 1 + 1) (us es) ∧ Below w.heap.size w wr ∧
     es.length = 8 ∧ (∀ d ∈ es, d < 18446744073709551616) ∧ val 18446744073709551616 es + 18446744073709551616 ^ (k + j) * c = a % 18446744073709551616 ^ k * b + 18446744073709551616 ^ k * (x * (b % 18446744073709551616 ^ j)) ∧ (∀ p, k + 4 ≤ p → p < 8 → es[p]? = some 0)) (fun _ jv _ => 4 - (intOf jv).toNat)
    case atStart => exact ⟨0, 0, ds, Nat.zero_le _, by decide, rfl, rfl, k1, k2, k3, k4, kb, hlen'.out, hlt'.out, by rw [hval'.out, Nat.pow_zero, Nat.mod_one, Nat.mul_zero, Nat.mul_zero, Nat.mul_zero], hz'.out⟩
    case round =>
     obtain ⟨j, c, es, hj, hc, rfl, rfl, j1, j2, j3, j4, jb, jlen, jlt, jval, jz⟩ := hrel
     clear k1 k2 k3 k4 kb hlen' hlt' hval' hz'
     by_cases hj4 : j < 4
     · obtain ⟨y, hy⟩ : ∃ y, b / 18446744073709551616 ^ j % 18446744073709551616 = y := ⟨_, rfl⟩
       have hyl : y < 18446744073709551616 := by rw [← hy]; exact Nat.mod_lt _ zDc
       have ha := j1.cell (lims_get 4 a k hlt4)
       have hbb := j2.cell (lims_get 4 b j hj4)
       rw [hx] at ha
       rw [hy] at hbb
       obtain ⟨d, hd⟩ : ∃ d, es[k + j]? = some d := ⟨_, List.getElem?_eq_getElem zOm⟩
       have hdl : d < 18446744073709551616 := jlt d (List.mem_of_getElem? hd)
       have hdc := j4.cell (us_get es (k + j) d hd)
       have hfr := j4.frozen (k + j)
       have hy' := zH hy
       have hd' := zH hd
       have jlen' := zH jlen
       have jlt' := zH jlt
       have jval' := zH jval
       have jz' := zH jz
       clear hx hy hd jlen jlt jval jz
       obtain ⟨p0, hp0⟩ : ∃ p, x * y % 18446744073709551616 = p := ⟨_, rfl⟩
       obtain ⟨p1, hp1⟩ : ∃ p, x * y / 18446744073709551616 = p := ⟨_, rfl⟩
       obtain ⟨s1, hs1⟩ : ∃ p, (p0 + d) % 18446744073709551616 = p := ⟨_, rfl⟩
       obtain ⟨t1, ht1⟩ : ∃ p, (p0 + d) / 18446744073709551616 = p := ⟨_, rfl⟩
       obtain ⟨s2, hs2⟩ : ∃ p, (s1 + c) % 18446744073709551616 = p := ⟨_, rfl⟩
       obtain ⟨t2, ht2⟩ : ∃ p, (s1 + c) / 18446744073709551616 = p := ⟨_, rfl⟩
       have hxy : x * y ≤ 18446744073709551615 * 18446744073709551615 := Nat.mul_le_mul zOm zOm
       have hm := fun w => mul64 x y hxl hyl w
       rw [hp0, hp1] at hm
       have a1 := fun w => add64z p0 d w
       rw [hs1, ht1] at a1
       have a2 := fun w => add64z s1 c w
       rw [hs2, ht2] at a2
       have hm := zH hm
       have a1 := zH a1
       have a2 := zH a2
       have q0 : p0 < 18446744073709551616 := by omega
       have q1 : p1 + t1 + t2 < 18446744073709551616 := by omega
       have hst : s2 + 18446744073709551616 * (p1 + t1 + t2) = x * y + d + c := by omega
       have hs2l : s2 < 18446744073709551616 := by omega
       have hst := zH hst
       clear hp0 hp1 hs1 ht1 hs2 ht2 hxy
       have ik0 : (0 : Int) ≤ (k : Int) := by omega
       have ik4 : (k : Int) < 4 := by omega
       have ij0 : (0 : Int) ≤ (j : Int) := by omega
       have ij4 : (j : Int) < 4 := by omega
       go_upto_region 9 with fail
       refine Txt.start ((fun w' => w' = wr.drew)) 12 rfl zKr ?_
       refine Txt.seg (A := ?_) 6 63 zKr (by exact rfl) [0, 1, 2, 3, 4, 5] zKr ?_ ?_
       rotate_left
       · intro w' hB
         subst hB
         iterate 6 (first | (refine rd_skip rfl rfl ?_; simp only [Act.put, zSa, zSz, zSs]) | fail | (refine rd_take (v := ?_) rfl rfl ?_ ?_; rotate_left; (focus (go_simp; try (with_reducible rfl))); simp only [Act.put, zSa, zSz, zSs]))
         exact rd_nil
       refine Txt.eff 6 127 rfl zDk (fun K hK => ?_)
       go_simp
       refine (hm.out _).mono ?_
       rintro e w1 ⟨rfl, rfl⟩
       refine hK (fun w' => w' = wr.drew) _ _ rfl (fun _ h => h) ?_
       clear hK
       try simp only [Act.put, zSa, zSz, zSs]
       refine Txt.seg (A := ?_) 0 4095 zKr (by exact rfl) [7, 8, 9, 10, 11] zKr ?_ ?_
       rotate_left
       · intro w' hB
         subst hB
         iterate 5 (first | (refine rd_skip rfl rfl ?_; simp only [Act.put, zSa, zSz, zSs]) | fail | (refine rd_take (v := ?_) rfl rfl ?_ ?_; rotate_left; (focus (go_simp; try (with_reducible rfl))); simp only [Act.put, zSa, zSz, zSs]))
         exact rd_nil
       refine Txt.done zKr ?_
       go_wp2_with (simp only [a1.out, a2.out])
       go_roundw
       case rel =>
        refine ⟨j + 1, p1 + t1 + t2, es.set (k + j) s2, by omega, q1, by go_num, by go_num, j1.other (by simp; omega) _, j2.other (by simp) _, j3.other (by simp) _, ?_, (jb.drew).setCell (by simp; omega) _, by rw [List.length_set]; exact jlen'.out, set_lt jlt'.out hs2l, ?_, ?_⟩
        · have := j4.set (k + j) (.int .u64 (s2 : Int))
          rw [us_set] at this
          exact this
        · have h1 := val_set 18446744073709551616 es (k + j) d s2 hd'.out
          have h2 := jval'.out
          have h3 := hst.out
          have h4 := mod_pow_succ' 18446744073709551616 j b
          rw [hy'.out] at h4
          rw [h4, ← Nat.add_assoc, Nat.pow_succ]
          rw [Nat.pow_add] at h1 h2 ⊢
          clear h4 hm a1 a2 jlen' jlt' jval' jz' hst hd' hy' j1 j2 j3 j4 jb ha hbb hdc hfr
          generalize val 18446744073709551616 (es.set (k + j) s2) = V' at *
          generalize val 18446744073709551616 es = V at *
          generalize 18446744073709551616 ^ j = J at *
          generalize a % 18446744073709551616 ^ k * b = A at *
          generalize 18446744073709551616 ^ k = K at *
          generalize b % J = m at *
          generalize p1 + t1 + t2 = t at *
          have h5 := congrArg (K * J * ·) h3
          simp only [Nat.mul_add] at h5 ⊢
          have e1 : K * J * 18446744073709551616 * t = K * J * (18446744073709551616 * t) := by rw [Nat.mul_assoc (K * J)]
          have e2 : K * (x * (J * y)) = K * J * (x * y) := by rw [Nat.mul_assoc K J, Nat.mul_left_comm x J y]
          omega
        · intro p h1 h2
          rw [List.getElem?_set_ne zOm]
          exact jz'.out p h1 h2
       case measure => simp [intOf]; omega
     · obtain rfl : j = 4 := by omega
       have hjf : decide ((4 : Int) < 4) = false := by decide
       have hcd := jz (k + 4) zOm zOm
       have hd0 := j4.cell (us_get es (k + 4) 0 hcd)
       have hfr := j4.frozen (k + 4)
       have jlen' := zH jlen
       have jlt' := zH jlt
       have jval' := zH jval
       have jz' := zH jz
       have hcd' := zH hcd
       clear hx jlen jlt jval jz hcd
       go_wp2_with fail
       go_roundw
       case rel =>
        refine ⟨k + 1, es.set (k + 4) c, by omega, by go_num, j1.other (by simp; omega) _, j2.other (by simp) _, j3.other (by simp) _, ?_, jb.setCell (by simp; omega) _, by rw [List.length_set]; exact jlen'.out, set_lt jlt'.out hc, ?_, ?_⟩
        · have := j4.set (k + 4) (.int .u64 (c : Int))
          rw [us_set] at this
          exact this
        · have h1 := val_set 18446744073709551616 es (k + 4) 0 c hcd'.out
          have h2 := jval'.out
          have h4 := mod_pow_succ' 18446744073709551616 k a
          rw [hx'.out] at h4
          rw [Nat.mod_eq_of_lt hb] at h2
          rw [h4, Nat.add_mul, Nat.mul_assoc]
          omega
        · intro p h1 h2
          rw [List.getElem?_set_ne zOm]
          exact jz'.out p zOm h2
       case measure => simp [intOf]; omega
  · obtain rfl : k = 4 := by omega
    have e : us ds = lims 8 (a % 18446744073709551616 ^ 4 * b) := by
     have := digs_val 18446744073709551616 zDc ds hlt
     rw [hlen, hval] at this
     rw [lims_us, this]
    rw [e] at k4
    clear hb hz hval hlt hlen e
    go_wp2_with (first | (refine wpList_load_arr rfl 239 _ rfl (w.heap.size + 1 + 1 + 1) rfl _ Tryz.underlying239 rfl _ k4 (by rw [lims_len]; kernel_rfl) ?_) | (refine wpList_store_arr rfl 239 _ _ rfl (w.heap.size + 1 + 1) (lims 8 (a % 18446744073709551616 ^ 4 * b)) rfl rfl _ k3 (by rw [lims_len]; kernel_rfl) (by rw [lims_len]; rfl) (lims_one _ _) ?_))
    refine bodyPost_ret (v := .agg (lims 8 (a % 18446744073709551616 ^ 4 * b)).toArray) (results_arr Tryz.results177 _ _ (w.heap.size + 1 + 1) _ rfl Tryz.underlying239 rfl _ (k3.setRow _) (by rw [lims_len]; kernel_rfl)) rfl ⟨rfl, below_setRow kb zOm _⟩
end Go.Proofs.YtibdgkhkhmdihaaGreatDoor
