/- TopSigned: part 24 of its proof: lemmas and contracts, each with its conditions in its own statement; the last part holds the law itself. -/
import Derived.Test.YtncnlfpiondpnaaGreatJt12
import Derived.WalkSpells
import Derived.WalkKit
import Derived.Deep.CutRange
import Derived.Deep.CutBlock
import Derived.RegionTactic
import Derived.ScopeJumps
import Derived.WalkLawsBesides
import Derived.StillTailTactics
import Derived.ProofKit
import Derived.Test.YtncnlfpiondpnaaGreatJt15

set_option maxHeartbeats 4000000
set_option maxRecDepth 100000
namespace Go.Proofs.YtncnlfpiondpnaaGreat
open Go.RowKit
theorem gr_drewN {w w' : World} {g : Nat} (h : w.grownBy w' (some g)) {w2 : World} (hb : Below w'.heap.size w' w2) : w.grownBy w2 (some g) := gr_trans h (gr_below hb)
theorem rotl_16 {x : Nat} (hx : x < 4294967296) (w : World) :
 Calls Tryz.prog 163 #[.int .u32 (x : Int), .int .i64 16] w fun e w' => e = .returned (.int .u32 ((rl x 16 : Nat) : Int)) ∧ Below w.heap.size w w' := by
 have h0 : bits .and .u64 16 31 = 16 := by decide
 have h2 : bits .or .u32 ((x : Int) * 65536 % 4294967296) ((x : Int) / 65536) = ((rl x 16 : Nat) : Int) := by
  have := or_u32 (a := x * 65536 % 4294967296) (b := x / 65536) (Nat.mod_lt _ zDc) (Nat.lt_of_le_of_lt (Nat.div_le_self _ _) hx)
  rw [show ((x : Int) * 65536 % 4294967296) = ((x * 65536 % 4294967296 : Nat) : Int) by omega, show ((x : Int) / 65536) = ((x / 65536 : Nat) : Int) by omega]
  exact this
 go_enter Tryz.func163, Tryz.ntmps163
 go_wp2_with fail
 go_ret
 exact ⟨rfl, Below.refl _ _⟩
theorem rotl_12 {x : Nat} (hx : x < 4294967296) (w : World) :
 Calls Tryz.prog 163 #[.int .u32 (x : Int), .int .i64 12] w fun e w' => e = .returned (.int .u32 ((rl x 12 : Nat) : Int)) ∧ Below w.heap.size w w' := by
 have h0 : bits .and .u64 12 31 = 12 := by decide
 have h2 : bits .or .u32 ((x : Int) * 4096 % 4294967296) ((x : Int) / 1048576) = ((rl x 12 : Nat) : Int) := by
  have := or_u32 (a := x * 4096 % 4294967296) (b := x / 1048576) (Nat.mod_lt _ zDc) (Nat.lt_of_le_of_lt (Nat.div_le_self _ _) hx)
  rw [show ((x : Int) * 4096 % 4294967296) = ((x * 4096 % 4294967296 : Nat) : Int) by omega, show ((x : Int) / 1048576) = ((x / 1048576 : Nat) : Int) by omega]
  exact this
 go_enter Tryz.func163, Tryz.ntmps163
 go_wp2_with fail
 go_ret
 exact ⟨rfl, Below.refl _ _⟩
theorem rotl_8 {x : Nat} (hx : x < 4294967296) (w : World) :
 Calls Tryz.prog 163 #[.int .u32 (x : Int), .int .i64 8] w fun e w' => e = .returned (.int .u32 ((rl x 8 : Nat) : Int)) ∧ Below w.heap.size w w' := by
 have h0 : bits .and .u64 8 31 = 8 := by decide
 have h2 : bits .or .u32 ((x : Int) * 256 % 4294967296) ((x : Int) / 16777216) = ((rl x 8 : Nat) : Int) := by
  have := or_u32 (a := x * 256 % 4294967296) (b := x / 16777216) (Nat.mod_lt _ zDc) (Nat.lt_of_le_of_lt (Nat.div_le_self _ _) hx)
  rw [show ((x : Int) * 256 % 4294967296) = ((x * 256 % 4294967296 : Nat) : Int) by omega, show ((x : Int) / 16777216) = ((x / 16777216 : Nat) : Int) by omega]
  exact this
 go_enter Tryz.func163, Tryz.ntmps163
 go_wp2_with fail
 go_ret
 exact ⟨rfl, Below.refl _ _⟩
theorem rotl_7 {x : Nat} (hx : x < 4294967296) (w : World) :
 Calls Tryz.prog 163 #[.int .u32 (x : Int), .int .i64 7] w fun e w' => e = .returned (.int .u32 ((rl x 7 : Nat) : Int)) ∧ Below w.heap.size w w' := by
 have h0 : bits .and .u64 7 31 = 7 := by decide
 have h2 : bits .or .u32 ((x : Int) * 128 % 4294967296) ((x : Int) / 33554432) = ((rl x 7 : Nat) : Int) := by
  have := or_u32 (a := x * 128 % 4294967296) (b := x / 33554432) (Nat.mod_lt _ zDc) (Nat.lt_of_le_of_lt (Nat.div_le_self _ _) hx)
  rw [show ((x : Int) * 128 % 4294967296) = ((x * 128 % 4294967296 : Nat) : Int) by omega, show ((x : Int) / 33554432) = ((x / 33554432 : Nat) : Int) by omega]
  exact this
 go_enter Tryz.func163, Tryz.ntmps163
 go_wp2_with fail
 go_ret
 exact ⟨rfl, Below.refl _ _⟩
theorem quarter_any {g : Nat} {l0 : List Nat} {a b c d : Nat} (w : World) (hlen0 : l0.length = 16) (h320 : W32 l0) (ha : a < 16) (hb : b < 16) (hc : c < 16) (hd : d < 16) (k0 : Arr w g (ws l0)) :
 Calls Tryz.prog 197 #[.pointer (some ⟨g, 0, none⟩), .int .i64 a, .int .i64 b, .int .i64 c, .int .i64 d] w fun e w' => e = .returned (.tuple #[]) ∧ Arr w' g (ws (qr l0 a b c d)) ∧ w.grownBy w' (some g) := by
 obtain ⟨R, hR⟩ : ∃ R, qr l0 a b c d = R := ⟨_, rfl⟩
 rw [hR]
 have a0 : (0 : Int) ≤ (a : Int) := by omega
 have a1 : (a : Int) < 16 := by omega
 have b0 : (0 : Int) ≤ (b : Int) := by omega
 have b1 : (b : Int) < 16 := by omega
 have c0 : (0 : Int) ≤ (c : Int) := by omega
 have c1 : (c : Int) < 16 := by omega
 have d0 : (0 : Int) ≤ (d : Int) := by omega
 have d1 : (d : Int) < 16 := by omega
 obtain ⟨l, hll⟩ : ∃ l, l0 = l := ⟨_, rfl⟩
 have hlen : Hid (l.length = 16) := zH (by rw [← hll]; exact hlen0)
 have h32 : Hid (W32 l) := zH (by rw [← hll]; exact h320)
 rw [hll] at k0 hR
 unfold qr at hR
 replace hR := zH hR
 clear hlen0 h320 hll
 have kg := World.grownBy.refl w (some g)
 go_enter Tryz.func197, Tryz.ntmps197
 -- a += b
 obtain ⟨x, hx⟩ : ∃ x, l.getD a 0 = x := ⟨_, rfl⟩
 obtain ⟨y, hy⟩ : ∃ y, l.getD b 0 = y := ⟨_, rfl⟩
 have hcx := ws_get (l := l) (j := a) (by rw [hlen.out]; exact ha)
 have hcy := ws_get (l := l) (j := b) (by rw [hlen.out]; exact hb)
 rw [hx] at hcx
 rw [hy] at hcy
 replace hcx := zH hcx
 replace hcy := zH hcy
 obtain ⟨l2, hl2_0⟩ : ∃ l2, qa l a b = l2 := ⟨_, rfl⟩
 have hlen2 : Hid (l2.length = 16) := zH (by rw [← hl2_0, qa_len]; exact hlen.out)
 have h322 : Hid (W32 l2) := zH (by rw [← hl2_0]; exact qa_32 h32.out _ _)
 have hset : Hid ((ws l).set a (.int .u32 (IntKind.u32.wrap ((x : Int) + (y : Int)))) = ws l2) := zH (by
  rw [show ((x : Int) + (y : Int)) = ((x + y : Nat) : Int) by omega, u32_mod, ws_set, ← hl2_0, qa, hx, hy])
 replace hR := zH (by have q := hR.out; rw [hl2_0] at q; exact q)
 clear hl2_0 hx hy
 go_upto_region 0 with fail
 refine Tx.start (fun w' => Below (w).heap.size (w) w') 13 14 rfl zKr ?_
 have hS_1 : Below (w).heap.size (w) (World.drew w) := (Below.refl _ _).drew
 refine Tx.seg2 (A := ?_) 1 8191 zKr (by exact hS_1) [0, 1, 2, 3, 4, 5, 6, 7, 8, 9, 10, 11, 12] zKr ?_ ?_
 rotate_left
 · intro w' hB
   have e1 := (k0.below hB).cell hcx.out
   have e2 := (k0.below hB).cell hcy.out
   exact zRd
 refine Tx.bar 16383 rfl zDk (fun K hK => ?_)
 replace k0 := k0.below hS_1
 replace kg := gr_drewN kg hS_1
 clear hS_1
 refine step_cellG rfl _ _ _ rfl g a (.int .u32 (IntKind.u32.wrap ((x : Int) + (y : Int)))) rfl rfl _ k0 zKr (by rw [ws_len, hlen.out]; exact ha) rfl (fun w1 k1 hg hsz => ?_)
 replace kg := gr_trans kg hg
 clear k0
 have k0 := k1
 clear k1
 rw [hset.out] at k0
 clear hg hsz hset hcx hcy hlen h32
 refine hK (fun _ => True) 9999 _ _ ?_
 clear hK K
 try simp only [Act.put]
 try simp only [zSa, zSz, zSs]
 refine Tx.done zKr ?_
 have hlen := hlen2
 have h32 := h322
 clear hlen2 h322
 obtain ⟨l, hll⟩ : ∃ l3, l2 = l3 := ⟨_, rfl⟩
 rw [hll] at k0 hlen h32 hR
 -- d = (d ^ a) turned by 16
 obtain ⟨x, hx⟩ : ∃ x, l.getD d 0 = x := ⟨_, rfl⟩
 obtain ⟨y, hy⟩ : ∃ y, l.getD a 0 = y := ⟨_, rfl⟩
 have hcx := ws_get (l := l) (j := d) (by rw [hlen.out]; exact hd)
 have hcy := ws_get (l := l) (j := a) (by rw [hlen.out]; exact ha)
 rw [hx] at hcx
 rw [hy] at hcy
 replace hcx := zH hcx
 replace hcy := zH hcy
 have lx : x < 4294967296 := by rw [← hx]; exact h32.out.get _
 have ly : y < 4294967296 := by rw [← hy]; exact h32.out.get _
 have hxy := xor_u32 lx ly
 obtain ⟨z, hz⟩ : ∃ z, x ^^^ y = z := ⟨_, rfl⟩
 have lz : Hid (z < 4294967296) := zH (by rw [← hz]; exact xor_lt lx ly)
 rw [hz] at hxy
 obtain ⟨l2, hl2_1⟩ : ∃ l2, qx l d a 16 = l2 := ⟨_, rfl⟩
 have hlen2 : Hid (l2.length = 16) := zH (by rw [← hl2_1, qx_len]; exact hlen.out)
 have h322 : Hid (W32 l2) := zH (by rw [← hl2_1]; exact qx_32 h32.out _ _ _)
 have hset : Hid ((ws l).set d (.int .u32 ((rl z 16 : Nat) : Int)) = ws l2) := zH (by
  rw [ws_set, ← hl2_1, qx, hx, hy, hz])
 replace hR := zH (by have q := hR.out; rw [hl2_1] at q; exact q)
 clear hl2_1 hx hy hz lx ly
 go_upto_region 1 with fail
 obtain ⟨wq, hwq⟩ : ∃ wq : World, w1 = wq := ⟨_, rfl⟩
 rw [hwq] at k0 kg ⊢
 clear hwq
 refine Tx.start (fun w' => Below (wq).heap.size (wq) w') 16 17 rfl zKr ?_
 have hS_2 : Below (wq).heap.size (wq) (World.drew wq) := (Below.refl _ _).drew
 refine Tx.seg2 (A := ?_) 3 24575 zKr (by exact hS_2) [0, 1, 2, 3, 4, 5, 6, 7, 8, 9, 10, 11, 12, 14] zKr ?_ ?_
 rotate_left
 · intro w' hB
   have e1 := (k0.below hB).cell hcx.out
   have e2 := (k0.below hB).cell hcy.out
   exact zRd
 refine Tx.eff 13 32767 rfl zDk (fun K hK => ?_)
 go_simp
 refine (rotl_16 lz.out _).mono ?_
 rintro e w_3 ⟨rfl, hb_3⟩
 have hS_3 := ext_trans hS_2 (Nat.le_refl _) hb_3
 refine hK (fun w' => Below (wq).heap.size (wq) w') _ _ hS_3 (fun _ h => h) ?_
 clear hK K hb_3 hS_2
 try simp only [Act.put, zSa, zSz, zSs]
 refine Tx.seg2 (A := ?_) 1 65535 zKr (by exact hS_3) [15] zKr ?_ ?_
 rotate_left
 · intro w' hB
   exact zRd
 refine Tx.bar 131071 rfl zDk (fun K hK => ?_)
 replace k0 := k0.below hS_3
 replace kg := gr_drewN kg hS_3
 clear hS_3
 refine step_cellG rfl _ _ _ rfl g d (.int .u32 ((rl z 16 : Nat) : Int)) rfl rfl _ k0 zKr (by rw [ws_len, hlen.out]; exact hd) rfl (fun w2 k1 hg hsz => ?_)
 replace kg := gr_trans kg hg
 clear k0
 have k0 := k1
 clear k1
 rw [hset.out] at k0
 clear hg hsz hset hcx hcy hlen h32 hxy lz
 refine hK (fun _ => True) 9999 _ _ ?_
 clear hK K
 try simp only [Act.put]
 try simp only [zSa, zSz, zSs]
 refine Tx.done zKr ?_
 have hlen := hlen2
 have h32 := h322
 clear hlen2 h322
 obtain ⟨l, hll⟩ : ∃ l3, l2 = l3 := ⟨_, rfl⟩
 rw [hll] at k0 hlen h32 hR
 -- c += d
 obtain ⟨x, hx⟩ : ∃ x, l.getD c 0 = x := ⟨_, rfl⟩
 obtain ⟨y, hy⟩ : ∃ y, l.getD d 0 = y := ⟨_, rfl⟩
 have hcx := ws_get (l := l) (j := c) (by rw [hlen.out]; exact hc)
 have hcy := ws_get (l := l) (j := d) (by rw [hlen.out]; exact hd)
 rw [hx] at hcx
 rw [hy] at hcy
 replace hcx := zH hcx
 replace hcy := zH hcy
 obtain ⟨l2, hl2_2⟩ : ∃ l2, qa l c d = l2 := ⟨_, rfl⟩
 have hlen2 : Hid (l2.length = 16) := zH (by rw [← hl2_2, qa_len]; exact hlen.out)
 have h322 : Hid (W32 l2) := zH (by rw [← hl2_2]; exact qa_32 h32.out _ _)
 have hset : Hid ((ws l).set c (.int .u32 (IntKind.u32.wrap ((x : Int) + (y : Int)))) = ws l2) := zH (by
  rw [show ((x : Int) + (y : Int)) = ((x + y : Nat) : Int) by omega, u32_mod, ws_set, ← hl2_2, qa, hx, hy])
 replace hR := zH (by have q := hR.out; rw [hl2_2] at q; exact q)
 clear hl2_2 hx hy
 go_upto_region 2 with fail
 obtain ⟨wq, hwq⟩ : ∃ wq : World, w2 = wq := ⟨_, rfl⟩
 rw [hwq] at k0 kg ⊢
 clear hwq
 refine Tx.start (fun w' => Below (wq).heap.size (wq) w') 13 14 rfl zKr ?_
 have hS_4 : Below (wq).heap.size (wq) (World.drew wq) := (Below.refl _ _).drew
 refine Tx.seg2 (A := ?_) 1 8191 zKr (by exact hS_4) [0, 1, 2, 3, 4, 5, 6, 7, 8, 9, 10, 11, 12] zKr ?_ ?_
 rotate_left
 · intro w' hB
   have e1 := (k0.below hB).cell hcx.out
   have e2 := (k0.below hB).cell hcy.out
   exact zRd
 refine Tx.bar 16383 rfl zDk (fun K hK => ?_)
 replace k0 := k0.below hS_4
 replace kg := gr_drewN kg hS_4
 clear hS_4
 refine step_cellG rfl _ _ _ rfl g c (.int .u32 (IntKind.u32.wrap ((x : Int) + (y : Int)))) rfl rfl _ k0 zKr (by rw [ws_len, hlen.out]; exact hc) rfl (fun w3 k1 hg hsz => ?_)
 replace kg := gr_trans kg hg
 clear k0
 have k0 := k1
 clear k1
 rw [hset.out] at k0
 clear hg hsz hset hcx hcy hlen h32
 refine hK (fun _ => True) 9999 _ _ ?_
 clear hK K
 try simp only [Act.put]
 try simp only [zSa, zSz, zSs]
 refine Tx.done zKr ?_
 have hlen := hlen2
 have h32 := h322
 clear hlen2 h322
 obtain ⟨l, hll⟩ : ∃ l3, l2 = l3 := ⟨_, rfl⟩
 rw [hll] at k0 hlen h32 hR
 -- b = (b ^ c) turned by 12
 obtain ⟨x, hx⟩ : ∃ x, l.getD b 0 = x := ⟨_, rfl⟩
 obtain ⟨y, hy⟩ : ∃ y, l.getD c 0 = y := ⟨_, rfl⟩
 have hcx := ws_get (l := l) (j := b) (by rw [hlen.out]; exact hb)
 have hcy := ws_get (l := l) (j := c) (by rw [hlen.out]; exact hc)
 rw [hx] at hcx
 rw [hy] at hcy
 replace hcx := zH hcx
 replace hcy := zH hcy
 have lx : x < 4294967296 := by rw [← hx]; exact h32.out.get _
 have ly : y < 4294967296 := by rw [← hy]; exact h32.out.get _
 have hxy := xor_u32 lx ly
 obtain ⟨z, hz⟩ : ∃ z, x ^^^ y = z := ⟨_, rfl⟩
 have lz : Hid (z < 4294967296) := zH (by rw [← hz]; exact xor_lt lx ly)
 rw [hz] at hxy
 obtain ⟨l2, hl2_3⟩ : ∃ l2, qx l b c 12 = l2 := ⟨_, rfl⟩
 have hlen2 : Hid (l2.length = 16) := zH (by rw [← hl2_3, qx_len]; exact hlen.out)
 have h322 : Hid (W32 l2) := zH (by rw [← hl2_3]; exact qx_32 h32.out _ _ _)
 have hset : Hid ((ws l).set b (.int .u32 ((rl z 12 : Nat) : Int)) = ws l2) := zH (by
  rw [ws_set, ← hl2_3, qx, hx, hy, hz])
 replace hR := zH (by have q := hR.out; rw [hl2_3] at q; exact q)
 clear hl2_3 hx hy hz lx ly
 go_upto_region 3 with fail
 obtain ⟨wq, hwq⟩ : ∃ wq : World, w3 = wq := ⟨_, rfl⟩
 rw [hwq] at k0 kg ⊢
 clear hwq
 refine Tx.start (fun w' => Below (wq).heap.size (wq) w') 16 17 rfl zKr ?_
 have hS_5 : Below (wq).heap.size (wq) (World.drew wq) := (Below.refl _ _).drew
 refine Tx.seg2 (A := ?_) 3 24575 zKr (by exact hS_5) [0, 1, 2, 3, 4, 5, 6, 7, 8, 9, 10, 11, 12, 14] zKr ?_ ?_
 rotate_left
 · intro w' hB
   have e1 := (k0.below hB).cell hcx.out
   have e2 := (k0.below hB).cell hcy.out
   exact zRd
 refine Tx.eff 13 32767 rfl zDk (fun K hK => ?_)
 go_simp
 refine (rotl_12 lz.out _).mono ?_
 rintro e w_6 ⟨rfl, hb_6⟩
 have hS_6 := ext_trans hS_5 (Nat.le_refl _) hb_6
 refine hK (fun w' => Below (wq).heap.size (wq) w') _ _ hS_6 (fun _ h => h) ?_
 clear hK K hb_6 hS_5
 try simp only [Act.put, zSa, zSz, zSs]
 refine Tx.seg2 (A := ?_) 1 65535 zKr (by exact hS_6) [15] zKr ?_ ?_
 rotate_left
 · intro w' hB
   exact zRd
 refine Tx.bar 131071 rfl zDk (fun K hK => ?_)
 replace k0 := k0.below hS_6
 replace kg := gr_drewN kg hS_6
 clear hS_6
 refine step_cellG rfl _ _ _ rfl g b (.int .u32 ((rl z 12 : Nat) : Int)) rfl rfl _ k0 zKr (by rw [ws_len, hlen.out]; exact hb) rfl (fun w4 k1 hg hsz => ?_)
 replace kg := gr_trans kg hg
 clear k0
 have k0 := k1
 clear k1
 rw [hset.out] at k0
 clear hg hsz hset hcx hcy hlen h32 hxy lz
 refine hK (fun _ => True) 9999 _ _ ?_
 clear hK K
 try simp only [Act.put]
 try simp only [zSa, zSz, zSs]
 refine Tx.done zKr ?_
 have hlen := hlen2
 have h32 := h322
 clear hlen2 h322
 obtain ⟨l, hll⟩ : ∃ l3, l2 = l3 := ⟨_, rfl⟩
 rw [hll] at k0 hlen h32 hR
 -- a += b
 obtain ⟨x, hx⟩ : ∃ x, l.getD a 0 = x := ⟨_, rfl⟩
 obtain ⟨y, hy⟩ : ∃ y, l.getD b 0 = y := ⟨_, rfl⟩
 have hcx := ws_get (l := l) (j := a) (by rw [hlen.out]; exact ha)
 have hcy := ws_get (l := l) (j := b) (by rw [hlen.out]; exact hb)
 rw [hx] at hcx
 rw [hy] at hcy
 replace hcx := zH hcx
 replace hcy := zH hcy
 obtain ⟨l2, hl2_4⟩ : ∃ l2, qa l a b = l2 := ⟨_, rfl⟩
 have hlen2 : Hid (l2.length = 16) := zH (by rw [← hl2_4, qa_len]; exact hlen.out)
 have h322 : Hid (W32 l2) := zH (by rw [← hl2_4]; exact qa_32 h32.out _ _)
 have hset : Hid ((ws l).set a (.int .u32 (IntKind.u32.wrap ((x : Int) + (y : Int)))) = ws l2) := zH (by
  rw [show ((x : Int) + (y : Int)) = ((x + y : Nat) : Int) by omega, u32_mod, ws_set, ← hl2_4, qa, hx, hy])
 replace hR := zH (by have q := hR.out; rw [hl2_4] at q; exact q)
 clear hl2_4 hx hy
 go_upto_region 4 with fail
 obtain ⟨wq, hwq⟩ : ∃ wq : World, w4 = wq := ⟨_, rfl⟩
 rw [hwq] at k0 kg ⊢
 clear hwq
 refine Tx.start (fun w' => Below (wq).heap.size (wq) w') 13 14 rfl zKr ?_
 have hS_7 : Below (wq).heap.size (wq) (World.drew wq) := (Below.refl _ _).drew
 refine Tx.seg2 (A := ?_) 1 8191 zKr (by exact hS_7) [0, 1, 2, 3, 4, 5, 6, 7, 8, 9, 10, 11, 12] zKr ?_ ?_
 rotate_left
 · intro w' hB
   have e1 := (k0.below hB).cell hcx.out
   have e2 := (k0.below hB).cell hcy.out
   exact zRd
 refine Tx.bar 16383 rfl zDk (fun K hK => ?_)
 replace k0 := k0.below hS_7
 replace kg := gr_drewN kg hS_7
 clear hS_7
 refine step_cellG rfl _ _ _ rfl g a (.int .u32 (IntKind.u32.wrap ((x : Int) + (y : Int)))) rfl rfl _ k0 zKr (by rw [ws_len, hlen.out]; exact ha) rfl (fun w5 k1 hg hsz => ?_)
 replace kg := gr_trans kg hg
 clear k0
 have k0 := k1
 clear k1
 rw [hset.out] at k0
 clear hg hsz hset hcx hcy hlen h32
 refine hK (fun _ => True) 9999 _ _ ?_
 clear hK K
 try simp only [Act.put]
 try simp only [zSa, zSz, zSs]
 refine Tx.done zKr ?_
 have hlen := hlen2
 have h32 := h322
 clear hlen2 h322
 obtain ⟨l, hll⟩ : ∃ l3, l2 = l3 := ⟨_, rfl⟩
 rw [hll] at k0 hlen h32 hR
 -- d = (d ^ a) turned by 8
 obtain ⟨x, hx⟩ : ∃ x, l.getD d 0 = x := ⟨_, rfl⟩
 obtain ⟨y, hy⟩ : ∃ y, l.getD a 0 = y := ⟨_, rfl⟩
 have hcx := ws_get (l := l) (j := d) (by rw [hlen.out]; exact hd)
 have hcy := ws_get (l := l) (j := a) (by rw [hlen.out]; exact ha)
 rw [hx] at hcx
 rw [hy] at hcy
 replace hcx := zH hcx
 replace hcy := zH hcy
 have lx : x < 4294967296 := by rw [← hx]; exact h32.out.get _
 have ly : y < 4294967296 := by rw [← hy]; exact h32.out.get _
 have hxy := xor_u32 lx ly
 obtain ⟨z, hz⟩ : ∃ z, x ^^^ y = z := ⟨_, rfl⟩
 have lz : Hid (z < 4294967296) := zH (by rw [← hz]; exact xor_lt lx ly)
 rw [hz] at hxy
 obtain ⟨l2, hl2_5⟩ : ∃ l2, qx l d a 8 = l2 := ⟨_, rfl⟩
 have hlen2 : Hid (l2.length = 16) := zH (by rw [← hl2_5, qx_len]; exact hlen.out)
 have h322 : Hid (W32 l2) := zH (by rw [← hl2_5]; exact qx_32 h32.out _ _ _)
 have hset : Hid ((ws l).set d (.int .u32 ((rl z 8 : Nat) : Int)) = ws l2) := zH (by
  rw [ws_set, ← hl2_5, qx, hx, hy, hz])
 replace hR := zH (by have q := hR.out; rw [hl2_5] at q; exact q)
 clear hl2_5 hx hy hz lx ly
 go_upto_region 5 with fail
 obtain ⟨wq, hwq⟩ : ∃ wq : World, w5 = wq := ⟨_, rfl⟩
 rw [hwq] at k0 kg ⊢
 clear hwq
 refine Tx.start (fun w' => Below (wq).heap.size (wq) w') 16 17 rfl zKr ?_
 have hS_8 : Below (wq).heap.size (wq) (World.drew wq) := (Below.refl _ _).drew
 refine Tx.seg2 (A := ?_) 3 24575 zKr (by exact hS_8) [0, 1, 2, 3, 4, 5, 6, 7, 8, 9, 10, 11, 12, 14] zKr ?_ ?_
 rotate_left
 · intro w' hB
   have e1 := (k0.below hB).cell hcx.out
   have e2 := (k0.below hB).cell hcy.out
   exact zRd
 refine Tx.eff 13 32767 rfl zDk (fun K hK => ?_)
 go_simp
 refine (rotl_8 lz.out _).mono ?_
 rintro e w_9 ⟨rfl, hb_9⟩
 have hS_9 := ext_trans hS_8 (Nat.le_refl _) hb_9
 refine hK (fun w' => Below (wq).heap.size (wq) w') _ _ hS_9 (fun _ h => h) ?_
 clear hK K hb_9 hS_8
 try simp only [Act.put, zSa, zSz, zSs]
 refine Tx.seg2 (A := ?_) 1 65535 zKr (by exact hS_9) [15] zKr ?_ ?_
 rotate_left
 · intro w' hB
   exact zRd
 refine Tx.bar 131071 rfl zDk (fun K hK => ?_)
 replace k0 := k0.below hS_9
 replace kg := gr_drewN kg hS_9
 clear hS_9
 refine step_cellG rfl _ _ _ rfl g d (.int .u32 ((rl z 8 : Nat) : Int)) rfl rfl _ k0 zKr (by rw [ws_len, hlen.out]; exact hd) rfl (fun w6 k1 hg hsz => ?_)
 replace kg := gr_trans kg hg
 clear k0
 have k0 := k1
 clear k1
 rw [hset.out] at k0
 clear hg hsz hset hcx hcy hlen h32 hxy lz
 refine hK (fun _ => True) 9999 _ _ ?_
 clear hK K
 try simp only [Act.put]
 try simp only [zSa, zSz, zSs]
 refine Tx.done zKr ?_
 have hlen := hlen2
 have h32 := h322
 clear hlen2 h322
 obtain ⟨l, hll⟩ : ∃ l3, l2 = l3 := ⟨_, rfl⟩
 rw [hll] at k0 hlen h32 hR
 -- c += d
 obtain ⟨x, hx⟩ : ∃ x, l.getD c 0 = x := ⟨_, rfl⟩
 obtain ⟨y, hy⟩ : ∃ y, l.getD d 0 = y := ⟨_, rfl⟩
 have hcx := ws_get (l := l) (j := c) (by rw [hlen.out]; exact hc)
 have hcy := ws_get (l := l) (j := d) (by rw [hlen.out]; exact hd)
 rw [hx] at hcx
 rw [hy] at hcy
 replace hcx := zH hcx
 replace hcy := zH hcy
 obtain ⟨l2, hl2_6⟩ : ∃ l2, qa l c d = l2 := ⟨_, rfl⟩
 have hlen2 : Hid (l2.length = 16) := zH (by rw [← hl2_6, qa_len]; exact hlen.out)
 have h322 : Hid (W32 l2) := zH (by rw [← hl2_6]; exact qa_32 h32.out _ _)
 have hset : Hid ((ws l).set c (.int .u32 (IntKind.u32.wrap ((x : Int) + (y : Int)))) = ws l2) := zH (by
  rw [show ((x : Int) + (y : Int)) = ((x + y : Nat) : Int) by omega, u32_mod, ws_set, ← hl2_6, qa, hx, hy])
 replace hR := zH (by have q := hR.out; rw [hl2_6] at q; exact q)
 clear hl2_6 hx hy
 go_upto_region 6 with fail
 obtain ⟨wq, hwq⟩ : ∃ wq : World, w6 = wq := ⟨_, rfl⟩
 rw [hwq] at k0 kg ⊢
 clear hwq
 refine Tx.start (fun w' => Below (wq).heap.size (wq) w') 13 14 rfl zKr ?_
 have hS_10 : Below (wq).heap.size (wq) (World.drew wq) := (Below.refl _ _).drew
 refine Tx.seg2 (A := ?_) 1 8191 zKr (by exact hS_10) [0, 1, 2, 3, 4, 5, 6, 7, 8, 9, 10, 11, 12] zKr ?_ ?_
 rotate_left
 · intro w' hB
   have e1 := (k0.below hB).cell hcx.out
   have e2 := (k0.below hB).cell hcy.out
   exact zRd
 refine Tx.bar 16383 rfl zDk (fun K hK => ?_)
 replace k0 := k0.below hS_10
 replace kg := gr_drewN kg hS_10
 clear hS_10
 refine step_cellG rfl _ _ _ rfl g c (.int .u32 (IntKind.u32.wrap ((x : Int) + (y : Int)))) rfl rfl _ k0 zKr (by rw [ws_len, hlen.out]; exact hc) rfl (fun w7 k1 hg hsz => ?_)
 replace kg := gr_trans kg hg
 clear k0
 have k0 := k1
 clear k1
 rw [hset.out] at k0
 clear hg hsz hset hcx hcy hlen h32
 refine hK (fun _ => True) 9999 _ _ ?_
 clear hK K
 try simp only [Act.put]
 try simp only [zSa, zSz, zSs]
 refine Tx.done zKr ?_
 have hlen := hlen2
 have h32 := h322
 clear hlen2 h322
 obtain ⟨l, hll⟩ : ∃ l3, l2 = l3 := ⟨_, rfl⟩
 rw [hll] at k0 hlen h32 hR
 -- b = (b ^ c) turned by 7
 obtain ⟨x, hx⟩ : ∃ x, l.getD b 0 = x := ⟨_, rfl⟩
 obtain ⟨y, hy⟩ : ∃ y, l.getD c 0 = y := ⟨_, rfl⟩
 have hcx := ws_get (l := l) (j := b) (by rw [hlen.out]; exact hb)
 have hcy := ws_get (l := l) (j := c) (by rw [hlen.out]; exact hc)
 rw [hx] at hcx
 rw [hy] at hcy
 replace hcx := zH hcx
 replace hcy := zH hcy
 have lx : x < 4294967296 := by rw [← hx]; exact h32.out.get _
 have ly : y < 4294967296 := by rw [← hy]; exact h32.out.get _
 have hxy := xor_u32 lx ly
 obtain ⟨z, hz⟩ : ∃ z, x ^^^ y = z := ⟨_, rfl⟩
 have lz : Hid (z < 4294967296) := zH (by rw [← hz]; exact xor_lt lx ly)
 rw [hz] at hxy
 obtain ⟨l2, hl2_7⟩ : ∃ l2, qx l b c 7 = l2 := ⟨_, rfl⟩
 have hlen2 : Hid (l2.length = 16) := zH (by rw [← hl2_7, qx_len]; exact hlen.out)
 have h322 : Hid (W32 l2) := zH (by rw [← hl2_7]; exact qx_32 h32.out _ _ _)
 have hset : Hid ((ws l).set b (.int .u32 ((rl z 7 : Nat) : Int)) = ws l2) := zH (by
  rw [ws_set, ← hl2_7, qx, hx, hy, hz])
 replace hR := zH (by have q := hR.out; rw [hl2_7] at q; exact q)
 clear hl2_7 hx hy hz lx ly
 go_upto_region 7 with fail
 obtain ⟨wq, hwq⟩ : ∃ wq : World, w7 = wq := ⟨_, rfl⟩
 rw [hwq] at k0 kg ⊢
 clear hwq
 refine Tx.start (fun w' => Below (wq).heap.size (wq) w') 16 17 rfl zKr ?_
 have hS_11 : Below (wq).heap.size (wq) (World.drew wq) := (Below.refl _ _).drew
 refine Tx.seg2 (A := ?_) 3 24575 zKr (by exact hS_11) [0, 1, 2, 3, 4, 5, 6, 7, 8, 9, 10, 11, 12, 14] zKr ?_ ?_
 rotate_left
 · intro w' hB
   have e1 := (k0.below hB).cell hcx.out
   have e2 := (k0.below hB).cell hcy.out
   exact zRd
 refine Tx.eff 13 32767 rfl zDk (fun K hK => ?_)
 go_simp
 refine (rotl_7 lz.out _).mono ?_
 rintro e w_12 ⟨rfl, hb_12⟩
 have hS_12 := ext_trans hS_11 (Nat.le_refl _) hb_12
 refine hK (fun w' => Below (wq).heap.size (wq) w') _ _ hS_12 (fun _ h => h) ?_
 clear hK K hb_12 hS_11
 try simp only [Act.put, zSa, zSz, zSs]
 refine Tx.seg2 (A := ?_) 1 65535 zKr (by exact hS_12) [15] zKr ?_ ?_
 rotate_left
 · intro w' hB
   exact zRd
 refine Tx.bar 131071 rfl zDk (fun K hK => ?_)
 replace k0 := k0.below hS_12
 replace kg := gr_drewN kg hS_12
 clear hS_12
 refine step_cellG rfl _ _ _ rfl g b (.int .u32 ((rl z 7 : Nat) : Int)) rfl rfl _ k0 zKr (by rw [ws_len, hlen.out]; exact hb) rfl (fun w8 k1 hg hsz => ?_)
 replace kg := gr_trans kg hg
 clear k0
 have k0 := k1
 clear k1
 rw [hset.out] at k0
 clear hg hsz hset hcx hcy hlen h32 hxy lz
 refine hK (fun _ => True) 9999 _ _ ?_
 clear hK K
 try simp only [Act.put]
 try simp only [zSa, zSz, zSs]
 refine Tx.done zKr ?_
 have hlen := hlen2
 have h32 := h322
 clear hlen2 h322
 obtain ⟨l, hll⟩ : ∃ l3, l2 = l3 := ⟨_, rfl⟩
 rw [hll] at k0 hlen h32 hR
 go_wp2_with fail
 go_end0
 have q := hR.out
 subst q
 exact ⟨rfl, k0, kg⟩
def w4 (b0 b1 b2 b3 : Nat) : Nat := b0 + 256 * b1 + 65536 * b2 + 16777216 * b3
theorem w4_lt {b0 b1 b2 b3 : Nat} (h0 : b0 < 256) (h1 : b1 < 256) (h2 : b2 < 256) (h3 : b3 < 256) : w4 b0 b1 b2 b3 < 4294967296 := by unfold w4; omega
theorem or_add {x y k : Nat} (hx : x < 2 ^ k) : x ||| (2 ^ k * y) = x + 2 ^ k * y := by
 rw [Nat.or_comm, ← Nat.two_pow_add_eq_or_of_lt hx, Nat.add_comm]
theorem word_any {g o n c : Nat} {b0 b1 b2 b3 : Nat} (w : World) (h0 : b0 < 256) (h1 : b1 < 256) (h2 : b2 < 256) (h3 : b3 < 256) (hn : 4 ≤ n)
 (c0 : w.cell? ⟨g, o, none⟩ = some (.int .u8 (b0 : Int))) (c1 : w.cell? ⟨g, o + 1, none⟩ = some (.int .u8 (b1 : Int))) (c2 : w.cell? ⟨g, o + 2, none⟩ = some (.int .u8 (b2 : Int))) (c3 : w.cell? ⟨g, o + 3, none⟩ = some (.int .u8 (b3 : Int))) :
 Calls Tryz.prog 216 #[.slice (some ⟨g, o, none⟩) n c] w fun e w' => e = .returned (.int .u32 ((w4 b0 b1 b2 b3 : Nat) : Int)) ∧ Below w.heap.size w w' := by
 have n0 : 0 < n := by omega
 have m1 : 1 < n := by omega
 have m2 : 2 < n := by omega
 have m3 : 3 < n := by omega
 have n1 : (1 : Int) < (n : Int) := by omega
 have n2 : (2 : Int) < (n : Int) := by omega
 have n3 : (3 : Int) < (n : Int) := by omega
 have e1 : bits .or .u32 (b0 : Int) (IntKind.u32.wrap ((b1 : Int) * 256)) = ((b0 + 256 * b1 : Nat) : Int) := by
  rw [show ((b1 : Int) * 256) = ((2 ^ 8 * b1 : Nat) : Int) by omega, u32_in zOm, or_u32 zOm zOm, or_add (k := 8) zOm]
 have e2 : bits .or .u32 ((b0 + 256 * b1 : Nat) : Int) (IntKind.u32.wrap ((b2 : Int) * 65536)) = ((b0 + 256 * b1 + 65536 * b2 : Nat) : Int) := by
  rw [show ((b2 : Int) * 65536) = ((2 ^ 16 * b2 : Nat) : Int) by omega, u32_in zOm, or_u32 zOm zOm, or_add (k := 16) zOm]
 have e3 : bits .or .u32 ((b0 + 256 * b1 + 65536 * b2 : Nat) : Int) (IntKind.u32.wrap ((b3 : Int) * 16777216)) = ((w4 b0 b1 b2 b3 : Nat) : Int) := by
  rw [show ((b3 : Int) * 16777216) = ((2 ^ 24 * b3 : Nat) : Int) by omega, u32_in zOm, or_u32 zOm zOm, or_add (k := 24) zOm]
  rfl
 have u0 : IntKind.u32.wrap (b0 : Int) = (b0 : Int) := u32_in zOm
 have u1 : IntKind.u32.wrap (b1 : Int) = (b1 : Int) := u32_in zOm
 have u2 : IntKind.u32.wrap (b2 : Int) = (b2 : Int) := u32_in zOm
 have u3 : IntKind.u32.wrap (b3 : Int) = (b3 : Int) := u32_in zOm
 obtain ⟨r1, hr1⟩ : ∃ r, b0 + 256 * b1 = r := ⟨_, rfl⟩
 rw [hr1] at e1 e2 e3
 obtain ⟨r2, hr2⟩ : ∃ r, r1 + 65536 * b2 = r := ⟨_, rfl⟩
 rw [hr2] at e2 e3
 obtain ⟨r3, hr3⟩ : ∃ r, w4 b0 b1 b2 b3 = r := ⟨_, rfl⟩
 rw [hr3] at e3 ⊢
 clear hr1 hr2 hr3
 go_enter Tryz.func216, Tryz.ntmps216
 go_upto_region 1 with fail
 refine Tx.start (fun w' => Below (w).heap.size (w) w') 9999 23 rfl zKr ?_
 have hS_1 : Below (w).heap.size (w) (World.drew w) := (Below.refl _ _).drew
 refine Tx.seg (A := ?_) 0 8388607 zKr (by exact hS_1) [0, 1, 2, 3, 4, 5, 6, 7, 8, 9, 10, 11, 12, 13, 14, 15, 16, 17, 18, 19, 20, 21, 22] zKr ?_ ?_
 rotate_left
 · intro w' hB
   have d0 : w'.cell? ⟨g, o, none⟩ = some (.int .u8 (b0 : Int)) := by rw [hB.cell (p := ⟨g, o, none⟩) (World.block_lt_of_cell? _ _ c0)]; exact c0
   have d1 : w'.cell? ⟨g, o + 1, none⟩ = some (.int .u8 (b1 : Int)) := by rw [hB.cell (p := ⟨g, o + 1, none⟩) (World.block_lt_of_cell? _ _ c1)]; exact c1
   have d2 : w'.cell? ⟨g, o + 2, none⟩ = some (.int .u8 (b2 : Int)) := by rw [hB.cell (p := ⟨g, o + 2, none⟩) (World.block_lt_of_cell? _ _ c2)]; exact c2
   have d3 : w'.cell? ⟨g, o + 3, none⟩ = some (.int .u8 (b3 : Int)) := by rw [hB.cell (p := ⟨g, o + 3, none⟩) (World.block_lt_of_cell? _ _ c3)]; exact c3
   exact zRd
 refine Tx.done zKr ?_
 go_wp2_with fail
 go_ret
 exact ⟨rfl, hS_1⟩
def kw (k i : Nat) : Nat := w4 (k / 256 ^ (4 * i) % 256) (k / 256 ^ (4 * i + 1) % 256) (k / 256 ^ (4 * i + 2) % 256) (k / 256 ^ (4 * i + 3) % 256)
theorem kw_lt (k i : Nat) : kw k i < 4294967296 := w4_lt (Nat.mod_lt _ zDc) (Nat.mod_lt _ zDc) (Nat.mod_lt _ zDc) (Nat.mod_lt _ zDc)
def stK (k : Nat) : Nat → List Nat
 | 0 => [1634760805, 857760878, 2036477234, 1797285236, 0, 0, 0, 0, 0, 0, 0, 0, 0, 0, 0, 0]
 | i + 1 => (stK k i).set (4 + i) (kw k i)
def stN (l : List Nat) (n : Nat) : Nat → List Nat
 | 0 => l
 | i + 1 => (stN l n i).set (13 + i) (kw n i)
def begL (k c n : Nat) : List Nat := stN ((stK k 8).set 12 c) n 3
theorem stK_len (k : Nat) : ∀ i, (stK k i).length = 16
 | 0 => rfl
 | i + 1 => by rw [stK, List.length_set, stK_len k i]
theorem stN_len {l : List Nat} (hl : l.length = 16) (n : Nat) : ∀ i, (stN l n i).length = 16
 | 0 => hl
 | i + 1 => by rw [stN, List.length_set, stN_len hl n i]
theorem stK_32 (k : Nat) : ∀ i, W32 (stK k i)
 | 0 => by intro x hx; simp only [stK, List.mem_cons, List.not_mem_nil, or_false] at hx; omega
 | i + 1 => (stK_32 k i).set _ (kw_lt _ _)
theorem stN_32 {l : List Nat} (hl : W32 l) (n : Nat) : ∀ i, W32 (stN l n i)
 | 0 => hl
 | i + 1 => (stN_32 hl n i).set _ (kw_lt _ _)
theorem begL_len (k c n : Nat) : (begL k c n).length = 16 := stN_len (by rw [List.length_set, stK_len]) n 3
theorem begL_32 (k n : Nat) {c : Nat} (hc : c < 4294967296) : W32 (begL k c n) := stN_32 ((stK_32 k 8).set 12 hc) n 3
def colT (l : List Nat) : Nat → List Nat
 | 0 => l
 | i + 1 => qr (colT l i) i (4 + i) (8 + i) (12 + i)
def diaT (l : List Nat) : Nat → List Nat
 | 0 => l
 | i + 1 => qr (diaT l i) i (4 + (i + 1) % 4) (8 + (i + 2) % 4) (12 + (i + 3) % 4)
def dblT (l : List Nat) : Nat → List Nat
 | 0 => l
 | i + 1 => diaT (colT (dblT l i) 4) 4
theorem colT_ok {l : List Nat} (h : l.length = 16 ∧ W32 l) : ∀ i, (colT l i).length = 16 ∧ W32 (colT l i)
 | 0 => h
 | i + 1 => ⟨by rw [colT, qr_len]; exact (colT_ok h i).1, qr_32 (colT_ok h i).2 _ _ _ _⟩
theorem diaT_ok {l : List Nat} (h : l.length = 16 ∧ W32 l) : ∀ i, (diaT l i).length = 16 ∧ W32 (diaT l i)
 | 0 => h
 | i + 1 => ⟨by rw [diaT, qr_len]; exact (diaT_ok h i).1, qr_32 (diaT_ok h i).2 _ _ _ _⟩
theorem dblT_ok {l : List Nat} (h : l.length = 16 ∧ W32 l) : ∀ i, (dblT l i).length = 16 ∧ W32 (dblT l i)
 | 0 => h
 | i + 1 => diaT_ok (colT_ok (dblT_ok h i) 4) 4
def blkL (k c n : Nat) : List Nat := List.zipWith (fun a b => (a + b) % 4294967296) (dblT (begL k c n) 10) (begL k c n)
def blkB (k c n j : Nat) : Nat := (blkL k c n).getD (j / 4) 0 / 256 ^ (j % 4) % 256
def blkT (k c n : Nat) : Nat → Nat
 | 0 => 0
 | j + 1 => blkT k c n j + 256 ^ j * blkB k c n j
theorem blkB_lt (k c n j : Nat) : blkB k c n j < 256 := Nat.mod_lt _ zDc
theorem blkT_lt (k c n : Nat) : ∀ j, blkT k c n j < 256 ^ j
 | 0 => Nat.zero_lt_one
 | j + 1 => by
  have h1 := blkT_lt k c n j
  have h2 := blkB_lt k c n j
  rw [blkT, Nat.pow_succ]
  have : 256 ^ j * blkB k c n j ≤ 256 ^ j * 255 := Nat.mul_le_mul_left _ zOm
  omega
theorem bytn_snoc {K m j v : Nat} (hm : m < 256 ^ j) (hv : v < 256) : (bytn K m).set j (.int .u8 (v : Int)) = bytn K (m + 256 ^ j * v) := by
 apply List.ext_getElem?
 intro i
 have hp : 0 < 256 ^ j := Nat.pow_pos zDc
 by_cases hi : i < K
 · rw [List.getElem?_set, bytn_get _ _ _ hi]
   by_cases e : j = i
   · subst e
     rw [if_pos rfl, if_pos (by rw [bytn_len]; exact hi), bytn_get _ _ _ hi, Nat.add_mul_div_left _ _ hp, Nat.div_eq_of_lt hm, Nat.zero_add, Nat.mod_eq_of_lt hv]
   · rw [if_neg e, bytn_get _ _ _ hi]
     congr 3
     by_cases h : i < j
     · have e2 : 256 ^ j = 256 ^ i * (256 * 256 ^ (j - i - 1)) := by rw [← Nat.mul_assoc, ← Nat.pow_succ, ← Nat.pow_add, show i + 1 + (j - i - 1) = j by omega]
       rw [e2, Nat.mul_assoc, Nat.add_mul_div_left _ _ (Nat.pow_pos zDc), Nat.mul_assoc, Nat.add_mul_mod_self_left]
     · have h3 : 256 ^ (j + 1) ≤ 256 ^ i := Nat.pow_le_pow_right zDc zOm
       have h4 : 256 ^ j * v ≤ 256 ^ j * 255 := Nat.mul_le_mul_left _ zOm
       rw [Nat.pow_succ] at h3
       rw [Nat.div_eq_of_lt zOm, Nat.div_eq_of_lt zOm]
 · rw [List.getElem?_eq_none (by rw [List.length_set, bytn_len]; omega), List.getElem?_eq_none (by rw [bytn_len]; omega)]
end Go.Proofs.YtncnlfpiondpnaaGreat
