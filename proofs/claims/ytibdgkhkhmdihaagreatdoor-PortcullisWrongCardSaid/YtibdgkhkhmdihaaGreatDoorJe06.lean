/- PortcullisWrong: part 6 of its proof: lemmas and contracts, each with its conditions in its own statement; the last part holds the law itself. -/
import Derived.Test.YtibdgkhkhmdihaaGreatDoorJe05
import Derived.Laws.Bits64
import Derived.StillTailTactics
import Derived.WalkSpells
import Derived.WalkKit
import Derived.Deep.CutRange
import Derived.Deep.CutBlock
import Derived.RegionTactic
import Derived.ScopeJumps
import Derived.WalkLawsBesides
import Derived.Deep.LoopGhost

set_option maxHeartbeats 4000000
set_option maxRecDepth 100000
namespace Go.Proofs.YtibdgkhkhmdihaaGreatDoor
open Go.RowKit
theorem bit_at (n k : Nat) : n / 18446744073709551616 ^ (k / 64) % 18446744073709551616 / 2 ^ (k % 64) % 2 = n / 2 ^ k % 2 := by
 have e : (2 : Nat) ^ k = 18446744073709551616 ^ (k / 64) * 2 ^ (k % 64) := by
  rw [show (18446744073709551616 : Nat) = 2 ^ 64 by decide, ← Nat.pow_mul, ← Nat.pow_add]
  congr 1; omega
 rw [e, ← Nat.div_div_eq_div_mul]
 generalize n / 18446744073709551616 ^ (k / 64) = m
 have e2 : (18446744073709551616 : Nat) = 2 ^ (k % 64) * 2 ^ (64 - k % 64) := by
  rw [← Nat.pow_add, show k % 64 + (64 - k % 64) = 64 by omega]
 conv => lhs; rw [e2]
 rw [Nat.mod_mul_right_div_self, Nat.mod_mod_of_dvd]
 exact ⟨2 ^ (63 - k % 64), by rw [← Nat.pow_succ']; congr 1; omega⟩
theorem limBit_any (n k : Nat) (hk : k < 256) (w : World) :
 Calls Tryz.prog 123 #[.agg (lims 4 n).toArray, .int .i64 k] w fun e w' => e = .returned (.int .u64 (n / 2 ^ k % 2 : Nat)) ∧ Below w.heap.size w w' := by
 have hq0 : (0 : Int) ≤ (k : Int) / 64 := by omega
 have hq1 : (k : Int) / 64 < 4 := by omega
 obtain ⟨x, hx⟩ : ∃ x, n / 18446744073709551616 ^ (k / 64) % 18446744073709551616 = x := ⟨_, rfl⟩
 have hx' := zH hx
 have hc := lims_get 4 n (k / 64) zOm
 rw [hx] at hc
 clear hx
 go_enter Tryz.func123, Tryz.ntmps123
 go_upto_region 1 with fail
 refine wp_new1 (fun W hsz h1 hb0 => ?_)
 have hc1 := h1.cell hc
 go_wp2_with fail
 go_ret
 refine ⟨?_, hb0⟩
 have e := bits_and_u64_nat (x / 2 ^ (k % 64)) 1 (by have := Nat.div_le_self x (2 ^ (k % 64)); have := hx'.out; omega) zDc
 rw [Nat.and_one_is_mod] at e
 have e2 := bit_at n k
 rw [hx'.out] at e2
 rw [e2] at e
 have e3 : ((x / 2 ^ (k % 64) : Nat) : Int) = (x : Int) / 2 ^ (k % 64) := by simp
 rw [e3] at e
 have e4 : bits BinOp.and IntKind.u64 ((x : Int) / 2 ^ (k % 64)) 1 = ((n / 2 ^ k % 2 : Nat) : Int) := e
 simp [e4]
def pickN (s a b : Nat) : Nat := if s = 1 then b else a
def mixl {α : Type} (k : Nat) (xs ys : List α) : List α := xs.take k ++ ys.drop k
theorem mixl_len {α : Type} {k : Nat} {xs ys : List α} (h : xs.length = ys.length) : (mixl k xs ys).length = ys.length := by
 simp only [mixl, List.length_append, List.length_take, List.length_drop]; omega
theorem mixl_zero {α : Type} (xs ys : List α) : mixl 0 xs ys = ys := by simp [mixl]
theorem mixl_all {α : Type} {xs ys : List α} (h : xs.length = ys.length) : mixl ys.length xs ys = xs := by simp [mixl, ← h]
theorem mixl_get {α : Type} {k j : Nat} {xs ys : List α} (h : xs.length = ys.length) (hj : j < ys.length) : (mixl k xs ys)[j]? = if j < k then xs[j]? else ys[j]? := by
 unfold mixl
 by_cases e : j < k
 · rw [if_pos e, List.getElem?_append_left (by simp; omega), List.getElem?_take, if_pos e]
 · rw [if_neg e, List.getElem?_append_right (by simp; omega), List.getElem?_drop]
   congr 1
   simp only [List.length_take]
   omega
theorem mixl_set {α : Type} {k : Nat} {xs ys : List α} {u : α} (h : xs.length = ys.length) (hu : xs[k]? = some u) : (mixl k xs ys).set k u = mixl (k + 1) xs ys := by
 have hk : k < xs.length := (List.getElem?_eq_some_iff.1 hu).1
 apply List.ext_getElem?
 intro j
 by_cases hj : j < ys.length
 · rw [List.getElem?_set, mixl_get h hj, mixl_get h hj, mixl_len h]
   by_cases e : k = j
   · subst e; rw [if_pos rfl, if_pos hj, if_pos zOm, hu]
   · rw [if_neg e]
     by_cases h2 : j < k
     · rw [if_pos h2, if_pos zOm]
     · rw [if_neg h2, if_neg zOm]
 · rw [List.getElem?_eq_none (by rw [List.length_set, mixl_len h]; omega), List.getElem?_eq_none (by rw [mixl_len h]; omega)]
theorem pick_mask (s : Nat) (hs : s ≤ 1) : IntKind.u64.wrap (-bits BinOp.and IntKind.u64 (s : Int) 1) = ((if s = 1 then 18446744073709551615 else 0 : Nat) : Int) := by
 have h : s = 0 ∨ s = 1 := by omega
 rcases h with rfl | rfl <;> decide
theorem pick_bits (x y s : Nat) (hx : x < 18446744073709551616) (hy : y < 18446744073709551616) :
 bits .xor .u64 (x : Int) (bits .and .u64 ((if s = 1 then 18446744073709551615 else 0 : Nat) : Int) (bits .xor .u64 (x : Int) (y : Int))) = ((if s = 1 then y else x : Nat) : Int) := by
 have hxy : x ^^^ y < 2 ^ 64 := Nat.xor_lt_two_pow zOm zOm
 have hxy' : x ^^^ y < 18446744073709551616 := by omega
 rw [bits_xor_u64_nat x y hx hy, bits_and_u64_nat _ _ (by split <;> omega) hxy']
 by_cases h : s = 1
 · rw [if_pos h, if_pos h, show (18446744073709551615 : Nat) = 2 ^ 64 - 1 by decide, Nat.and_comm, Nat.and_two_pow_sub_one_eq_mod, Nat.mod_eq_of_lt hxy, bits_xor_u64_nat _ _ hx hxy', ← Nat.xor_assoc, Nat.xor_self, Nat.zero_xor]
 · rw [if_neg h, if_neg h, Nat.zero_and, bits_xor_u64_nat _ _ hx zDc, Nat.xor_zero]
theorem limPick_any (a b s : Nat) (hs : s ≤ 1) (w : World) :
 Calls Tryz.prog 201 #[.agg (lims 4 a).toArray, .agg (lims 4 b).toArray, .int .u64 s] w fun e w' => e = .returned (.agg (lims 4 (pickN s a b)).toArray) ∧ Below w.heap.size w w' := by
 go_enter Tryz.func201, Tryz.ntmps201
 go_upto_region 1 with fail
 refine wp_new3 (fun W hsz h1 h2 h3 hb0 => ?_)
 go_wp2_with fail
 rw [pick_mask s hs]
 obtain ⟨m, hm⟩ : ∃ m : Nat, (if s = 1 then 18446744073709551615 else 0) = m := ⟨_, rfl⟩
 rw [hm]
 have hpb := fun x y hx hy => pick_bits x y s hx hy
 rw [hm] at hpb
 obtain ⟨r, hr⟩ : ∃ r, pickN s a b = r := ⟨_, rfl⟩
 have hll : (lims 4 r).length = (lims 4 a).length := by rw [lims_len, lims_len]
 have hr' := zH hr
 have hll' := zH hll
 clear hm hr hll
 go_loopw [12] (fun kv wr => ∃ k : Nat, k ≤ 4 ∧ kv = .int .i64 k ∧ Arr wr w.heap.size (mixl k (lims 4 r) (lims 4 a)) ∧ Arr wr (w.heap.size + 1) (lims 4 b) ∧ Arr wr (w.heap.size + 1 + 1) (lims 4 0) ∧ Below w.heap.size w wr) (fun kv _ => 4 - (intOf kv).toNat)
 case atStart => exact ⟨0, Nat.zero_le _, rfl, by rw [mixl_zero]; exact h1, h2, h3, hb0⟩
 case round =>
  obtain ⟨k, hk, rfl, k1, k2, k3, kb⟩ := hrel
  clear h1 h2 h3 hb0 hsz
  by_cases hlt : k < 4
  · obtain ⟨x, hx⟩ : ∃ x, a / 18446744073709551616 ^ k % 18446744073709551616 = x := ⟨_, rfl⟩
    obtain ⟨y, hy⟩ : ∃ y, b / 18446744073709551616 ^ k % 18446744073709551616 = y := ⟨_, rfl⟩
    have hxl : x < 18446744073709551616 := by rw [← hx]; exact Nat.mod_lt _ zDc
    have hyl : y < 18446744073709551616 := by rw [← hy]; exact Nat.mod_lt _ zDc
    have ha := k1.cell (j := k) (u := .int .u64 x) (by rw [mixl_get hll'.out (by rw [lims_len]; exact hlt), if_neg zOm, lims_get _ _ _ hlt, hx])
    have hbb := k2.cell (lims_get 4 b k hlt)
    rw [hy] at hbb
    have hfr := k1.frozen k
    have hx' := zH hx
    have hy' := zH hy
    clear hx hy
    have ik0 : (0 : Int) ≤ (k : Int) := by omega
    have ik4 : (k : Int) < 4 := by omega
    go_wp2_with fail
    go_still_tail 14, zKr
    change wpList _ _ _ _ _ wr.drew
    have ha2 : wr.drew.cell? ⟨w.heap.size, k, none⟩ = some (.int .u64 (x : Int)) := ha
    have hf2 : wr.drew.frozen? ⟨w.heap.size, k, none⟩ = false := hfr
    go_wp2_with fail
    refine ⟨⟨k + 1, by omega, by go_num, ?_, k2.other (by simp) _, k3.other (by simp; omega) _, (kb.setCell (by simp) _).drew⟩, by simp [intOf]; omega⟩
    have := k1.set k (.int .u64 ((if s = 1 then y else x : Nat) : Int))
    rw [mixl_set hll'.out (by rw [lims_get _ _ _ hlt, ← hr'.out, ← hx'.out, ← hy'.out]; unfold pickN; split <;> rfl)] at this
    exact this
  · obtain rfl : k = 4 := by omega
    have e := mixl_all hll'.out
    rw [lims_len] at e
    rw [e] at k1
    clear e
    go_wp2_with (first | (refine wpList_load_arr rfl 127 _ rfl w.heap.size rfl _ Tryz.underlying127 rfl _ k1 (by rw [lims_len]; kernel_rfl) ?_) | (refine wpList_store_arr rfl 127 _ _ rfl (w.heap.size + 1 + 1) (lims 4 r) rfl rfl _ k3 (by rw [lims_len]; kernel_rfl) (by rw [lims_len, lims_len]) (lims_one _ _) ?_))
    refine bodyPost_ret (v := .agg (lims 4 r).toArray) (results_arr Tryz.results201 _ _ (w.heap.size + 1 + 1) _ rfl Tryz.underlying127 rfl _ (k3.setRow _) (by rw [lims_len]; kernel_rfl)) rfl ⟨by rw [hr'.out], below_setRow kb zOm _⟩
theorem val_append (b : Nat) : ∀ (xs ys : List Nat), val b (xs ++ ys) = val b xs + b ^ xs.length * val b ys
 | [], ys => by simp [val]
 | x :: xs, ys => by
  rw [List.cons_append, val, val, val_append b xs ys, List.length_cons, Nat.pow_succ, Nat.mul_comm (b ^ xs.length) b, Nat.mul_add, Nat.mul_assoc]
  omega
def bytn (k n : Nat) : List Value := (digs 256 k n).map fun (x : Nat) => .int .u8 (x : Int)
theorem bytn_len (k n : Nat) : (bytn k n).length = k := by simp [bytn, digs_len]
theorem bytn_get (k n i : Nat) (h : i < k) : (bytn k n)[i]? = some (.int .u8 ((n / 256 ^ i % 256 : Nat) : Int)) := by simp [bytn, digs_get _ _ _ _ h]
theorem bytn_one (k n : Nat) : ∀ v ∈ bytn k n, v.oneCell' = true := by
 intro v hv
 simp only [bytn, List.mem_map] at hv
 obtain ⟨x, -, rfl⟩ := hv
 rfl
theorem bytn_u8s (k a : Nat) : bytn k a = u8s ((digs 256 k a).map UInt8.ofNat) := by
 simp only [bytn, u8s, List.map_map]
 apply List.map_congr_left
 intro x hx
 have := digs_lt 256 k a zDc x hx
 simp
 omega
def ens (t : List Nat) : List Value := t.map fun (x : Nat) => .int .i64 (x : Int)
theorem ens_len (t : List Nat) : (ens t).length = t.length := by simp [ens]
theorem ens_one (t : List Nat) : ∀ v ∈ ens t, v.oneCell' = true := by
 intro v hv
 simp only [ens, List.mem_map] at hv
 obtain ⟨x, -, rfl⟩ := hv
 rfl
def Le (B : Nat) (t : List Nat) : Prop := ∀ m, t.getD m 0 ≤ B
theorem Le.mono {A B : Nat} {t : List Nat} (h : Le A t) (hAB : A ≤ B) : Le B t := fun m => Nat.le_trans (h m) hAB
def w4 (b0 b1 b2 b3 : Nat) : Nat := b0 + 256 * b1 + 65536 * b2 + 16777216 * b3
theorem w4_lt {b0 b1 b2 b3 : Nat} (h0 : b0 < 256) (h1 : b1 < 256) (h2 : b2 < 256) (h3 : b3 < 256) : w4 b0 b1 b2 b3 < 4294967296 := by unfold w4; omega
theorem or_add {x y k : Nat} (hx : x < 2 ^ k) : x ||| (2 ^ k * y) = x + 2 ^ k * y := by
 rw [Nat.or_comm, ← Nat.two_pow_add_eq_or_of_lt hx, Nat.add_comm]
theorem word_any {g o n c : Nat} {b0 b1 b2 b3 : Nat} (w : World) (h0 : b0 < 256) (h1 : b1 < 256) (h2 : b2 < 256) (h3 : b3 < 256) (hn : 4 ≤ n)
 (c0 : w.cell? ⟨g, o, none⟩ = some (.int .u8 (b0 : Int))) (c1 : w.cell? ⟨g, o + 1, none⟩ = some (.int .u8 (b1 : Int))) (c2 : w.cell? ⟨g, o + 2, none⟩ = some (.int .u8 (b2 : Int))) (c3 : w.cell? ⟨g, o + 3, none⟩ = some (.int .u8 (b3 : Int))) :
 Calls Tryz.prog 311 #[.slice (some ⟨g, o, none⟩) n c] w fun e w' => e = .returned (.int .u32 ((w4 b0 b1 b2 b3 : Nat) : Int)) ∧ Below w.heap.size w w' := by
 have n0 : 0 < n := by omega
 have m1 : 1 < n := by omega
 have m2 : 2 < n := by omega
 have m3 : 3 < n := by omega
 have n1 : (1 : Int) < (n : Int) := by omega
 have n2 : (2 : Int) < (n : Int) := by omega
 have n3 : (3 : Int) < (n : Int) := by omega
 have e1 : bits .or .u32 (b0 : Int) (IntKind.u32.wrap ((b1 : Int) * 256)) = ((b0 + 256 * b1 : Nat) : Int) := by
  rw [show ((b1 : Int) * 256) = ((2 ^ 8 * b1 : Nat) : Int) by omega, u32_in zOm, or_u32 zOm zOm, or_add (k := 8) zOm]
 have e2 : bits .or .u32 ((b0 + 256 * b1 : Nat) : Int) (IntKind.u32.wrap ((b2 : Int) * 65536)) = ((b0 + 256 * b1 + 65536 * b2 : Nat) : Int) := by
  rw [show ((b2 : Int) * 65536) = ((2 ^ 16 * b2 : Nat) : Int) by omega, u32_in zOm, or_u32 zOm zOm, or_add (k := 16) zOm]
 have e3 : bits .or .u32 ((b0 + 256 * b1 + 65536 * b2 : Nat) : Int) (IntKind.u32.wrap ((b3 : Int) * 16777216)) = ((w4 b0 b1 b2 b3 : Nat) : Int) := by
  rw [show ((b3 : Int) * 16777216) = ((2 ^ 24 * b3 : Nat) : Int) by omega, u32_in zOm, or_u32 zOm zOm, or_add (k := 24) zOm]
  rfl
 have u0 : IntKind.u32.wrap (b0 : Int) = (b0 : Int) := u32_in zOm
 have u1 : IntKind.u32.wrap (b1 : Int) = (b1 : Int) := u32_in zOm
 have u2 : IntKind.u32.wrap (b2 : Int) = (b2 : Int) := u32_in zOm
 have u3 : IntKind.u32.wrap (b3 : Int) = (b3 : Int) := u32_in zOm
 obtain ⟨r1, hr1⟩ : ∃ r, b0 + 256 * b1 = r := ⟨_, rfl⟩
 rw [hr1] at e1 e2 e3
 obtain ⟨r2, hr2⟩ : ∃ r, r1 + 65536 * b2 = r := ⟨_, rfl⟩
 rw [hr2] at e2 e3
 obtain ⟨r3, hr3⟩ : ∃ r, w4 b0 b1 b2 b3 = r := ⟨_, rfl⟩
 rw [hr3] at e3 ⊢
 clear hr1 hr2 hr3
 go_enter Tryz.func311, Tryz.ntmps311
 go_upto_region 1 with fail
 refine Tx.start (fun w' => Below (w).heap.size (w) w') 9999 23 rfl zKr ?_
 have hS_1 : Below (w).heap.size (w) (World.drew w) := (Below.refl _ _).drew
 refine Tx.seg (A := ?_) 0 8388607 zKr (by exact hS_1) [0, 1, 2, 3, 4, 5, 6, 7, 8, 9, 10, 11, 12, 13, 14, 15, 16, 17, 18, 19, 20, 21, 22] zKr ?_ ?_
 rotate_left
 · intro w' hB
   have d0 : w'.cell? ⟨g, o, none⟩ = some (.int .u8 (b0 : Int)) := by rw [hB.cell (p := ⟨g, o, none⟩) (World.block_lt_of_cell? _ _ c0)]; exact c0
   have d1 : w'.cell? ⟨g, o + 1, none⟩ = some (.int .u8 (b1 : Int)) := by rw [hB.cell (p := ⟨g, o + 1, none⟩) (World.block_lt_of_cell? _ _ c1)]; exact c1
   have d2 : w'.cell? ⟨g, o + 2, none⟩ = some (.int .u8 (b2 : Int)) := by rw [hB.cell (p := ⟨g, o + 2, none⟩) (World.block_lt_of_cell? _ _ c2)]; exact c2
   have d3 : w'.cell? ⟨g, o + 3, none⟩ = some (.int .u8 (b3 : Int)) := by rw [hB.cell (p := ⟨g, o + 3, none⟩) (World.block_lt_of_cell? _ _ c3)]; exact c3
   exact zRd
 refine Tx.done zKr ?_
 go_wp2_with fail
 go_ret
 exact ⟨rfl, hS_1⟩
def kw (k i : Nat) : Nat := w4 (k / 256 ^ (4 * i) % 256) (k / 256 ^ (4 * i + 1) % 256) (k / 256 ^ (4 * i + 2) % 256) (k / 256 ^ (4 * i + 3) % 256)
theorem kw_lt (k i : Nat) : kw k i < 4294967296 := w4_lt (Nat.mod_lt _ zDc) (Nat.mod_lt _ zDc) (Nat.mod_lt _ zDc) (Nat.mod_lt _ zDc)
def stK (k : Nat) : Nat → List Nat
 | 0 => [1634760805, 857760878, 2036477234, 1797285236, 0, 0, 0, 0, 0, 0, 0, 0, 0, 0, 0, 0]
 | i + 1 => (stK k i).set (4 + i) (kw k i)
def stN (l : List Nat) (n : Nat) : Nat → List Nat
 | 0 => l
 | i + 1 => (stN l n i).set (13 + i) (kw n i)
def begL (k c n : Nat) : List Nat := stN ((stK k 8).set 12 c) n 3
theorem stK_len (k : Nat) : ∀ i, (stK k i).length = 16
 | 0 => rfl
 | i + 1 => by rw [stK, List.length_set, stK_len k i]
theorem stN_len {l : List Nat} (hl : l.length = 16) (n : Nat) : ∀ i, (stN l n i).length = 16
 | 0 => hl
 | i + 1 => by rw [stN, List.length_set, stN_len hl n i]
theorem stK_32 (k : Nat) : ∀ i, W32 (stK k i)
 | 0 => by intro x hx; simp only [stK, List.mem_cons, List.not_mem_nil, or_false] at hx; omega
 | i + 1 => (stK_32 k i).set _ (kw_lt _ _)
theorem stN_32 {l : List Nat} (hl : W32 l) (n : Nat) : ∀ i, W32 (stN l n i)
 | 0 => hl
 | i + 1 => (stN_32 hl n i).set _ (kw_lt _ _)
theorem begL_len (k c n : Nat) : (begL k c n).length = 16 := stN_len (by rw [List.length_set, stK_len]) n 3
theorem begL_32 (k n : Nat) {c : Nat} (hc : c < 4294967296) : W32 (begL k c n) := stN_32 ((stK_32 k 8).set 12 hc) n 3
def colT (l : List Nat) : Nat → List Nat
 | 0 => l
 | i + 1 => qr (colT l i) i (4 + i) (8 + i) (12 + i)
def diaT (l : List Nat) : Nat → List Nat
 | 0 => l
 | i + 1 => qr (diaT l i) i (4 + (i + 1) % 4) (8 + (i + 2) % 4) (12 + (i + 3) % 4)
def dblT (l : List Nat) : Nat → List Nat
 | 0 => l
 | i + 1 => diaT (colT (dblT l i) 4) 4
theorem colT_ok {l : List Nat} (h : l.length = 16 ∧ W32 l) : ∀ i, (colT l i).length = 16 ∧ W32 (colT l i)
 | 0 => h
 | i + 1 => ⟨by rw [colT, qr_len]; exact (colT_ok h i).1, qr_32 (colT_ok h i).2 _ _ _ _⟩
theorem diaT_ok {l : List Nat} (h : l.length = 16 ∧ W32 l) : ∀ i, (diaT l i).length = 16 ∧ W32 (diaT l i)
 | 0 => h
 | i + 1 => ⟨by rw [diaT, qr_len]; exact (diaT_ok h i).1, qr_32 (diaT_ok h i).2 _ _ _ _⟩
theorem dblT_ok {l : List Nat} (h : l.length = 16 ∧ W32 l) : ∀ i, (dblT l i).length = 16 ∧ W32 (dblT l i)
 | 0 => h
 | i + 1 => diaT_ok (colT_ok (dblT_ok h i) 4) 4
def blkL (k c n : Nat) : List Nat := List.zipWith (fun a b => (a + b) % 4294967296) (dblT (begL k c n) 10) (begL k c n)
def blkB (k c n j : Nat) : Nat := (blkL k c n).getD (j / 4) 0 / 256 ^ (j % 4) % 256
def blkT (k c n : Nat) : Nat → Nat
 | 0 => 0
 | j + 1 => blkT k c n j + 256 ^ j * blkB k c n j
theorem blkB_lt (k c n j : Nat) : blkB k c n j < 256 := Nat.mod_lt _ zDc
theorem blkT_lt (k c n : Nat) : ∀ j, blkT k c n j < 256 ^ j
 | 0 => Nat.zero_lt_one
 | j + 1 => by
  have h1 := blkT_lt k c n j
  have h2 := blkB_lt k c n j
  rw [blkT, Nat.pow_succ]
  have : 256 ^ j * blkB k c n j ≤ 256 ^ j * 255 := Nat.mul_le_mul_left _ zOm
  omega
theorem bytn_snoc {K m j v : Nat} (hm : m < 256 ^ j) (hv : v < 256) : (bytn K m).set j (.int .u8 (v : Int)) = bytn K (m + 256 ^ j * v) := by
 apply List.ext_getElem?
 intro i
 have hp : 0 < 256 ^ j := Nat.pow_pos zDc
 by_cases hi : i < K
 · rw [List.getElem?_set, bytn_get _ _ _ hi]
   by_cases e : j = i
   · subst e
     rw [if_pos rfl, if_pos (by rw [bytn_len]; exact hi), bytn_get _ _ _ hi, Nat.add_mul_div_left _ _ hp, Nat.div_eq_of_lt hm, Nat.zero_add, Nat.mod_eq_of_lt hv]
   · rw [if_neg e, bytn_get _ _ _ hi]
     congr 3
     by_cases h : i < j
     · have e2 : 256 ^ j = 256 ^ i * (256 * 256 ^ (j - i - 1)) := by rw [← Nat.mul_assoc, ← Nat.pow_succ, ← Nat.pow_add, show i + 1 + (j - i - 1) = j by omega]
       rw [e2, Nat.mul_assoc, Nat.add_mul_div_left _ _ (Nat.pow_pos zDc), Nat.mul_assoc, Nat.add_mul_mod_self_left]
     · have h3 : 256 ^ (j + 1) ≤ 256 ^ i := Nat.pow_le_pow_right zDc zOm
       have h4 : 256 ^ j * v ≤ 256 ^ j * 255 := Nat.mul_le_mul_left _ zOm
       rw [Nat.pow_succ] at h3
       rw [Nat.div_eq_of_lt zOm, Nat.div_eq_of_lt zOm]
 · rw [List.getElem?_eq_none (by rw [List.length_set, bytn_len]; omega), List.getElem?_eq_none (by rw [bytn_len]; omega)]
theorem four_of {w : World} {g K k i : Nat} (h : Arr w g (bytn K k)) (hi : 4 * i + 3 < K) :
 w.cell? ⟨g, 4 * i, none⟩ = some (.int .u8 ((k / 256 ^ (4 * i) % 256 : Nat) : Int)) ∧ w.cell? ⟨g, 4 * i + 1, none⟩ = some (.int .u8 ((k / 256 ^ (4 * i + 1) % 256 : Nat) : Int)) ∧
 w.cell? ⟨g, 4 * i + 2, none⟩ = some (.int .u8 ((k / 256 ^ (4 * i + 2) % 256 : Nat) : Int)) ∧ w.cell? ⟨g, 4 * i + 3, none⟩ = some (.int .u8 ((k / 256 ^ (4 * i + 3) % 256 : Nat) : Int)) :=
 ⟨h.cell (bytn_get _ _ _ zOm), h.cell (bytn_get _ _ _ zOm), h.cell (bytn_get _ _ _ zOm), h.cell (bytn_get _ _ _ zOm)⟩
theorem word_of {w : World} {g K k i n c : Nat} (h : Arr w g (bytn K k)) (hi : 4 * i + 3 < K) (hn : 4 ≤ n) :
 Calls Tryz.prog 311 #[.slice (some ⟨g, 4 * i, none⟩) n c] w fun e w' => e = .returned (.int .u32 ((kw k i : Nat) : Int)) ∧ Below w.heap.size w w' := by
 obtain ⟨c0, c1, c2, c3⟩ := four_of h hi
 exact word_any w (Nat.mod_lt _ zDc) (Nat.mod_lt _ zDc) (Nat.mod_lt _ zDc) (Nat.mod_lt _ zDc) hn c0 c1 c2 c3
theorem cbegin_any (k n c : Nat) (w : World) :
 Calls Tryz.prog 284 #[.agg (bytn 32 k).toArray, .int .u32 (c : Int), .agg (bytn 12 n).toArray] w fun e w' => e = .returned (.agg (ws (begL k c n)).toArray) ∧ Below w.heap.size w w' := by
 go_enter Tryz.func284, Tryz.ntmps284
 go_upto_region 1 with fail
 refine wp_new3 (fun W hsz k3 k5 k6 kb => ?_)
 have k3 : Arr W w.heap.size (bytn 32 k) := k3
 have k5 : Arr W (w.heap.size + 1) (bytn 12 n) := k5
 have k6 : Arr W (w.heap.size + 1 + 1) (List.replicate 16 (.int .u32 0)) := k6
 clear hsz
 go_upto_region 2 with fail
 refine wp_new1 (fun w4 hsz k7 hb => ?_)
 replace k7 : Arr w4 W.heap.size (ws (stK k 0)) := k7
 have h3 := k3.lt
 have h5 := k5.lt
 have h6 := k6.lt
 replace k3 := k3.below hb
 replace k5 := k5.below hb
 replace k6 := k6.below hb
 replace kb := bel kb hb
 obtain ⟨g7, hg7⟩ : ∃ g, W.heap.size = g := ⟨_, rfl⟩
 rw [hg7] at k7 h3 h5 h6 ⊢
 clear hb hsz hg7
 obtain ⟨g3, hg3⟩ : ∃ g, w.heap.size = g := ⟨_, rfl⟩
 rw [hg3] at k3 k5 k6 h3 h5 h6 ⊢
 replace hg3 := zH hg3
 go_wp2_with fail
 go_loopw [11] (fun iv wr => ∃ i : Nat, i ≤ 8 ∧ iv = .int .i64 i ∧ Arr wr g3 (bytn 32 k) ∧ Arr wr (g3 + 1) (bytn 12 n) ∧ Arr wr (g3 + 1 + 1) (List.replicate 16 (.int .u32 0)) ∧ Arr wr g7 (ws (stK k i)) ∧ Below w.heap.size w wr) (fun iv _ => 8 - (intOf iv).toNat)
 case atStart => exact ⟨0, by omega, rfl, k3, k5, k6, k7, kb⟩
 case round =>
  clear k3 k5 k6 k7 kb
  obtain ⟨i, hi, rfl, k3, k5, k6, k7, kb⟩ := hrel
  have hi0 : (0 : Int) ≤ (i : Int) := by omega
  by_cases hin : i < 8
  · have hi1 : (i : Int) < 8 := by omega
    obtain ⟨j, hj⟩ : ∃ j, 4 * i = j := ⟨_, rfl⟩
    obtain ⟨m, hm⟩ : ∃ m, 4 + i = m := ⟨_, rfl⟩
    have e4 : 4 * (i : Int) = (j : Int) := by omega
    have em : 4 + (i : Int) = (m : Int) := by omega
    have hj0 : (0 : Int) ≤ (j : Int) := by omega
    have hj1 : (j : Int) ≤ 32 := by omega
    have hj2 : ¬ 32 = j := by omega
    have hm0 : (0 : Int) ≤ (m : Int) := by omega
    have hm1 : (m : Int) < 16 := by omega
    replace hj := zH hj
    replace hm := zH hm
    go_wp2_with fail
    refine (show Calls Tryz.prog 311 #[.slice (some ⟨g3, j, none⟩) (32 - j) (32 - j)] wr fun e w' => e = .returned (.int .u32 ((kw k i : Nat) : Int)) ∧ Below wr.heap.size wr w' from by rw [← hj.out]; exact word_of k3 zOm zOm).mono ?_
    rintro e w5 ⟨rfl, hb⟩
    replace k3 := k3.below hb
    replace k5 := k5.below hb
    replace k6 := k6.below hb
    replace k7 := k7.below hb
    replace kb := bel kb hb
    clear hb
    obtain ⟨x, hx⟩ : ∃ x, kw k i = x := ⟨_, rfl⟩
    rw [hx]
    have hset : Hid ((ws (stK k i)).set m (.int .u32 (x : Int)) = ws (stK k (i + 1))) := zH (by rw [ws_set, ← hx, ← hm.out]; rfl)
    clear hx
    have hlen := zH (stK_len k i)
    go_wp2_with (refine wpl_cellG rfl _ _ _ rfl g7 m (.int .u32 (x : Int)) rfl rfl _ k7 zKr (by rw [ws_len, hlen.out]; omega) rfl (fun w6 k7 hg hsz => ?_))
    rw [hset.out] at k7
    have q3 := k3.kept hg zOm
    have q5 := k5.kept hg zOm
    have q6 := k6.kept hg zOm
    have qb := below_gr kb hg (by rw [hg3.out]; omega) kb.size
    go_wp2_with fail
    exact ⟨⟨i + 1, by omega, by go_num, q3, q5, q6, k7, qb⟩, by simp [intOf]; omega⟩
  · obtain rfl : i = 8 := by omega
    have hset : Hid ((ws (stK k 8)).set 12 (.int .u32 (c : Int)) = ws (stN ((stK k 8).set 12 c) n 0)) := zH (by rw [ws_set]; rfl)
    have hlen := zH (stK_len k 8)
    go_upto_region 8 with (refine wpl_cellG rfl _ _ _ rfl g7 12 (.int .u32 (c : Int)) rfl rfl _ k7 zKr (by rw [ws_len, hlen.out]; omega) rfl (fun w6 k7 hg hsz => ?_))
    rw [hset.out] at k7
    replace k3 := k3.kept hg zOm
    replace k5 := k5.kept hg zOm
    replace k6 := k6.kept hg zOm
    replace kb := below_gr kb hg (by rw [hg3.out]; omega) kb.size
    have hl0 : Hid (((stK k 8).set 12 c).length = 16) := zH (by rw [List.length_set]; exact stK_len k 8)
    obtain ⟨l0, hl⟩ : ∃ l, (stK k 8).set 12 c = l := ⟨_, rfl⟩
    rw [hl] at k7 hl0
    replace hl := zH hl
    clear hg hsz hset hlen hin hi hi0
    go_wp2_with fail
    go_loopw [24] (fun iv wr => ∃ i : Nat, i ≤ 3 ∧ iv = .int .i64 i ∧ Arr wr (g3 + 1) (bytn 12 n) ∧ Arr wr (g3 + 1 + 1) (List.replicate 16 (.int .u32 0)) ∧ Arr wr g7 (ws (stN l0 n i)) ∧ Below w.heap.size w wr) (fun iv _ => 3 - (intOf iv).toNat)
    case atStart => exact ⟨0, by omega, rfl, k5, k6, k7, kb⟩
    case round =>
     clear k3 k5 k6 k7 kb
     obtain ⟨i, hi, rfl, k5, k6, k7, kb⟩ := hrel
     have hi0 : (0 : Int) ≤ (i : Int) := by omega
     by_cases hin : i < 3
     · have hi1 : (i : Int) < 3 := by omega
       obtain ⟨j, hj⟩ : ∃ j, 4 * i = j := ⟨_, rfl⟩
       obtain ⟨m, hm⟩ : ∃ m, 13 + i = m := ⟨_, rfl⟩
       have e4 : 4 * (i : Int) = (j : Int) := by omega
       have em : 13 + (i : Int) = (m : Int) := by omega
       have hj0 : (0 : Int) ≤ (j : Int) := by omega
       have hj1 : (j : Int) ≤ 12 := by omega
       have hj2 : ¬ 12 = j := by omega
       have hm0 : (0 : Int) ≤ (m : Int) := by omega
       have hm1 : (m : Int) < 16 := by omega
       replace hj := zH hj
       replace hm := zH hm
       go_wp2_with fail
       refine (show Calls Tryz.prog 311 #[.slice (some ⟨g3 + 1, j, none⟩) (12 - j) (12 - j)] wr fun e w' => e = .returned (.int .u32 ((kw n i : Nat) : Int)) ∧ Below wr.heap.size wr w' from by rw [← hj.out]; exact word_of k5 zOm zOm).mono ?_
       rintro e w5 ⟨rfl, hb⟩
       replace k5 := k5.below hb
       replace k6 := k6.below hb
       replace k7 := k7.below hb
       replace kb := bel kb hb
       clear hb
       obtain ⟨x, hx⟩ : ∃ x, kw n i = x := ⟨_, rfl⟩
       rw [hx]
       have hset : Hid ((ws (stN l0 n i)).set m (.int .u32 (x : Int)) = ws (stN l0 n (i + 1))) := zH (by rw [ws_set, ← hx, ← hm.out]; rfl)
       clear hx
       have hlen := zH (stN_len hl0.out n i)
       go_wp2_with (refine wpl_cellG rfl _ _ _ rfl g7 m (.int .u32 (x : Int)) rfl rfl _ k7 zKr (by rw [ws_len, hlen.out]; omega) rfl (fun w6 k7 hg hsz => ?_))
       rw [hset.out] at k7
       have q5 := k5.kept hg zOm
       have q6 := k6.kept hg zOm
       have qb := below_gr kb hg (by rw [hg3.out]; omega) kb.size
       go_wp2_with fail
       exact ⟨⟨i + 1, by omega, by go_num, q5, q6, k7, qb⟩, by simp [intOf]; omega⟩
     · obtain rfl : i = 3 := by omega
       have hres : Hid (stN l0 n 3 = begL k c n) := zH (by rw [← hl.out]; rfl)
       rw [hres.out] at k7
       have hlen := zH (begL_len k c n)
       go_wp2_with (first | (refine wpList_load_arr2 rfl _ _ rfl _ rfl zDk _ k7 (by rw [ws_len, hlen.out]; kernel_rfl) ?_) | (refine wpl_storeG rfl _ _ _ rfl _ (ws (begL k c n)) rfl rfl _ k6 (by rw [ws_len, hlen.out]; kernel_rfl) (by rw [ws_len, hlen.out]; rfl) (ws_one _) (fun w7 k6 hg hsz => ?_)))
       have qb := below_gr kb hg (by rw [hg3.out]; omega) kb.size
       exact bodyPost_ret (results_arr2 Tryz.results284 _ _ _ rfl zKr _ k6 (by rw [ws_len, hlen.out]; kernel_rfl)) rfl ⟨rfl, qb⟩
theorem u8_mod (a : Nat) : IntKind.u8.wrap (a : Int) = ((a % 256 : Nat) : Int) := by
 simp [IntKind.wrap, IntKind.bits, IntKind.signed]
theorem zip_get {A B : List Nat} {q : Nat} (ha : q < A.length) (hb : q < B.length) : (List.zipWith (fun a b => (a + b) % 4294967296) A B).getD q 0 = (A.getD q 0 + B.getD q 0) % 4294967296 := by
 rw [List.getD_eq_getElem?_getD, List.getElem?_zipWith]
 simp [ha, hb]
theorem blk_set {k c n j z e : Nat} {f : Int} (hb : blkB k c n j = z / 256 ^ (j % 4) % 256) (he : j % 4 = e) (hf : f = ((z / 256 ^ e : Nat) : Int)) :
 (bytn 64 (blkT k c n j)).set j (.int .u8 (IntKind.u8.wrap f)) = bytn 64 (blkT k c n (j + 1)) := by
 rw [hf, u8_mod, bytn_snoc (blkT_lt k c n j) (Nat.mod_lt _ zDc), blkT, hb, he]
theorem below_fresh {w w' : World} {o : Obj} (hg : (w.alloc o).grownBy w' (some w.heap.size)) : Below w.heap.size w w' :=
 below_gr (below_alloc w o) hg (Nat.le_refl _) (by simp)
theorem cblock_any (k n c : Nat) (hc : c < 4294967296) (w : World) :
 Calls Tryz.prog 241 #[.agg (bytn 32 k).toArray, .int .i64 (c : Int), .agg (bytn 12 n).toArray] w fun e w' => e = .returned (.agg (bytn 64 (blkT k c n 64)).toArray) ∧ Below w.heap.size w w' := by
 have uc := u32_in hc
 go_enter Tryz.func241, Tryz.ntmps241
 go_upto_region 1 with fail
 refine wp_new3 (fun W hsz k3 k5 k6 kb => ?_)
 have k3 : Arr W w.heap.size (bytn 32 k) := k3
 have k5 : Arr W (w.heap.size + 1) (bytn 12 n) := k5
 have k6 : Arr W (w.heap.size + 1 + 1) (bytn 64 0) := k6
 clear hsz
 go_wp2_with (first | (refine wpList_load_arr2 rfl _ _ rfl _ rfl zDk _ k3 (by rw [bytn_len]; kernel_rfl) ?_) | (refine wpList_load_arr2 rfl _ _ rfl _ rfl zDk _ k5 (by rw [bytn_len]; kernel_rfl) ?_))
 refine (cbegin_any k n c _).mono ?_
 rintro e w1 ⟨rfl, hb⟩
 replace k3 := k3.below hb
 replace k5 := k5.below hb
 replace k6 := k6.below hb
 replace kb := bel kb hb
 clear hb
 have hs : Hid ((begL k c n).length = 16 ∧ W32 (begL k c n)) := zH ⟨begL_len k c n, begL_32 k n hc⟩
 obtain ⟨s, hse⟩ : ∃ s, begL k c n = s := ⟨_, rfl⟩
 rw [hse] at hs ⊢
 replace hse := zH hse
 go_upto_region 2 with (refine wpl_storeG rfl _ _ _ rfl _ (ws s) rfl rfl _ (Arr.new _ _ _) (by rw [ws_len, hs.out.1]; kernel_rfl) (by rw [ws_len, hs.out.1]; rfl) (ws_one _) (fun w2 k7 hg hsz => ?_))
 have hb := below_fresh hg
 have h37 := k3.lt
 have h57 := k5.lt
 have h67 := k6.lt
 replace k3 := k3.below hb
 replace k5 := k5.below hb
 replace k6 := k6.below hb
 replace kb := bel kb hb
 obtain ⟨g7, hg7⟩ : ∃ g, w1.heap.size = g := ⟨_, rfl⟩
 rw [hg7] at k7 h37 h57 h67 ⊢
 clear hb hsz hg7 hg
 go_upto_region 3 with (first | (refine wpList_load_arr2 rfl _ _ rfl _ rfl zDk _ k7 (by rw [ws_len, hs.out.1]; kernel_rfl) ?_) | (refine wpl_storeG rfl _ _ _ rfl _ (ws s) rfl rfl _ (Arr.new _ _ _) (by rw [ws_len, hs.out.1]; kernel_rfl) (by rw [ws_len, hs.out.1]; rfl) (ws_one _) (fun w3 k8 hg hsz => ?_)))
 have hb := below_fresh hg
 have h78 := k7.lt
 replace k6 := k6.below hb
 replace k7 := k7.below hb
 replace kb := bel kb hb
 obtain ⟨g8, hg8⟩ : ∃ g, w2.heap.size = g := ⟨_, rfl⟩
 rw [hg8] at k8 h78 ⊢
 clear hb hsz hg8 hg k3 k5 h37 h57
 obtain ⟨g6, hg6⟩ : ∃ g, w.heap.size + 1 + 1 = g := ⟨_, rfl⟩
 rw [hg6] at k6 h67 ⊢
 have hw6 : w.heap.size < g6 := by omega
 clear hg6
 go_wp2_with fail
 go_loopw [19] (fun iv wr => ∃ r : Nat, r ≤ 10 ∧ iv = .int .i64 r ∧ Arr wr g6 (bytn 64 0) ∧ Arr wr g7 (ws s) ∧ Arr wr g8 (ws (dblT s r)) ∧ Below w.heap.size w wr) (fun iv _ => 10 - (intOf iv).toNat)
 case atStart => exact ⟨0, by omega, rfl, k6, k7, k8, kb⟩
 case round =>
  clear k6 k7 k8 kb
  obtain ⟨r, hr, rfl, k6, k7, k8, kb⟩ := hrel
  have hr0 : (0 : Int) ≤ (r : Int) := by omega
  by_cases hrn : r < 10
  · have hr1 : (r : Int) < 10 := by omega
    have ok0 := zH (dblT_ok hs.out r)
    obtain ⟨t, ht⟩ : ∃ t, dblT s r = t := ⟨_, rfl⟩
    rw [ht] at ok0 k8
    replace ht := zH ht
    go_wp2_with fail
    go_loopw [21] (fun iv wr => ∃ i : Nat, i ≤ 4 ∧ iv = .int .i64 i ∧ Arr wr g6 (bytn 64 0) ∧ Arr wr g7 (ws s) ∧ Arr wr g8 (ws (colT t i)) ∧ Below w.heap.size w wr) (fun iv _ => 4 - (intOf iv).toNat)
    case atStart => exact ⟨0, by omega, rfl, k6, k7, k8, kb⟩
    case round =>
     clear k6 k7 k8 kb
     obtain ⟨i, hi, rfl, k6, k7, k8, kb⟩ := hrel
     have hi0 : (0 : Int) ≤ (i : Int) := by omega
     by_cases hin : i < 4
     · have hi1 : (i : Int) < 4 := by omega
       have ok1 := zH (colT_ok ok0.out i)
       obtain ⟨b, hb⟩ : ∃ b, 4 + i = b := ⟨_, rfl⟩
       obtain ⟨d, hd⟩ : ∃ d, 8 + i = d := ⟨_, rfl⟩
       obtain ⟨f, hf⟩ : ∃ f, 12 + i = f := ⟨_, rfl⟩
       have eb : 4 + (i : Int) = (b : Int) := by omega
       have ed : 8 + (i : Int) = (d : Int) := by omega
       have ef : 12 + (i : Int) = (f : Int) := by omega
       have hst : Hid (qr (colT t i) i b d f = colT t (i + 1)) := zH (by rw [← hb, ← hd, ← hf]; rfl)
       have lb : b < 16 := by omega
       have ld : d < 16 := by omega
       have lf : f < 16 := by omega
       replace hb := zH hb
       replace hd := zH hd
       replace hf := zH hf
       go_wp2_with fail
       refine (quarter_any (g := g8) (a := i) (b := b) (c := d) (d := f) _ ok1.out.1 ok1.out.2 zOm lb ld lf k8).mono ?_
       rintro e w9 ⟨rfl, k8, hg⟩
       rw [hst.out] at k8
       replace k6 := k6.kept hg zOm
       replace k7 := k7.kept hg zOm
       replace kb := below_gr kb hg zOm kb.size
       go_wp2_with fail
       exact ⟨⟨i + 1, by omega, by go_num, k6, k7, k8, kb⟩, by simp [intOf]; omega⟩
     · have dj : decide ((i : Int) < 4) = false := decide_eq_false zOm
       have hie : Hid (i = 4) := zH zOm
       rw [hie.out] at k8
       have ok1 := zH (colT_ok ok0.out 4)
       obtain ⟨u, hu⟩ : ∃ u, colT t 4 = u := ⟨_, rfl⟩
       rw [hu] at ok1 k8
       replace hu := zH hu
       clear hi hin hi0
       obtain ⟨ic, hic⟩ : ∃ ic : Int, (i : Int) = ic := ⟨_, rfl⟩
       rw [hic] at dj ⊢
       clear hic
       go_wp2_with fail
       clear dj
       go_loopw [33] (fun iv wr => ∃ i : Nat, i ≤ 4 ∧ iv = .int .i64 i ∧ Arr wr g6 (bytn 64 0) ∧ Arr wr g7 (ws s) ∧ Arr wr g8 (ws (diaT u i)) ∧ Below w.heap.size w wr) (fun iv _ => 4 - (intOf iv).toNat)
       case atStart => exact ⟨0, by omega, rfl, k6, k7, k8, kb⟩
       case round =>
        clear k6 k7 k8 kb
        obtain ⟨i, hi, rfl, k6, k7, k8, kb⟩ := hrel
        by_cases hin : i < 4
        · have hi0 : (0 : Int) ≤ (i : Int) := by omega
          have hi1 : (i : Int) < 4 := by omega
          have ok2 := zH (diaT_ok ok1.out i)
          obtain ⟨p, hp⟩ : ∃ p, (i + 1) % 4 = p := ⟨_, rfl⟩
          obtain ⟨q, hq⟩ : ∃ q, (i + 2) % 4 = q := ⟨_, rfl⟩
          obtain ⟨x, hx⟩ : ∃ x, (i + 3) % 4 = x := ⟨_, rfl⟩
          have m1 : Int.tmod ((i : Int) + 1) 4 = (p : Int) := by rw [Int.tmod_eq_emod_of_nonneg zOm]; omega
          have m2 : Int.tmod ((i : Int) + 2) 4 = (q : Int) := by rw [Int.tmod_eq_emod_of_nonneg zOm]; omega
          have m3 : Int.tmod ((i : Int) + 3) 4 = (x : Int) := by rw [Int.tmod_eq_emod_of_nonneg zOm]; omega
          have n1 : IntKind.i64.wrap (p : Int) = (p : Int) := i64_in zOm
          have n2 : IntKind.i64.wrap (q : Int) = (q : Int) := i64_in zOm
          have n3 : IntKind.i64.wrap (x : Int) = (x : Int) := i64_in zOm
          obtain ⟨b, hb⟩ : ∃ b, 4 + p = b := ⟨_, rfl⟩
          obtain ⟨d, hd⟩ : ∃ d, 8 + q = d := ⟨_, rfl⟩
          obtain ⟨f, hf⟩ : ∃ f, 12 + x = f := ⟨_, rfl⟩
          have eb : 4 + (p : Int) = (b : Int) := by omega
          have ed : 8 + (q : Int) = (d : Int) := by omega
          have ef : 12 + (x : Int) = (f : Int) := by omega
          have hst : Hid (qr (diaT u i) i b d f = diaT u (i + 1)) := zH (by rw [← hb, ← hd, ← hf, ← hp, ← hq, ← hx]; rfl)
          have lb : b < 16 := by omega
          have ld : d < 16 := by omega
          have lf : f < 16 := by omega
          replace hb := zH hb
          replace hd := zH hd
          replace hf := zH hf
          replace hp := zH hp
          replace hq := zH hq
          replace hx := zH hx
          go_wp2_with fail
          refine (quarter_any (g := g8) (a := i) (b := b) (c := d) (d := f) _ ok2.out.1 ok2.out.2 zOm lb ld lf k8).mono ?_
          rintro e w9 ⟨rfl, k8, hg⟩
          rw [hst.out] at k8
          replace k6 := k6.kept hg zOm
          replace k7 := k7.kept hg zOm
          replace kb := below_gr kb hg zOm kb.size
          go_wp2_with fail
          exact ⟨⟨i + 1, by omega, by go_num, k6, k7, k8, kb⟩, by simp [intOf]; omega⟩
        · have dj : decide ((i : Int) < 4) = false := decide_eq_false zOm
          have hie : Hid (i = 4) := zH zOm
          rw [hie.out] at k8
          have hst : Hid (diaT u 4 = dblT s (r + 1)) := zH (by rw [← hu.out, ← ht.out]; rfl)
          rw [hst.out] at k8
          clear hi hin
          go_wp2_with fail
          exact ⟨⟨r + 1, by omega, by go_num, k6, k7, k8, kb⟩, by simp [intOf]; omega⟩
  · have dj : decide ((r : Int) < 10) = false := decide_eq_false zOm
    have hie : Hid (r = 10) := zH zOm
    rw [hie.out] at k8
    clear hr hrn hr0
    obtain ⟨ic, hic⟩ : ∃ ic : Int, (r : Int) = ic := ⟨_, rfl⟩
    rw [hic] at dj ⊢
    clear hic
    go_upto_region 17 with fail
    clear dj
    refine wp_new1 (fun w4 hsz k11 hb => ?_)
    replace k11 : Arr w4 wr.heap.size (bytn 64 0) := k11
    have h6l := k6.lt
    have h7l := k7.lt
    have h8l := k8.lt
    replace k6 := k6.below hb
    replace k7 := k7.below hb
    replace k8 := k8.below hb
    replace kb := bel kb hb
    obtain ⟨g11, hg11⟩ : ∃ g, wr.heap.size = g := ⟨_, rfl⟩
    rw [hg11] at k11 h6l h7l h8l ⊢
    clear hb hsz hg11
    obtain ⟨v, hv⟩ : ∃ v, dblT s 10 = v := ⟨_, rfl⟩
    have hvk := zH (show v.length = 16 ∧ W32 v by rw [← hv]; exact dblT_ok hs.out 10)
    rw [hv] at k8
    replace hv := zH hv
    go_wp2_with fail
    go_loopw [52] (fun iv wr => ∃ j : Nat, j ≤ 64 ∧ iv = .int .i64 j ∧ Arr wr g6 (bytn 64 0) ∧ Arr wr g7 (ws s) ∧ Arr wr g8 (ws v) ∧ Arr wr g11 (bytn 64 (blkT k c n j)) ∧ Below w.heap.size w wr) (fun iv _ => 64 - (intOf iv).toNat)
    case atStart => exact ⟨0, by omega, rfl, k6, k7, k8, k11, kb⟩
    case round =>
     clear k6 k7 k8 k11 kb
     obtain ⟨j, hj, rfl, k6, k7, k8, k11, kb⟩ := hrel
     have hj0 : (0 : Int) ≤ (j : Int) := by omega
     by_cases hjn : j < 64
     · have hj1 : (j : Int) < 64 := by omega
       obtain ⟨q, hq⟩ : ∃ q, j / 4 = q := ⟨_, rfl⟩
       have hq1 : q < 16 := by omega
       have fq : Int.tdiv (j : Int) 4 = (q : Int) := by rw [Int.tdiv_eq_ediv_of_nonneg hj0]; omega
       have fw : IntKind.i64.wrap (q : Int) = (q : Int) := i64_in zOm
       have hq2 : (0 : Int) ≤ (q : Int) := by omega
       have hq3 : (q : Int) < 16 := by omega
       have hcx := ws_get (l := v) (j := q) (by rw [hvk.out.1]; exact hq1)
       have hcy := ws_get (l := s) (j := q) (by rw [hs.out.1]; exact hq1)
       have lx := hvk.out.2.get q
       have ly := hs.out.2.get q
       obtain ⟨x, hx⟩ : ∃ x, v.getD q 0 = x := ⟨_, rfl⟩
       obtain ⟨y, hy⟩ : ∃ y, s.getD q 0 = y := ⟨_, rfl⟩
       rw [hx] at hcx lx
       rw [hy] at hcy ly
       obtain ⟨z, hz⟩ : ∃ z, (x + y) % 4294967296 = z := ⟨_, rfl⟩
       have fz : IntKind.u32.wrap ((x : Int) + (y : Int)) = (z : Int) := by rw [show ((x : Int) + (y : Int)) = ((x + y : Nat) : Int) by omega, u32_mod, hz]
       have hbl : Hid (blkB k c n j = z / 256 ^ (j % 4) % 256) := zH (by rw [blkB, blkL, hq, hse.out, hv.out, zip_get (by rw [hvk.out.1]; exact hq1) (by rw [hs.out.1]; exact hq1), hx, hy, hz])
       replace hcx := zH hcx
       replace hcy := zH hcy
       have he4 : j % 4 = 0 ∨ j % 4 = 1 ∨ j % 4 = 2 ∨ j % 4 = 3 := by omega
       rcases he4 with he | he | he | he
       · have ft : Int.tmod (j : Int) 4 = 0 := by rw [Int.tmod_eq_emod_of_nonneg hj0]; omega
         replace he := zH he
         have fs : IntKind.i64.wrap 0 = 0 := by decide
         have hset : Hid ((bytn 64 (blkT k c n j)).set j (.int .u8 (IntKind.u8.wrap (z : Int))) = bytn 64 (blkT k c n (j + 1))) := zH (blk_set (e := 0) hbl.out he.out zOm)
         go_upto_region 20 with fail
         obtain ⟨wq, rfl⟩ : ∃ wq : World, wq = wr := ⟨_, rfl⟩
         refine Tx.start (fun w' => Below (wq).heap.size (wq) w') 16 17 rfl zKr ?_
         have hS_1 : Below (wq).heap.size (wq) (World.drew wq) := (Below.refl _ _).drew
         refine Tx.seg2 (A := ?_) 1 65535 zKr (by exact hS_1) [0, 1, 2, 3, 4, 5, 6, 7, 8, 9, 10, 11, 12, 13, 14, 15] zKr ?_ ?_
         rotate_left
         · intro w' hB
           have e1 := (k8.below hB).cell hcx.out
           have e2 := (k7.below hB).cell hcy.out
           exact zRd
         refine Tx.bar 131071 rfl zDk (fun K hK => ?_)
         replace k6 := k6.below hS_1
         replace k7 := k7.below hS_1
         replace k8 := k8.below hS_1
         replace k11 := k11.below hS_1
         replace kb := bel kb hS_1
         clear hS_1
         refine step_cellG rfl _ _ _ rfl g11 j (.int .u8 (IntKind.u8.wrap (z : Int))) rfl rfl _ k11 zKr (by rw [bytn_len]; omega) rfl (fun w5 k11 hg hsz => ?_)
         rw [hset.out] at k11
         replace k6 := k6.kept hg zOm
         replace k7 := k7.kept hg zOm
         replace k8 := k8.kept hg zOm
         replace kb := below_gr kb hg zOm kb.size
         refine hK (fun _ => True) 9999 _ _ ?_
         clear hK K
         try simp only [Act.put]
         try simp only [zSa, zSz, zSs]
         refine Tx.done zKr ?_
         go_wp2_with fail
         exact ⟨⟨j + 1, by omega, by go_num, k6, k7, k8, k11, kb⟩, by simp [intOf]; omega⟩
       · have ft : Int.tmod (j : Int) 4 = 1 := by rw [Int.tmod_eq_emod_of_nonneg hj0]; omega
         replace he := zH he
         have fs : IntKind.i64.wrap 8 = 8 := by decide
         have hset : Hid ((bytn 64 (blkT k c n j)).set j (.int .u8 (IntKind.u8.wrap ((z : Int) / 256))) = bytn 64 (blkT k c n (j + 1))) := zH (blk_set (e := 1) hbl.out he.out zOm)
         go_upto_region 20 with fail
         obtain ⟨wq, rfl⟩ : ∃ wq : World, wq = wr := ⟨_, rfl⟩
         refine Tx.start (fun w' => Below (wq).heap.size (wq) w') 16 17 rfl zKr ?_
         have hS_2 : Below (wq).heap.size (wq) (World.drew wq) := (Below.refl _ _).drew
         refine Tx.seg2 (A := ?_) 1 65535 zKr (by exact hS_2) [0, 1, 2, 3, 4, 5, 6, 7, 8, 9, 10, 11, 12, 13, 14, 15] zKr ?_ ?_
         rotate_left
         · intro w' hB
           have e1 := (k8.below hB).cell hcx.out
           have e2 := (k7.below hB).cell hcy.out
           exact zRd
         refine Tx.bar 131071 rfl zDk (fun K hK => ?_)
         replace k6 := k6.below hS_2
         replace k7 := k7.below hS_2
         replace k8 := k8.below hS_2
         replace k11 := k11.below hS_2
         replace kb := bel kb hS_2
         clear hS_2
         refine step_cellG rfl _ _ _ rfl g11 j (.int .u8 (IntKind.u8.wrap ((z : Int) / 256))) rfl rfl _ k11 zKr (by rw [bytn_len]; omega) rfl (fun w5 k11 hg hsz => ?_)
         rw [hset.out] at k11
         replace k6 := k6.kept hg zOm
         replace k7 := k7.kept hg zOm
         replace k8 := k8.kept hg zOm
         replace kb := below_gr kb hg zOm kb.size
         refine hK (fun _ => True) 9999 _ _ ?_
         clear hK K
         try simp only [Act.put]
         try simp only [zSa, zSz, zSs]
         refine Tx.done zKr ?_
         go_wp2_with fail
         exact ⟨⟨j + 1, by omega, by go_num, k6, k7, k8, k11, kb⟩, by simp [intOf]; omega⟩
       · have ft : Int.tmod (j : Int) 4 = 2 := by rw [Int.tmod_eq_emod_of_nonneg hj0]; omega
         replace he := zH he
         have fs : IntKind.i64.wrap 16 = 16 := by decide
         have hset : Hid ((bytn 64 (blkT k c n j)).set j (.int .u8 (IntKind.u8.wrap ((z : Int) / 65536))) = bytn 64 (blkT k c n (j + 1))) := zH (blk_set (e := 2) hbl.out he.out zOm)
         go_upto_region 20 with fail
         obtain ⟨wq, rfl⟩ : ∃ wq : World, wq = wr := ⟨_, rfl⟩
         refine Tx.start (fun w' => Below (wq).heap.size (wq) w') 16 17 rfl zKr ?_
         have hS_3 : Below (wq).heap.size (wq) (World.drew wq) := (Below.refl _ _).drew
         refine Tx.seg2 (A := ?_) 1 65535 zKr (by exact hS_3) [0, 1, 2, 3, 4, 5, 6, 7, 8, 9, 10, 11, 12, 13, 14, 15] zKr ?_ ?_
         rotate_left
         · intro w' hB
           have e1 := (k8.below hB).cell hcx.out
           have e2 := (k7.below hB).cell hcy.out
           exact zRd
         refine Tx.bar 131071 rfl zDk (fun K hK => ?_)
         replace k6 := k6.below hS_3
         replace k7 := k7.below hS_3
         replace k8 := k8.below hS_3
         replace k11 := k11.below hS_3
         replace kb := bel kb hS_3
         clear hS_3
         refine step_cellG rfl _ _ _ rfl g11 j (.int .u8 (IntKind.u8.wrap ((z : Int) / 65536))) rfl rfl _ k11 zKr (by rw [bytn_len]; omega) rfl (fun w5 k11 hg hsz => ?_)
         rw [hset.out] at k11
         replace k6 := k6.kept hg zOm
         replace k7 := k7.kept hg zOm
         replace k8 := k8.kept hg zOm
         replace kb := below_gr kb hg zOm kb.size
         refine hK (fun _ => True) 9999 _ _ ?_
         clear hK K
         try simp only [Act.put]
         try simp only [zSa, zSz, zSs]
         refine Tx.done zKr ?_
         go_wp2_with fail
         exact ⟨⟨j + 1, by omega, by go_num, k6, k7, k8, k11, kb⟩, by simp [intOf]; omega⟩
       · have ft : Int.tmod (j : Int) 4 = 3 := by rw [Int.tmod_eq_emod_of_nonneg hj0]; omega
         replace he := zH he
         have fs : IntKind.i64.wrap 24 = 24 := by decide
         have hset : Hid ((bytn 64 (blkT k c n j)).set j (.int .u8 (IntKind.u8.wrap ((z : Int) / 16777216))) = bytn 64 (blkT k c n (j + 1))) := zH (blk_set (e := 3) hbl.out he.out zOm)
         go_upto_region 20 with fail
         obtain ⟨wq, rfl⟩ : ∃ wq : World, wq = wr := ⟨_, rfl⟩
         refine Tx.start (fun w' => Below (wq).heap.size (wq) w') 16 17 rfl zKr ?_
         have hS_4 : Below (wq).heap.size (wq) (World.drew wq) := (Below.refl _ _).drew
         refine Tx.seg2 (A := ?_) 1 65535 zKr (by exact hS_4) [0, 1, 2, 3, 4, 5, 6, 7, 8, 9, 10, 11, 12, 13, 14, 15] zKr ?_ ?_
         rotate_left
         · intro w' hB
           have e1 := (k8.below hB).cell hcx.out
           have e2 := (k7.below hB).cell hcy.out
           exact zRd
         refine Tx.bar 131071 rfl zDk (fun K hK => ?_)
         replace k6 := k6.below hS_4
         replace k7 := k7.below hS_4
         replace k8 := k8.below hS_4
         replace k11 := k11.below hS_4
         replace kb := bel kb hS_4
         clear hS_4
         refine step_cellG rfl _ _ _ rfl g11 j (.int .u8 (IntKind.u8.wrap ((z : Int) / 16777216))) rfl rfl _ k11 zKr (by rw [bytn_len]; omega) rfl (fun w5 k11 hg hsz => ?_)
         rw [hset.out] at k11
         replace k6 := k6.kept hg zOm
         replace k7 := k7.kept hg zOm
         replace k8 := k8.kept hg zOm
         replace kb := below_gr kb hg zOm kb.size
         refine hK (fun _ => True) 9999 _ _ ?_
         clear hK K
         try simp only [Act.put]
         try simp only [zSa, zSz, zSs]
         refine Tx.done zKr ?_
         go_wp2_with fail
         exact ⟨⟨j + 1, by omega, by go_num, k6, k7, k8, k11, kb⟩, by simp [intOf]; omega⟩
     · have dj : decide ((j : Int) < 64) = false := decide_eq_false zOm
       have hie : Hid (j = 64) := zH zOm
       rw [hie.out] at k11
       go_wp2_with (first | (refine wpList_load_arr2 rfl _ _ rfl _ rfl zDk _ k11 (by rw [bytn_len]; kernel_rfl) ?_) | (refine wpl_storeG rfl _ _ _ rfl _ (bytn 64 (blkT k c n 64)) rfl rfl _ k6 (by rw [bytn_len]; kernel_rfl) (by rw [bytn_len, bytn_len]) (bytn_one _ _) (fun w7 k6 hg hsz => ?_)))
       have qb := below_gr kb hg zOm kb.size
       exact bodyPost_ret (results_arr2 Tryz.results241 _ _ _ rfl zKr _ k6 (by rw [bytn_len]; kernel_rfl)) rfl ⟨rfl, qb⟩
def be8 (n : Int) : List UInt8 := (List.range 8).map fun i => UInt8.ofNat ((n % 18446744073709551616).toNat / 2 ^ (8 * (7 - i)) % 256)
def be8s (ns : List Int) : List UInt8 := ns.flatMap be8
theorem be8_len (n : Int) : (be8 n).length = 8 := by simp [be8]
theorem wrap_u64_mod (n : Int) : IntKind.u64.wrap n = n % 18446744073709551616 := IntKind.wrap_u64 n
theorem be8_at (n : Int) (k : Nat) (hk : k < 8) : ∃ c : UInt8, (be8 n).take (k + 1) = (be8 n).take k ++ [c] ∧ IntKind.u64.wrap n / 2 ^ (8 * (7 - k)) % 256 = (c.toNat : Int) := by
 have hl : k < (be8 n).length := by rw [be8_len]; exact hk
 refine ⟨(be8 n)[k], ?_, ?_⟩
 · rw [List.take_add_one, List.getElem?_eq_getElem hl]; rfl
 · rw [wrap_u64_mod]
   simp only [be8, List.getElem_map, List.getElem_range]
   have h0 : 0 ≤ n % 18446744073709551616 := by omega
   obtain ⟨m, hm⟩ := Int.eq_ofNat_of_zero_le h0
   rw [hm]
   have e : (UInt8.ofNat ((m : Int).toNat / 2 ^ (8 * (7 - k)) % 256)).toNat = m / 2 ^ (8 * (7 - k)) % 256 := by
    simp
   rw [e]
   simp
theorem be8s_at (ns : List Int) (j : Nat) (h : j < ns.length) : be8s (ns.take (j + 1)) = be8s (ns.take j) ++ be8 ns[j] := by
 unfold be8s
 rw [List.take_add_one, List.getElem?_eq_getElem h, List.flatMap_append]
 simp only [Option.toList, List.flatMap_cons, List.flatMap_nil, List.append_nil]
theorem be8s_len (ns : List Int) : (be8s ns).length = 8 * ns.length := by
 induction ns with
 | nil => rfl
 | cons n ns ih => simp only [be8s, List.flatMap_cons, List.length_append, be8_len, List.length_cons] at *; omega
theorem packInt_sl (vb : Value) (bs : List UInt8) (an : Option Addr) (cn : Nat) (ns : List Int) (w : World) (hb : Sl w vb (u8s bs)) (hn : Sl w (.slice an ns.length cn) (ns.map (.int .i64)))
 (hr : bs.length + 8 * ns.length ≤ 140737488355328) :
 Calls Tryz.prog 21 #[vb, .slice an ns.length cn] w fun e w' =>
  ∃ v, e = .returned v ∧ w'.ownsRow w.heap.size 5 1 v (bs ++ be8s ns).length (u8s (bs ++ be8s ns)) ∧ Below w.heap.size w w' := by
 obtain ⟨i, hi, hz0, hz1, hz2⟩ := info_parts info_u8
 have hn' := zH hn
 clear hn
 go_enter Tryz.func21, Tryz.ntmps21
 go_wp2_with fail
 refine (clone_any vb bs w hb zOm).mono ?_
 rintro e w1 ⟨v1, rfl, hown, hbel, -⟩
 clear hb
 go_wp2_with fail
 go_loopw [5, 14] (fun v i wr => ∃ j : Nat, j ≤ ns.length ∧ i = .int .i64 j ∧ Below w.heap.size w wr ∧ wr.ownsRow w.heap.size 5 1 v (bs ++ be8s (ns.take j)).length (u8s (bs ++ be8s (ns.take j)))) (fun _ i _ => ns.length - (intOf i).toNat)
 case atStart => exact ⟨0, Nat.zero_le _, rfl, hbel, by simpa [be8s] using hown⟩
 case round =>
  obtain ⟨j, hj, rfl, hbr, hor⟩ := hrel
  clear hbel hown
  by_cases hlt : j < ns.length
  · obtain ⟨b, o, rfl, -, -, hcap, hcs⟩ := (hn'.out.below hbr).at (by simp; omega)
    have hcell := hcs j (.int .i64 ns[j]) (by simp [List.getElem?_eq_getElem hlt])
    clear hcs
    obtain ⟨wo, rfl⟩ : ∃ wo : World, wo = wr := ⟨_, rfl⟩
    have hlen : ns.length ≤ 9223372036854775807 := by omega
    go_wp2_with fail
    go_loopw [5, 9] (fun v kv wr => ∃ k : Nat, k ≤ 8 ∧ kv = .int .i64 (7 - (k : Int)) ∧ Below w.heap.size w wr ∧ wr.ownsRow w.heap.size 5 1 v (bs ++ be8s (ns.take j) ++ (be8 ns[j]).take k).length (u8s (bs ++ be8s (ns.take j) ++ (be8 ns[j]).take k))) (fun _ kv _ => (intOf kv + 1).toNat)
    case atStart => exact ⟨0, Nat.zero_le _, rfl, hbr, by simpa using hor⟩
    case round =>
     obtain ⟨k, hk, rfl, hbi, hoi⟩ := hrel
     clear hbr hor hcell
     by_cases hk8 : k < 8
     · have h1 : (0 : Int) ≤ 7 - (k : Int) := by omega
       obtain ⟨c, hc1, hc2⟩ := be8_at ns[j] k hk8
       have hc2' := zH hc2
       have hc1' := zH hc1
       clear hc1 hc2
       have hbig : (bs ++ be8s (ns.take j) ++ (be8 ns[j]).take k).length + 1 ≤ 140737488355328 := by
        simp only [List.length_append, be8s_len, List.length_take, be8_len]; omega
       have hbig' := zH hbig
       clear hbig
       have hsz : w.heap.size ≤ wr.heap.size := hbi.size
       go_wp2_with (at_builtin; refine wpList_append_own _ rfl _ _ 26 rfl w.heap.size 5 i (.int .u8 0) 1 1 Tryz.underlying26 hi hz0 hz1 hz2 rfl zDc _ _ _ rfl (hoi.alloc _) ⟨wr.heap.size, 0, none⟩ 1 1 [_] rfl rfl (cells_new wr _ _) ?c1 ?c2 ?c3 ?c4 ?_)
       case c1 => intro u hu; simp at hu; subst hu; rfl
       case c2 => have := hbig'.out; unfold maxLen; omega
       case c3 => have := hbig'.out; omega
       case c4 => simp; omega
       intro v' w2 hown2 hg2 _
       have hb2 := below_grown1 hbi hoi hsz hg2
       rw [hc2'.out] at hown2
       clear hoi hg2 hbi
       go_wp2
       go_roundw
       case rel =>
        refine ⟨k + 1, by omega, by simp; omega, hb2, ?_⟩
        rw [hc1'.out, ← List.append_assoc]
        simpa [u8s, Nat.add_assoc] using hown2
       case measure => simp [intOf]; omega
     · have hk : k = 8 := by omega
       subst hk
       have hf : (be8 ns[j]).take 8 = be8 ns[j] := List.take_of_length_le (by rw [be8_len]; exact Nat.le_refl _)
       rw [hf] at hoi
       clear hf
       go_wp2
       go_roundw
       case rel => exact ⟨j + 1, by omega, by go_num, hbi, by rw [be8s_at ns j hlt, ← List.append_assoc]; exact hoi⟩
       case measure => simp [intOf]; omega
  · have hj' : j = ns.length := by omega
    subst hj'
    rw [List.take_of_length_le (Nat.le_refl _)] at hor
    go_wp2
    go_ret
    exact ⟨_, rfl, hor, hbr⟩
theorem packInt_any (vb vn : Value) (bs : List UInt8) (ns : List Int) (w : World) (hb : Sl w vb (u8s bs)) (hn : Sl w vn (ns.map (.int .i64)))
 (hr : bs.length + 8 * ns.length ≤ 140737488355328) :
 Calls Tryz.prog 21 #[vb, vn] w fun e w' =>
  ∃ v, e = .returned v ∧ w'.ownsRow w.heap.size 5 1 v (bs ++ be8s ns).length (u8s (bs ++ be8s ns)) ∧ Below w.heap.size w w' := by
 obtain ⟨a, cap, rfl, h⟩ := id hn
 rw [List.length_map] at *
 exact packInt_sl vb bs a cap ns w hb hn hr
def p13 : Nat := 1361129467683753853853498429727072845819
theorem p13_pos : 0 < p13 := by decide
theorem p13_two : (2 : Nat) ^ 130 = p13 + 5 := by decide
def fold13 (n : Nat) : Nat := n % 2 ^ 130 + 5 * (n / 2 ^ 130)
theorem fold13_mod (n : Nat) : fold13 n % p13 = n % p13 := by
 conv => rhs; rw [← Nat.mod_add_div n (2 ^ 130), p13_two]
 unfold fold13
 rw [p13_two, Nat.add_mul, ← Nat.add_assoc, Nat.add_right_comm, Nat.add_mul_mod_self_left]
theorem fold13_le (n : Nat) : fold13 n ≤ n := by unfold fold13; omega
theorem fold13_lt {n K : Nat} (h : n < 2 ^ 130 * K) : fold13 n < 2 ^ 130 + 5 * K := by
 unfold fold13
 have := (Nat.div_lt_iff_lt_mul (show 0 < 2 ^ 130 by decide)).2 (by rw [Nat.mul_comm]; exact h)
 omega
theorem fold13_two {n : Nat} (h : n < 2 ^ 130 * 2 ^ 100) : fold13 (fold13 n) < 2 ^ 130 := by
 have h1 := fold13_lt h
 have h2 : fold13 n < 2 ^ 130 * 2 := by omega
 unfold fold13 at *
 omega
theorem fold13_256 {n : Nat} (h : n < 2 ^ 256) : fold13 n < 2 ^ 131 := by
 have := fold13_lt (K := 2 ^ 126) (n := n) zOm
 omega
def blkV (bs : List UInt8) : Nat := val 256 (bs.map fun (x : UInt8) => x.toNat) + 256 ^ bs.length
def polyK (r : Nat) (L : List UInt8) : Nat → Nat
 | 0 => 0
 | k + 1 => (polyK r L k + blkV ((L.drop (16 * k)).take 16)) * r % p13
def polyT (r s : Nat) (L : List UInt8) : Nat := (polyK r L ((L.length + 15) / 16) + s) % 2 ^ 128
theorem polyK_append (r : Nat) (L M : List UInt8) : ∀ k, 16 * k ≤ L.length → polyK r (L ++ M) k = polyK r L k
 | 0, _ => rfl
 | k + 1, h => by
  rw [polyK, polyK, polyK_append r L M k zOm, List.drop_append_of_le_length zOm, List.take_append_of_le_length (by rw [List.length_drop]; omega)]
theorem polyK_lt (r : Nat) (L : List UInt8) : ∀ k, polyK r L k < p13
 | 0 => p13_pos
 | _ + 1 => Nat.mod_lt _ p13_pos
theorem val_map_lt (bs : List UInt8) : val 256 (bs.map fun (x : UInt8) => x.toNat) < 256 ^ bs.length := by
 have := val_lt 256 zDc (bs.map fun (x : UInt8) => x.toNat) (by intro x hx; simp only [List.mem_map] at hx; obtain ⟨y, -, rfl⟩ := hx; exact y.toNat_lt)
 simpa using this
theorem blkV_lt {bs : List UInt8} (h : bs.length ≤ 16) : blkV bs < 2 ^ 129 := by
 have h1 := val_map_lt bs
 have h2 : 256 ^ bs.length ≤ 256 ^ 16 := Nat.pow_le_pow_right zDc h
 unfold blkV
 omega
def PolySt (r : Nat) (L : List UInt8) (h : Nat) : Prop := h % p13 = polyK r L (L.length / 16) ∧ h < 2 ^ 131
def rest16 (L : List UInt8) : List UInt8 := L.drop (16 * (L.length / 16))
theorem rest16_len (L : List UInt8) : (rest16 L).length = L.length % 16 := by unfold rest16; rw [List.length_drop]; omega
theorem PolySt.nil (r : Nat) : PolySt r [] 0 := ⟨rfl, by decide⟩
theorem rest16_snoc (L : List UInt8) (x : UInt8) (h : L.length % 16 ≠ 15) : rest16 (L ++ [x]) = rest16 L ++ [x] := by
 unfold rest16
 rw [List.length_append, List.length_singleton, show (L.length + 1) / 16 = L.length / 16 by omega, List.drop_append_of_le_length zOm]
theorem PolySt.snoc {r h : Nat} {L : List UInt8} (hs : PolySt r L h) (x : UInt8) (h15 : L.length % 16 ≠ 15) : PolySt r (L ++ [x]) h := by
 unfold PolySt at *
 rw [List.length_append, List.length_singleton, show (L.length + 1) / 16 = L.length / 16 by omega, polyK_append r L [x] _ zOm]
 exact hs
theorem rest16_full (L : List UInt8) (x : UInt8) (h : L.length % 16 = 15) : rest16 (L ++ [x]) = [] := by
 unfold rest16
 apply List.drop_of_length_le
 rw [List.length_append, List.length_singleton]
 omega
theorem turn_mod {r h k b : Nat} (hk : h % p13 = k) : fold13 ((h + b) * r) % p13 = (k + b) * r % p13 := by
 rw [fold13_mod, ← hk, Nat.mul_mod (h % p13 + b), Nat.add_mod (h % p13), Nat.mod_mod, ← Nat.add_mod, ← Nat.mul_mod]
theorem turn_lt {r h b : Nat} (hh : h < 2 ^ 131) (hb : b < 2 ^ 129) (hr : r < 2 ^ 124) : (h + b) * r < 2 ^ 256 := by
 have h1 : h + b < 2 ^ 132 := by omega
 have := Nat.mul_lt_mul'' h1 hr
 rwa [← Nat.pow_add] at this
theorem PolySt.full {r h : Nat} {L : List UInt8} (hs : PolySt r L h) (hr : r < 2 ^ 124) (x : UInt8) (h15 : L.length % 16 = 15) : PolySt r (L ++ [x]) (fold13 ((h + blkV (rest16 L ++ [x])) * r)) := by
 obtain ⟨h1, h2⟩ := hs
 have hl : (rest16 L ++ [x]).length ≤ 16 := by rw [List.length_append, rest16_len, List.length_singleton]; omega
 refine ⟨?_, fold13_256 (turn_lt h2 (blkV_lt hl) hr)⟩
 rw [turn_mod h1, List.length_append, List.length_singleton, show (L.length + 1) / 16 = L.length / 16 + 1 by omega, polyK, polyK_append r L [x] _ zOm, List.drop_append_of_le_length zOm]
 rw [List.take_of_length_le (by rw [List.length_append, List.length_drop, List.length_singleton]; omega)]
 rfl
def lastH (r h : Nat) (L : List UInt8) : Nat := if L.length % 16 = 0 then h else fold13 ((h + blkV (rest16 L)) * r)
theorem PolySt.last {r h : Nat} {L : List UInt8} (hs : PolySt r L h) (hr : r < 2 ^ 124) : lastH r h L % p13 = polyK r L ((L.length + 15) / 16) ∧ lastH r h L < 2 ^ 131 := by
 obtain ⟨h1, h2⟩ := hs
 unfold lastH
 split
 · rename_i h0
   rw [show (L.length + 15) / 16 = L.length / 16 by omega]
   exact ⟨h1, h2⟩
 · rename_i h0
   have hl : (rest16 L).length ≤ 16 := by rw [rest16_len]; omega
   refine ⟨?_, fold13_256 (turn_lt h2 (blkV_lt hl) hr)⟩
   rw [turn_mod h1, show (L.length + 15) / 16 = L.length / 16 + 1 by omega, polyK]
   rw [List.take_of_length_le (by rw [List.length_drop]; omega)]
   rfl
theorem final13 {h k : Nat} (h1 : h % p13 = k) (h2 : h < 2 ^ 131) : ∃ w, fold13 (fold13 (fold13 h)) = w ∧ w < 2 ^ 130 ∧ (if w < p13 then w else w - p13) = k := by
 refine ⟨_, rfl, ?_, ?_⟩
 · have := fold13_two (n := fold13 h) (Nat.lt_of_le_of_lt (fold13_le h) (Nat.lt_trans h2 zDc))
   exact this
 · have h3 := fold13_two (n := fold13 h) (Nat.lt_of_le_of_lt (fold13_le h) (Nat.lt_trans h2 zDc))
   have h4 : fold13 (fold13 (fold13 h)) % p13 = k := by rw [fold13_mod, fold13_mod, fold13_mod, h1]
   generalize fold13 (fold13 (fold13 h)) = w at *
   have := p13_two
   split
   · rw [← h4, Nat.mod_eq_of_lt ‹_›]
   · rw [← h4, Nat.mod_eq_sub_mod zOm, Nat.mod_eq_of_lt zOm]
def polyR (K : Nat) : Nat := K % 2 ^ 128 &&& 0x0ffffffc0ffffffc0ffffffc0fffffff
theorem polyR_lt (K : Nat) : polyR K < 2 ^ 124 := by
 unfold polyR
 exact Nat.lt_of_le_of_lt Nat.and_le_right zDc
theorem land_add (n a b c d : Nat) (ha : a < 2 ^ n) (hc : c < 2 ^ n) : (a + 2 ^ n * b) &&& (c + 2 ^ n * d) = (a &&& c) + 2 ^ n * (b &&& d) := by
 have hac : a &&& c < 2 ^ n := Nat.lt_of_le_of_lt Nat.and_le_left ha
 apply Nat.eq_of_testBit_eq
 intro j
 rw [Nat.testBit_and, Nat.add_comm a, Nat.add_comm c, Nat.add_comm (a &&& c), Nat.testBit_two_pow_mul_add _ ha, Nat.testBit_two_pow_mul_add _ hc, Nat.testBit_two_pow_mul_add _ hac]
 split
 · rw [Nat.testBit_and]
 · rw [Nat.testBit_and]
theorem polyR_limbs (K : Nat) : polyR K = (K % 2 ^ 64 &&& 0x0ffffffc0fffffff) + 2 ^ 64 * (K / 2 ^ 64 % 2 ^ 64 &&& 0x0ffffffc0ffffffc) := by
 unfold polyR
 rw [← land_add 64 _ _ _ _ (Nat.mod_lt _ zDc) zDc]
 congr 1
 omega
def rot (ys : List Nat) (j i : Nat) : Nat := if j ≤ i then ys.getD (i - j) 0 else 320 * ys.getD (i + 17 - j) 0
def cS (xs ys : List Nat) (i : Nat) : Nat → Nat
 | 0 => 0
 | j + 1 => cS xs ys i j + xs.getD j 0 * rot ys j i
end Go.Proofs.YtibdgkhkhmdihaaGreatDoor
