/- PortcullisWrong: part 9 of its proof: lemmas and contracts, each with its conditions in its own statement; the last part holds the law itself. -/
import Derived.Test.YtibdgkhkhmdihaaGreatDoorJe08
import Derived.Laws.MakeOwn

set_option maxHeartbeats 4000000
set_option maxRecDepth 100000
namespace Go.Proofs.YtibdgkhkhmdihaaGreatDoor
open Go.RowKit
theorem make_u8c (n : Nat) (hn : n ≤ 100000) (w : World) : (Instr.makeSlice 26 (.int .i64 (n : Int)) (.int .i64 (n : Int))).run Tryz.prog w = .ok (.slice (some ⟨w.heap.size, 0, none⟩) n n) (w.alloc (.cells (u8s (List.replicate n 0)).toArray 5)) := by
 obtain ⟨i, hi, hz0, hz1, hz2⟩ := info_parts info_u8
 have h := run_makeSlice (P := Tryz.prog) w 26 5 i _ Tryz.underlying26 hi hz0 .i64 .i64 (n : Int) (n : Int) zOm zOm (by rw [hz1]; omega) (by rw [hz2]; omega) zOm
 rw [hz1, Int.toNat_natCast, Nat.mul_one] at h
 have e : madeCells (Value.int .u8 0).cells n = (u8s (List.replicate n 0)).toArray := by
  apply Array.ext
  · rw [size_madeCells]; simp [u8s]
  · intro j h1 h2
    simp [madeCells, u8s, Value.cells, Nat.mod_one]
 rw [e] at h
 exact h
theorem xor_u8c {a b : Nat} (ha : a < 256) (hb : b < 256) : bits .xor .u8 (a : Int) (b : Int) = ((a ^^^ b : Nat) : Int) := by
 have h8 : ∀ {a : Nat}, a < 256 → (BitVec.ofInt 8 (a : Int)).toNat = a := fun h => by
  rw [BitVec.ofInt_natCast, BitVec.toNat_ofNat]
  exact Nat.mod_eq_of_lt h
 show IntKind.u8.wrap ((BitVec.ofInt 8 (a : Int) ^^^ BitVec.ofInt 8 (b : Int)).toNat : Int) = _
 rw [BitVec.toNat_xor, h8 ha, h8 hb, u8_mod, Nat.mod_eq_of_lt (xor_256 ha hb)]
theorem tr_set {k c n i x y : Nat} {bs : List UInt8} (hx : (bs.getD i 0).toNat = x) (hk : ksB k c n i = y) (lx : x < 256) (ly : y < 256) :
 (u8s (trT k c n bs i)).set i (.int .u8 ((x ^^^ y : Nat) : Int)) = u8s (trT k c n bs (i + 1)) := by
 have e : ((x ^^^ y : Nat) : Int) = (((UInt8.ofNat (x ^^^ y)).toNat : Nat) : Int) := by rw [UInt8.toNat_ofNat', Nat.mod_eq_of_lt (xor_256 lx ly)]
 rw [e, trT, hx, hk]
 simp [u8s, List.map_set]
theorem cturn_any (k n c : Nat) (a : Option Addr) (cap : Nat) (bs : List UInt8) (hc : c < 4294967296) (hl : bs.length ≤ 100000) (w : World) (h : Sl w (.slice a bs.length cap) (u8s bs)) :
 Calls Tryz.prog 196 #[.agg (bytn 32 k).toArray, .int .i64 (c : Int), .agg (bytn 12 n).toArray, .slice a bs.length cap] w fun e w' =>
  ∃ g, e = .returned (.slice (some ⟨g, 0, none⟩) bs.length bs.length) ∧ w.heap.size ≤ g ∧ Arr w' g (u8s (trB k c n bs)) ∧ Below w.heap.size w w' := by
 have hmk := make_u8c bs.length hl
 have uc := u32_in hc
 have hs := zH h
 have hs1 := zH h
 clear h
 go_enter Tryz.func196, Tryz.ntmps196
 go_upto_region 1 with fail
 refine wp_new2 (fun W hsz k4 k6 kb => ?_)
 have k4 : Arr W w.heap.size (bytn 32 k) := k4
 have k6 : Arr W (w.heap.size + 1) (bytn 12 n) := k6
 have hs := zH (hs.out.below kb)
 clear hsz
 go_upto_region 2 with fail
 refine wp_new1 (fun w2 hsz k9 hb => ?_)
 replace k9 : Arr w2 W.heap.size (u8s (trT k c n bs 0)) := k9
 have h49 := k4.lt
 have h69 := k6.lt
 replace k4 := k4.below hb
 replace k6 := k6.below hb
 replace hs := zH (hs.out.below hb)
 replace kb := bel kb hb
 obtain ⟨g9, hg9⟩ : ∃ g, W.heap.size = g := ⟨_, rfl⟩
 rw [hg9] at k9 h49 h69 ⊢
 clear hb hsz hg9 hmk
 go_upto_region 3 with fail
 refine wp_new1 (fun w3 hsz k10 hb => ?_)
 replace k10 : Arr w3 w2.heap.size (bytn 64 0) := k10
 have h910 := k9.lt
 replace k4 := k4.below hb
 replace k6 := k6.below hb
 replace k9 := k9.below hb
 replace kb := bel kb hb
 obtain ⟨g10, hg10⟩ : ∃ g, w2.heap.size = g := ⟨_, rfl⟩
 rw [hg10] at k10 h910 ⊢
 clear hb hsz hg10
 obtain ⟨g4, hg4⟩ : ∃ g, w.heap.size = g := ⟨_, rfl⟩
 rw [hg4] at k4 k6 h49 h69 ⊢
 replace hg4 := zH hg4
 have hs0 := hs
 go_wp2_with fail
 go_loopw [21, 11] (fun iv cv wr => ∃ i X : Nat, i ≤ bs.length ∧ iv = .int .i64 i ∧ cv = .int .u32 (((c + (i + 63) / 64) % 4294967296 : Nat) : Int) ∧ Arr wr g4 (bytn 32 k) ∧ Arr wr (g4 + 1) (bytn 12 n) ∧ Arr wr g9 (u8s (trT k c n bs i)) ∧ Arr wr g10 (bytn 64 X) ∧ (i % 64 ≠ 0 → X = blkT k ((c + i / 64) % 4294967296) n 64) ∧ Below w.heap.size w wr) (fun iv _ _ => bs.length - (intOf iv).toNat)
 case atStart => exact ⟨0, 0, Nat.zero_le _, rfl, by rw [show (c + (0 + 63) / 64) % 4294967296 = c by omega], k4, k6, k9, k10, fun h => absurd rfl h, kb⟩
 case round =>
 clear k4 k6 k9 k10 kb
 obtain ⟨i, X, hi, rfl, rfl, k4, k6, k9, k10, hX, kb⟩ := hrel
 replace hX := zH hX
 have hi0 : (0 : Int) ≤ (i : Int) := by omega
 by_cases hin : i < bs.length
 · have hi1 : (i : Int) < (bs.length : Int) := by omega
   have hsr := zH (hs1.out.below kb)
   obtain ⟨b, o, rfl, -, -, -, hcl⟩ := hsr.out.at (by rw [u8s_len]; omega)
   have hcx := hcl i _ (u8s_get bs i hin)
   clear hcl
   obtain ⟨x, hx⟩ : ∃ x, (bs[i]).toNat = x := ⟨_, rfl⟩
   have lx : x < 256 := by rw [← hx]; exact (bs[i]).toNat_lt
   rw [hx] at hcx
   have hxd : Hid ((bs.getD i 0).toNat = x) := zH (by rw [← hx, List.getD_eq_getElem?_getD, List.getElem?_eq_getElem hin]; rfl)
   clear hx
   obtain ⟨d, hd⟩ : ∃ d, (c + (i + 63) / 64) % 4294967296 = d := ⟨_, rfl⟩
   have ld : d < 4294967296 := by omega
   rw [hd]
   obtain ⟨m, hm⟩ : ∃ m, i % 64 = m := ⟨_, rfl⟩
   have lm : m < 64 := by omega
   have ft : Int.tmod (i : Int) 64 = (m : Int) := by rw [Int.tmod_eq_emod_of_nonneg hi0]; omega
   have fm : IntKind.i64.wrap (m : Int) = (m : Int) := i64_in zOm
   have hm0 : (0 : Int) ≤ (m : Int) := by omega
   have hm1 : (m : Int) < 64 := by omega
   have dd : IntKind.i64.wrap (d : Int) = (d : Int) := i64_in zOm
   obtain ⟨ks, hks⟩ : ∃ ks, ksB k c n i = ks := ⟨_, rfl⟩
   by_cases hm64 : m = 0
   · subst hm64
     have ft0 : Int.tmod (i : Int) 64 = 0 := ft
     have fm0 : IntKind.i64.wrap 0 = 0 := by decide
     obtain ⟨d2, hd2⟩ : ∃ d2, (c + (i + 1 + 63) / 64) % 4294967296 = d2 := ⟨_, rfl⟩
     have fd : IntKind.u32.wrap ((d : Int) + 1) = (d2 : Int) := by
      rw [show ((d : Int) + 1) = ((d + 1 : Nat) : Int) by omega, u32_mod]
      omega
     have hdi : Hid (d = (c + i / 64) % 4294967296) := zH zOm
     have hXn : Hid (i + 1 ≤ i + 1 ∧ ((i + 1) % 64 ≠ 0 → blkT k d n 64 = blkT k ((c + (i + 1) / 64) % 4294967296) n 64)) := zH ⟨Nat.le_refl _, fun _ => by rw [hdi.out]; congr 3; omega⟩
     have hkb : Hid (blkT k d n 64 / 256 ^ 0 % 256 = ks) := zH (by rw [blkT_get k d n 64 0 zDc, ← hks, ksB, hm, hdi.out])
     replace hd2 := zH hd2
     clear ft fm hd hm hX
     go_wp2_with (first | (refine wpList_load_arr2 rfl _ _ rfl _ rfl zDk _ k4 (by rw [bytn_len]; kernel_rfl) ?_) | (refine wpList_load_arr2 rfl _ _ rfl _ rfl zDk _ k6 (by rw [bytn_len]; kernel_rfl) ?_))
     refine (cblock_any k n d ld _).mono ?_
     rintro e w5 ⟨rfl, hb⟩
     replace k4 := k4.below hb
     replace k6 := k6.below hb
     replace k9 := k9.below hb
     replace k10 := k10.below hb
     replace kb := bel kb hb
     clear hb
     go_upto_region 9 with (refine wpl_storeG rfl _ _ _ rfl _ (bytn 64 (blkT k d n 64)) rfl rfl _ k10 (by rw [bytn_len]; kernel_rfl) (by rw [bytn_len, bytn_len]) (bytn_one _ _) (fun w6 k10 hg hsz => ?_))
     replace k4 := k4.kept hg zOm
     replace k6 := k6.kept hg zOm
     replace k9 := k9.kept hg zOm
     replace kb := below_gr kb hg (by rw [hg4.out]; omega) kb.size
     clear hg hsz
     have hce : w6.cell? ⟨g10, 0, none⟩ = some (.int .u8 (ks : Int)) := by
      have q := k10.cell (bytn_get 64 (blkT k d n 64) 0 zDc)
      rw [hkb.out] at q
      exact q
     have lk : Hid (ks < 256) := zH (by rw [← hks]; exact ksB_lt _ _ _ _)
     have fx := xor_u8c lx lk.out
     have hset := zH (tr_set (bs := bs) hxd.out hks lx lk.out)
     have hlen := zH (show (u8s (trT k c n bs i)).length = bs.length by rw [u8s_len, trT_len])
     clear hks
     go_wp2_with (refine wpl_cellG rfl _ _ _ rfl g9 i (.int .u8 ((x ^^^ ks : Nat) : Int)) rfl rfl _ k9 zKr (by rw [hlen.out]; exact hin) rfl (fun w7 k9 hg hsz => ?_))
     rw [hset.out] at k9
     have q4 := k4.kept hg zOm
     have q6 := k6.kept hg zOm
     have q10 := k10.kept hg zOm
     have qb := below_gr kb hg (by rw [hg4.out]; omega) kb.size
     go_wp2_with fail
     exact ⟨⟨i + 1, blkT k d n 64, by omega, by go_num, by rw [hd2.out], q4, q6, k9, q10, hXn.out.2, qb⟩, by simp [intOf]; omega⟩
   · have dm : ((m : Int) == 0) = false := by simp; omega
     have hkb : Hid (X / 256 ^ m % 256 = ks) := zH (by rw [hX.out zOm, blkT_get k _ n 64 m lm, ← hks, ksB, hm])
     have hdn : Hid ((c + (i + 1 + 63) / 64) % 4294967296 = d) := zH zOm
     have hXn : Hid ((i + 1) % 64 ≠ 0 → X = blkT k ((c + (i + 1) / 64) % 4294967296) n 64) := zH (fun h => by rw [hX.out zOm]; congr 3; omega)
     have hce : wr.cell? ⟨g10, m, none⟩ = some (.int .u8 (ks : Int)) := by
      have q := k10.cell (bytn_get 64 X m lm)
      rw [hkb.out] at q
      exact q
     clear hd hm hX
     have lk : Hid (ks < 256) := zH (by rw [← hks]; exact ksB_lt _ _ _ _)
     have fx := xor_u8c lx lk.out
     have hset := zH (tr_set (bs := bs) hxd.out hks lx lk.out)
     have hlen := zH (show (u8s (trT k c n bs i)).length = bs.length by rw [u8s_len, trT_len])
     clear hks
     go_wp2_with (refine wpl_cellG rfl _ _ _ rfl g9 i (.int .u8 ((x ^^^ ks : Nat) : Int)) rfl rfl _ k9 zKr (by rw [hlen.out]; exact hin) rfl (fun w7 k9 hg hsz => ?_))
     rw [hset.out] at k9
     have q4 := k4.kept hg zOm
     have q6 := k6.kept hg zOm
     have q10 := k10.kept hg zOm
     have qb := below_gr kb hg (by rw [hg4.out]; omega) kb.size
     go_wp2_with fail
     exact ⟨⟨i + 1, X, by omega, by go_num, by rw [hdn.out], q4, q6, k9, q10, hXn.out, qb⟩, by simp [intOf]; omega⟩
 · have dj : decide ((i : Int) < (bs.length : Int)) = false := decide_eq_false zOm
   have hie : Hid (i = bs.length) := zH zOm
   rw [hie.out] at k9
   go_wp2_with fail
   go_ret
   exact ⟨g9, rfl, by rw [hg4.out]; omega, k9, kb⟩
def restN (n : Nat) : Nat := (16 - n % 16) % 16
theorem arest_any (n : Nat) (hn : n ≤ 1000000) (w : World) : Calls Tryz.prog 243 #[.int .i64 (n : Int)] w fun e w' =>
 ∃ g, e = .returned (.slice (some ⟨g, 0, none⟩) (restN n) (restN n)) ∧ w.heap.size ≤ g ∧ Arr w' g (u8s (List.replicate (restN n) 0)) ∧ Below w.heap.size w w' := by
 obtain ⟨p, hp⟩ : ∃ p, n % 16 = p := ⟨_, rfl⟩
 obtain ⟨q, hq⟩ : ∃ q, 16 - p = q := ⟨_, rfl⟩
 obtain ⟨m, hm⟩ : ∃ m, restN n = m := ⟨_, rfl⟩
 have hm2 : q % 16 = m := by rw [← hm, restN, hp, hq]
 have m1 : Int.tmod (n : Int) 16 = (p : Int) := by rw [Int.tmod_eq_emod_of_nonneg zOm]; omega
 have n1 : IntKind.i64.wrap (p : Int) = (p : Int) := i64_in zOm
 have e1 : (16 : Int) - (p : Int) = (q : Int) := by omega
 have n2 : IntKind.i64.wrap (q : Int) = (q : Int) := i64_in zOm
 have m2 : Int.tmod (q : Int) 16 = (m : Int) := by rw [Int.tmod_eq_emod_of_nonneg zOm]; omega
 have n3 : IntKind.i64.wrap (m : Int) = (m : Int) := i64_in zOm
 have hmk := make_u8c m zOm
 rw [hm]
 replace hp := zH hp
 replace hq := zH hq
 replace hm2 := zH hm2
 clear hm
 go_enter Tryz.func243, Tryz.ntmps243
 go_wp2_with fail
 go_ret
 exact ⟨w.heap.size, rfl, Nat.le_refl _, Arr.new _ _ _, below_alloc _ _⟩
theorem aeight_any (n : Nat) (hn : n ≤ 9223372036854775807) (w : World) : Calls Tryz.prog 244 #[.int .i64 (n : Int)] w fun e w' =>
 ∃ g, e = .returned (.slice (some ⟨g, 0, none⟩) 8 8) ∧ w.heap.size ≤ g ∧ Arr w' g (bytn 8 n) ∧ Below w.heap.size w w' := by
 have hmk := make_u8c 8 zDc
 replace hmk : ∀ w, (Instr.makeSlice 26 (.int .i64 8) (.int .i64 8)).run Tryz.prog w = .ok (.slice (some ⟨w.heap.size, 0, none⟩) 8 8) (w.alloc (.cells (u8s (List.replicate 8 0)).toArray 5)) := hmk
 go_enter Tryz.func244, Tryz.ntmps244
 go_upto_region 2 with fail
 refine wp_new1 (fun w2 hsz k3 kb => ?_)
 replace k3 : Arr w2 w.heap.size (bytn 8 (n % 256 ^ 0)) := by
  rw [Nat.pow_zero, Nat.mod_one]
  exact k3
 obtain ⟨g, hg⟩ : ∃ g, w.heap.size = g := ⟨_, rfl⟩
 rw [hg] at k3 ⊢
 replace hg := zH hg
 clear hsz hmk
 go_wp2_with fail
 go_loopw [8] (fun iv wr => ∃ i : Nat, i ≤ 8 ∧ iv = .int .i64 i ∧ Arr wr g (bytn 8 (n % 256 ^ i)) ∧ Below w.heap.size w wr) (fun iv _ => 8 - (intOf iv).toNat)
 case atStart => exact ⟨0, by omega, rfl, k3, kb⟩
 case round =>
 clear k3 kb
 obtain ⟨i, hi, rfl, k3, kb⟩ := hrel
 have hi0 : (0 : Int) ≤ (i : Int) := by omega
 by_cases hin : i < 8
 · have hi1 : (i : Int) < 8 := by omega
   have hi8 : i = 0 ∨ i = 1 ∨ i = 2 ∨ i = 3 ∨ i = 4 ∨ i = 5 ∨ i = 6 ∨ i = 7 := by omega
   obtain ⟨b, hb⟩ : ∃ b, n / 256 ^ i % 256 = b := ⟨_, rfl⟩
   have lb : b < 256 := by rw [← hb]; exact Nat.mod_lt _ zDc
   have hset : Hid ((bytn 8 (n % 256 ^ i)).set i (.int .u8 (b : Int)) = bytn 8 (n % 256 ^ (i + 1))) := zH (by
    rw [bytn_snoc (Nat.mod_lt _ (Nat.pow_pos zDc)) lb, ← hb, Nat.pow_succ, Nat.mod_mul])
   rcases hi8 with he | he | he | he | he | he | he | he
   · have fe : 8 * (i : Int) = 0 := by omega
     have fb : IntKind.u8.wrap (n : Int) = (b : Int) := by
      rw [show (n : Int) = ((n / 1 : Nat) : Int) by omega, u8_mod, ← hb, he]
     replace he := zH he
     clear hb
     go_wp2_with (refine wpl_cellG rfl _ _ _ rfl g i (.int .u8 (b : Int)) rfl rfl _ k3 zKr (by rw [bytn_len]; exact hin) rfl (fun w7 k3 hg2 hsz => ?_))
     rw [hset.out] at k3
     have qb := below_gr kb hg2 (by rw [hg.out]; exact Nat.le_refl _) kb.size
     go_wp2_with fail
     exact ⟨⟨i + 1, by omega, by go_num, k3, qb⟩, by simp [intOf]; omega⟩
   · have fe : 8 * (i : Int) = 8 := by omega
     have fb : IntKind.u8.wrap ((n : Int) / 256) = (b : Int) := by
      rw [show ((n : Int) / 256) = ((n / 256 : Nat) : Int) by omega, u8_mod, ← hb, he]
     replace he := zH he
     clear hb
     go_wp2_with (refine wpl_cellG rfl _ _ _ rfl g i (.int .u8 (b : Int)) rfl rfl _ k3 zKr (by rw [bytn_len]; exact hin) rfl (fun w7 k3 hg2 hsz => ?_))
     rw [hset.out] at k3
     have qb := below_gr kb hg2 (by rw [hg.out]; exact Nat.le_refl _) kb.size
     go_wp2_with fail
     exact ⟨⟨i + 1, by omega, by go_num, k3, qb⟩, by simp [intOf]; omega⟩
   · have fe : 8 * (i : Int) = 16 := by omega
     have fb : IntKind.u8.wrap ((n : Int) / 65536) = (b : Int) := by
      rw [show ((n : Int) / 65536) = ((n / 65536 : Nat) : Int) by omega, u8_mod, ← hb, he]
     replace he := zH he
     clear hb
     go_wp2_with (refine wpl_cellG rfl _ _ _ rfl g i (.int .u8 (b : Int)) rfl rfl _ k3 zKr (by rw [bytn_len]; exact hin) rfl (fun w7 k3 hg2 hsz => ?_))
     rw [hset.out] at k3
     have qb := below_gr kb hg2 (by rw [hg.out]; exact Nat.le_refl _) kb.size
     go_wp2_with fail
     exact ⟨⟨i + 1, by omega, by go_num, k3, qb⟩, by simp [intOf]; omega⟩
   · have fe : 8 * (i : Int) = 24 := by omega
     have fb : IntKind.u8.wrap ((n : Int) / 16777216) = (b : Int) := by
      rw [show ((n : Int) / 16777216) = ((n / 16777216 : Nat) : Int) by omega, u8_mod, ← hb, he]
     replace he := zH he
     clear hb
     go_wp2_with (refine wpl_cellG rfl _ _ _ rfl g i (.int .u8 (b : Int)) rfl rfl _ k3 zKr (by rw [bytn_len]; exact hin) rfl (fun w7 k3 hg2 hsz => ?_))
     rw [hset.out] at k3
     have qb := below_gr kb hg2 (by rw [hg.out]; exact Nat.le_refl _) kb.size
     go_wp2_with fail
     exact ⟨⟨i + 1, by omega, by go_num, k3, qb⟩, by simp [intOf]; omega⟩
   · have fe : 8 * (i : Int) = 32 := by omega
     have fb : IntKind.u8.wrap ((n : Int) / 4294967296) = (b : Int) := by
      rw [show ((n : Int) / 4294967296) = ((n / 4294967296 : Nat) : Int) by omega, u8_mod, ← hb, he]
     replace he := zH he
     clear hb
     go_wp2_with (refine wpl_cellG rfl _ _ _ rfl g i (.int .u8 (b : Int)) rfl rfl _ k3 zKr (by rw [bytn_len]; exact hin) rfl (fun w7 k3 hg2 hsz => ?_))
     rw [hset.out] at k3
     have qb := below_gr kb hg2 (by rw [hg.out]; exact Nat.le_refl _) kb.size
     go_wp2_with fail
     exact ⟨⟨i + 1, by omega, by go_num, k3, qb⟩, by simp [intOf]; omega⟩
   · have fe : 8 * (i : Int) = 40 := by omega
     have fb : IntKind.u8.wrap ((n : Int) / 1099511627776) = (b : Int) := by
      rw [show ((n : Int) / 1099511627776) = ((n / 1099511627776 : Nat) : Int) by omega, u8_mod, ← hb, he]
     replace he := zH he
     clear hb
     go_wp2_with (refine wpl_cellG rfl _ _ _ rfl g i (.int .u8 (b : Int)) rfl rfl _ k3 zKr (by rw [bytn_len]; exact hin) rfl (fun w7 k3 hg2 hsz => ?_))
     rw [hset.out] at k3
     have qb := below_gr kb hg2 (by rw [hg.out]; exact Nat.le_refl _) kb.size
     go_wp2_with fail
     exact ⟨⟨i + 1, by omega, by go_num, k3, qb⟩, by simp [intOf]; omega⟩
   · have fe : 8 * (i : Int) = 48 := by omega
     have fb : IntKind.u8.wrap ((n : Int) / 281474976710656) = (b : Int) := by
      rw [show ((n : Int) / 281474976710656) = ((n / 281474976710656 : Nat) : Int) by omega, u8_mod, ← hb, he]
     replace he := zH he
     clear hb
     go_wp2_with (refine wpl_cellG rfl _ _ _ rfl g i (.int .u8 (b : Int)) rfl rfl _ k3 zKr (by rw [bytn_len]; exact hin) rfl (fun w7 k3 hg2 hsz => ?_))
     rw [hset.out] at k3
     have qb := below_gr kb hg2 (by rw [hg.out]; exact Nat.le_refl _) kb.size
     go_wp2_with fail
     exact ⟨⟨i + 1, by omega, by go_num, k3, qb⟩, by simp [intOf]; omega⟩
   · have fe : 8 * (i : Int) = 56 := by omega
     have fb : IntKind.u8.wrap ((n : Int) / 72057594037927936) = (b : Int) := by
      rw [show ((n : Int) / 72057594037927936) = ((n / 72057594037927936 : Nat) : Int) by omega, u8_mod, ← hb, he]
     replace he := zH he
     clear hb
     go_wp2_with (refine wpl_cellG rfl _ _ _ rfl g i (.int .u8 (b : Int)) rfl rfl _ k3 zKr (by rw [bytn_len]; exact hin) rfl (fun w7 k3 hg2 hsz => ?_))
     rw [hset.out] at k3
     have qb := below_gr kb hg2 (by rw [hg.out]; exact Nat.le_refl _) kb.size
     go_wp2_with fail
     exact ⟨⟨i + 1, by omega, by go_num, k3, qb⟩, by simp [intOf]; omega⟩
 · have dj : decide ((i : Int) < 8) = false := decide_eq_false zOm
   have hie : Hid (i = 8) := zH zOm
   rw [hie.out] at k3
   go_wp2_with fail
   go_ret
   refine ⟨g, rfl, by rw [hg.out]; exact Nat.le_refl _, ?_, kb⟩
   have e : bytn 8 (n % 256 ^ 8) = bytn 8 n := by rw [Nat.mod_eq_of_lt zOm]
   rw [e] at k3
   exact k3
def Ow (w : World) (B : Nat) (e : TypeId) (v : Value) (n : Nat) (xs : List Value) : Prop := w.ownsRow B e 1 v n xs
theorem Ow.below {w w' : World} {B : Nat} {e : TypeId} {v : Value} {n : Nat} {xs : List Value} (h : Ow w B e v n xs) (hb : Below w.heap.size w w') : Ow w' B e v n xs := own_below h hb
theorem Ow.grown {w w' : World} {B g : Nat} {e : TypeId} {v : Value} {n : Nat} {xs : List Value} (h : Ow w B e v n xs) (hg : w.grownBy w' (some g)) (hb : g < B) : Ow w' B e v n xs := own_keptN h hg (fun q => by have := (World.ownsRow.lt h g q).1; omega)
section
variable {P : Program} {Q : Exit → Act → World → Prop}
theorem Tx.newF {l : List Oper} {S : World → Prop} {B f d : Nat} {a : Act} {w w0 : World} {o : Obj} {F : World → Prop} (hF : F (w0.alloc o)) (hd : ∀ w, F w → F w.drew) (hw : w = w0.alloc o ∨ w = (w0.alloc o).drew)
 (h : ∀ w', F w' → Below w0.heap.size w0 w' → Tx P l Q S B f d a w') : Tx P l Q S B f d a w := by
 rcases hw with rfl | rfl
 · exact h _ hF (below_alloc _ _)
 · exact h _ (hd _ hF) (below_alloc _ _).drew
end
theorem Sl.ofArrN {w : World} {g m : Nat} {l : List UInt8} (h : Arr w g (u8s l)) (hm : l.length = m) (hl : m ≤ 1000000) : Sl w (.slice (some ⟨g, 0, none⟩) m m) (u8s l) := by
 have hq : (u8s l).length ≤ maxLen := by rw [u8s_len]; unfold maxLen; omega
 have := Sl.of_part h rfl (Nat.le_refl _) hq (fun j _ => by rw [Nat.zero_add])
 rw [u8s_len, hm] at this
 exact this
theorem Sls.new6 {w : World} {v1 v2 v3 v4 v5 v6 : Value} {b1 b2 b3 b4 b5 b6 : List UInt8} (h1 : Sl w v1 (u8s b1)) (h2 : Sl w v2 (u8s b2)) (h3 : Sl w v3 (u8s b3)) (h4 : Sl w v4 (u8s b4)) (h5 : Sl w v5 (u8s b5)) (h6 : Sl w v6 (u8s b6)) (T : TypeId) :
 Sls (w.alloc (.cells #[v1, v2, v3, v4, v5, v6] T)) (.slice (some ⟨w.heap.size, 0, none⟩) 6 6) [b1, b2, b3, b4, b5, b6] := by
 refine ⟨[v1, v2, v3, v4, v5, v6], ⟨_, 6, rfl, Nat.le_refl _, by decide, fun h => (by cases h), fun x hx => ?_⟩, rfl, ?_⟩
 · cases hx
   intro j u hu
   rw [Addr.add_lit, Nat.zero_add]
   exact (Arr.new w #[v1, v2, v3, v4, v5, v6] T).cell hu
 · intro j a b' ha hb'
   match j with
   | 0 => simp only [List.getElem?_cons_zero, Option.some.injEq] at ha hb'; subst ha hb'; exact h1.alloc _
   | 1 => simp only [List.getElem?_cons_zero, List.getElem?_cons_succ, Option.some.injEq] at ha hb'; subst ha hb'; exact h2.alloc _
   | 2 => simp only [List.getElem?_cons_zero, List.getElem?_cons_succ, Option.some.injEq] at ha hb'; subst ha hb'; exact h3.alloc _
   | 3 => simp only [List.getElem?_cons_zero, List.getElem?_cons_succ, Option.some.injEq] at ha hb'; subst ha hb'; exact h4.alloc _
   | 4 => simp only [List.getElem?_cons_zero, List.getElem?_cons_succ, Option.some.injEq] at ha hb'; subst ha hb'; exact h5.alloc _
   | 5 => simp only [List.getElem?_cons_zero, List.getElem?_cons_succ, Option.some.injEq] at ha hb'; subst ha hb'; exact h6.alloc _
   | j + 6 => simp at ha
def zerosL (n : Nat) : List UInt8 := List.replicate (restN n) 0
def eightL (n : Nat) : List UInt8 := (digs 256 8 n).map UInt8.ofNat
theorem eightL_len (n : Nat) : (eightL n).length = 8 := by simp [eightL, digs_len]
def tagK (k n : Nat) : Nat := blkT k 0 n 64 % 256 ^ 32
def tagL (bs side : List UInt8) : List (List UInt8) := [side, zerosL side.length, bs, zerosL bs.length, eightL side.length, eightL bs.length]
def tagN (k n : Nat) (bs side : List UInt8) : Nat := polyT (polyR (tagK k n)) (tagK k n / 2 ^ 128) (tagL bs side).flatten
theorem bytn_part (X : Nat) : ∀ j, j < (bytn 32 (X % 256 ^ 32)).length → (bytn 64 X)[0 + j]? = (bytn 32 (X % 256 ^ 32))[j]? := by
 intro j hj
 rw [bytn_len] at hj
 rw [Nat.zero_add, bytn_get _ _ _ zOm, bytn_get _ _ _ hj]
 have e2 : 256 ^ 32 = 256 ^ j * (256 * 256 ^ (32 - j - 1)) := by rw [← Nat.mul_assoc, ← Nat.pow_succ, ← Nat.pow_add, show j + 1 + (32 - j - 1) = 32 by omega]
 rw [e2, Nat.mod_mul_right_div_self, Nat.mod_mul_right_mod]
theorem atag_any (k n : Nat) (a1 a2 : Option Addr) (c1 c2 : Nat) (bs side : List UInt8) (l1 : bs.length ≤ 100000) (l2 : side.length ≤ 100000) (w : World) (h1 : Sl w (.slice a1 bs.length c1) (u8s bs)) (h2 : Sl w (.slice a2 side.length c2) (u8s side)) :
 Calls Tryz.prog 197 #[.agg (bytn 32 k).toArray, .agg (bytn 12 n).toArray, .slice a1 bs.length c1, .slice a2 side.length c2] w fun e w' => e = .returned (.agg (bytn 16 (tagN k n bs side)).toArray) ∧ Below w.heap.size w w' := by
 have s1 := zH h1
 have s2 := zH h2
 clear h1 h2
 go_enter Tryz.func197, Tryz.ntmps197
 go_upto_region 1 with fail
 refine wp_new3 (fun W hsz k4 k5 k8 kb => ?_)
 have k4 : Arr W w.heap.size (bytn 32 k) := k4
 have k5 : Arr W (w.heap.size + 1) (bytn 12 n) := k5
 have k8 : Arr W (w.heap.size + 1 + 1) (bytn 16 0) := k8
 clear hsz
 go_wp2_with (first | (refine wpList_load_arr2 rfl _ _ rfl _ rfl zDk _ k4 (by rw [bytn_len]; kernel_rfl) ?_) | (refine wpList_load_arr2 rfl _ _ rfl _ rfl zDk _ k5 (by rw [bytn_len]; kernel_rfl) ?_))
 refine (cblock_any k n 0 zDc _).mono ?_
 rintro e w1 ⟨rfl, hb⟩
 replace k8 := k8.below hb
 replace kb := bel kb hb
 clear hb k4 k5
 obtain ⟨X, hX⟩ : ∃ X, blkT k 0 n 64 = X := ⟨_, rfl⟩
 rw [hX]
 go_upto_region 2 with (refine wpl_storeG rfl _ _ _ rfl _ (bytn 64 X) rfl rfl _ (Arr.new _ _ _) (by rw [bytn_len]; kernel_rfl) (by rw [bytn_len]; rfl) (bytn_one _ _) (fun w2 k9 hg hsz => ?_))
 have hb := below_fresh hg
 have h89 := k8.lt
 replace k8 := k8.below hb
 replace kb := bel kb hb
 obtain ⟨g9, hg9⟩ : ∃ g, w1.heap.size = g := ⟨_, rfl⟩
 rw [hg9] at k9 h89 ⊢
 obtain ⟨g8, hg8⟩ : ∃ g, w.heap.size + 1 + 1 = g := ⟨_, rfl⟩
 rw [hg8] at k8 h89 ⊢
 have hw8 : w.heap.size ≤ g8 := by omega
 clear hb hsz hg9 hg8 hg
 obtain ⟨K, hK⟩ : ∃ K, X % 256 ^ 32 = K := ⟨_, rfl⟩
 have hKt : Hid (tagK k n = K) := zH (by rw [tagK, hX, hK])
 have lK : Hid (K < 256 ^ 32) := zH (by rw [← hK]; exact Nat.mod_lt _ zDc)
 have hpt := bytn_part X
 rw [hK] at hpt
 replace hpt := zH hpt
 clear hX hK
 replace s1 := zH (s1.out.below kb)
 replace s2 := zH (s2.out.below kb)
 obtain ⟨T, hT⟩ : ∃ T, polyT (polyR K) (K / 2 ^ 128) (tagL bs side).flatten = T := ⟨_, rfl⟩
 have cS := zH (show ∀ w g, Sls w (.slice (some ⟨g, 0, none⟩) 6 6) (tagL bs side) → Calls Tryz.prog 242 #[.agg (byts K).toArray, .slice (some ⟨g, 0, none⟩) 6 6] w fun e w' => e = .returned (.agg (bytn 16 T).toArray) ∧ Below w.heap.size w w' from fun w g h => by rw [← hT]; exact psum_any K lK.out _ _ (tagL bs side) w h)
 have hTt : Hid (tagN k n bs side = T) := zH (by rw [tagN, hKt.out]; exact hT)
 clear hT
 have hat : ∀ w, (Instr.arrayAt 34 (.slice (some ⟨g9, 0, none⟩) 32 64)).run Tryz.prog w = .ok (.pointer (some ⟨g9, 0, none⟩)) w := fun w => run_arrayAt w 34 5 32 _ 32 64 Tryz.underlying34 zDc
 refine Tx.start (fun w' => Below (w2).heap.size (w2) w') 19 20 rfl zKr ?_
 have hS_1 : Below (w2).heap.size (w2) (World.drew w2) := (Below.refl _ _).drew
 refine Tx.seg2 (A := ?_) 7 56255 zKr (by exact hS_1) [0, 1, 2, 3, 4, 5, 7, 8, 9, 11, 12, 14, 15] zKr ?_ ?_
 rotate_left
 · intro w' hB
   have yr : w'.rangeAt g9 0 (bytn 32 K) := (k9.below hB).range hpt.out
   exact zRm
 refine Tx.eff 6 56319 rfl zDk (fun K hK => ?_)
 go_simp
 refine (arest_any side.length zOm _).mono ?_
 rintro e w_2 ⟨gA, rfl, hgA, kA, hb_2⟩
 have hS_2 := ext_trans hS_1 (Nat.le_refl _) hb_2
 refine hK (fun w' => Below (w2).heap.size (w2) w') _ _ hS_2 (fun _ h => h) ?_
 clear hK K hS_1
 try simp only [Act.put, zSa, zSz, zSs]
 refine Tx.eff 10 57343 rfl zDk (fun K hK => ?_)
 go_simp
 refine (arest_any bs.length zOm _).mono ?_
 rintro e w_3 ⟨gB, rfl, hgB, kB, hb_3⟩
 have hS_3 := ext_trans hS_2 (Nat.le_refl _) hb_3
 refine hK (fun w' => Below (w2).heap.size (w2) w') _ _ hS_3 (fun _ h => h) ?_
 clear hK K hS_2
 try simp only [Act.put, zSa, zSz, zSs]
 have kA := kA.below hb_3
 refine Tx.eff 13 65535 rfl zDk (fun K hK => ?_)
 go_simp
 refine (aeight_any side.length zOm _).mono ?_
 rintro e w_4 ⟨gC, rfl, hgC, kC, hb_4⟩
 have hS_4 := ext_trans hS_3 (Nat.le_refl _) hb_4
 refine hK (fun w' => Below (w2).heap.size (w2) w') _ _ hS_4 (fun _ h => h) ?_
 clear hK K hS_3
 try simp only [Act.put, zSa, zSz, zSs]
 have kA := kA.below hb_4
 have kB := kB.below hb_4
 refine Tx.eff 16 131071 rfl zDk (fun K hK => ?_)
 go_simp
 refine (aeight_any bs.length zOm _).mono ?_
 rintro e w_5 ⟨gD, rfl, hgD, kD, hb_5⟩
 have hS_5 := ext_trans hS_4 (Nat.le_refl _) hb_5
 refine hK (fun w' => Below (w2).heap.size (w2) w') _ _ hS_5 (fun _ h => h) ?_
 clear hK K hS_4
 try simp only [Act.put, zSa, zSz, zSs]
 have kA := kA.below hb_5
 have kB := kB.below hb_5
 have kC := kC.below hb_5
 have pA := Sl.ofArrN (m := restN side.length) (l := zerosL side.length) kA (by simp [zerosL]) (by unfold restN; omega)
 have pB := Sl.ofArrN (m := restN bs.length) (l := zerosL bs.length) kB (by simp [zerosL]) (by unfold restN; omega)
 rw [bytn_u8s] at kC kD
 have pC := Sl.ofArrN (m := 8) (l := eightL side.length) kC (eightL_len _) zDc
 have pD := Sl.ofArrN (m := 8) (l := eightL bs.length) kD (eightL_len _) zDc
 refine Tx.eff 17 262143 rfl zDk (fun K hK => ?_)
 go_simp
 refine hK (fun w' => Below (w2).heap.size (w2) w') _ _ (ext_trans hS_5 (Nat.le_refl _) (below_alloc _ _)) (fun _ h => h) ?_
 clear hK K
 try simp only [Act.put, zSa, zSz, zSs]
 refine Tx.newF (F := fun w' => Sls w' (.slice (some ⟨(w_5).heap.size, 0, none⟩) 6 6) [side, zerosL side.length, bs, zerosL bs.length, eightL side.length, eightL bs.length]) (w0 := w_5) (Sls.new6 (s2.out.below hS_5) pA (s1.out.below hS_5) pB pC pD _) (fun w1 h => h.below (Below.refl _ _).drew) (by first | exact .inl rfl | exact .inr rfl) (fun w_6 hS6 hb_6 => ?_)
 have hS_6 : Below (w2).heap.size (w2) w_6 := by first | exact hb_6 | exact ext_trans hS_5 (Nat.le_refl _) hb_6
 clear hS_5
 refine Tx.eff 18 524287 rfl zDk (fun K hK => ?_)
 go_simp
 refine (cS.out _ _ hS6).mono ?_
 rintro e w_7 ⟨rfl, hb_7⟩
 have hS_7 := ext_trans hS_6 (Nat.le_refl _) hb_7
 refine hK (fun w' => Below (w2).heap.size (w2) w') _ _ hS_7 (fun _ h => h) ?_
 clear hK K hb_7 hS_6
 try simp only [Act.put, zSa, zSz, zSs]
 refine Tx.bar 1048575 rfl zDk (fun K hK => ?_)
 replace k8 := k8.below hS_7
 replace kb := bel kb hS_7
 clear hS_7
 refine step_storeG rfl _ _ _ rfl g8 (bytn 16 T) rfl rfl _ k8 (by rw [bytn_len]; kernel_rfl) (by rw [bytn_len, bytn_len]) (bytn_one _ _) (fun w9 k8 hg hsz => ?_)
 have qb := below_gr kb hg hw8 kb.size
 refine hK (fun _ => True) 9999 _ _ ?_
 clear hK K
 try simp only [Act.put]
 try simp only [zSa, zSz, zSs]
 refine Tx.done zKr ?_
 go_wp2_with fail
 rw [hTt.out]
 exact bodyPost_ret (results_arr2 Tryz.results197 _ _ _ rfl zKr _ k8 (by rw [bytn_len]; kernel_rfl)) rfl ⟨rfl, qb⟩
theorem wpl_copyG {P : Program} {w : World} {ops : Array Oper} {rest : List Oper} {o : Oper} {a : Act} {Q : Exit → Act → World → Prop} (hw : Region.wanted o (yielded ops a.tmps) = true) (d s : Operand) (dT sT : TypeId)
 (ho : o.op = .call { callee := .builtin .copy, args := #[d, s], argTypes := #[dT, sT] }) (elem : TypeId) (hu : P.underlying dT = some (.slice elem)) (hsz : (P.info? elem).map (·.size) = some 1)
 (g off dLen dCap : Nat) (hd : a.eval d = .slice (some ⟨g, off, none⟩) dLen dCap) (xs : List Value) (hg : Arr w g xs) (hfit : off + dLen ≤ xs.length) (vs : Value) (hs : a.eval s = vs) (full : List Value) (hsl : Sl w vs full) (h1 : ∀ v ∈ full, v.oneCell' = true)
 (ys : List Value) (hys : xs.take off ++ full.take dLen ++ xs.drop (off + (full.take dLen).length) = ys)
 (h : ∀ (W : World) (m : Int), Arr W g ys → w.grownBy W (some g) → W.heap.size = w.heap.size → wpList P ops Q rest (a.put o.dst (.int .i64 m)) W) : wpList P ops Q (o :: rest) a w := by
 refine wpList_copy_arr hw d s dT sT ho elem hu hsz g off dLen dCap hd xs hg hfit vs hs full hsl h1 ?_
 rw [hys]
 exact h _ _ (hg.setRow ys) (gr_row w g _) (by simp [World.setRow])
def nb (k n : Nat) : List UInt8 := (digs 256 k n).map UInt8.ofNat
theorem nb_len (k n : Nat) : (nb k n).length = k := by simp [nb, digs_len]
theorem nb_u8s (k n : Nat) : bytn k n = u8s (nb k n) := bytn_u8s k n
theorem u8s_rep (n : Nat) : u8s (List.replicate n 0) = List.replicate n (.int .u8 0) := by simp [u8s]
def padS (key : List UInt8) (b : UInt8) : Nat → List UInt8
 | 0 => key ++ List.replicate (64 - key.length) 0
 | i + 1 => (padS key b i).set i ((padS key b i).getD i 0 ^^^ b)
def padL (key : List UInt8) (b : UInt8) : List UInt8 := padS key b 64
theorem padS_len {key : List UInt8} (h : key.length ≤ 64) (b : UInt8) : ∀ i, (padS key b i).length = 64
 | 0 => by rw [padS, List.length_append, List.length_replicate]; omega
 | i + 1 => by rw [padS, List.length_set, padS_len h b i]
theorem padded_any (a : Option Addr) (cap : Nat) (key : List UInt8) (b : UInt8) (hk : key.length ≤ 64) (w : World) (hs : Sl w (.slice a key.length cap) (u8s key)) :
 Calls Tryz.prog 291 #[.slice a key.length cap, .int .u8 (b.toNat : Int)] w fun e w' =>
  ∃ g, e = .returned (.slice (some ⟨g, 0, none⟩) 64 64) ∧ w.heap.size ≤ g ∧ Arr w' g (u8s (padL key b)) ∧ Below w.heap.size w w' := by
 have hmk : ∀ w : World, (Instr.makeSlice 26 (.int .i64 64) (.int .i64 64)).run Tryz.prog w = .ok (.slice (some ⟨w.heap.size, 0, none⟩) 64 64) (w.alloc (.cells (u8s (List.replicate 64 0)).toArray 5)) := fun w => make_u8c 64 zDc w
 have hsz1 : (Tryz.prog.info? 5).map (·.size) = some 1 := by kernel_rfl
 have hone := zH (u8s_one key)
 have hmix : Hid ((u8s (List.replicate 64 0)).take 0 ++ (u8s key).take 64 ++ (u8s (List.replicate 64 0)).drop (0 + ((u8s key).take 64).length) = u8s (padS key b 0)) := zH (by
  rw [List.take_zero, List.nil_append, List.take_of_length_le (by rw [u8s_len]; omega), u8s_len, Nat.zero_add, padS, u8s_append]
  congr 1
  rw [u8s_rep, u8s_rep, List.drop_replicate])
 obtain ⟨y, hy⟩ : ∃ y, b.toNat = y := ⟨_, rfl⟩
 have ly : y < 256 := by rw [← hy]; exact b.toNat_lt
 rw [hy]
 replace hy := zH hy
 replace hsz1 := zH hsz1
 replace hs := zH hs
 replace hk := zH hk
 go_enter Tryz.func291, Tryz.ntmps291
 go_upto_region 2 with fail
 refine wp_new1 (fun W hsz k5 kb => ?_)
 replace k5 : Arr W w.heap.size (u8s (List.replicate 64 0)) := k5
 replace hs := zH (hs.out.below kb)
 clear hsz hmk
 obtain ⟨g5, hg5⟩ : ∃ g, w.heap.size = g := ⟨_, rfl⟩
 rw [hg5] at k5 ⊢
 have hw5 : w.heap.size ≤ g5 := by omega
 clear hg5
 go_wp2_with (refine wpl_copyG rfl _ _ 26 26 rfl 5 Tryz.underlying26 hsz1.out g5 0 64 64 rfl _ k5 (by rw [u8s_len]; decide) _ rfl _ hs.out hone.out _ hmix.out (fun W2 m k5 hg hsz => ?_))
 replace kb := below_gr kb hg hw5 kb.size
 go_loopw [13] (fun iv wr => ∃ i : Nat, i ≤ 64 ∧ iv = .int .i64 i ∧ Arr wr g5 (u8s (padS key b i)) ∧ Below w.heap.size w wr) (fun iv _ => 64 - (intOf iv).toNat)
 case atStart => exact ⟨0, by omega, rfl, k5, kb⟩
 case round =>
 clear k5 kb hs hmix hone
 obtain ⟨i, hi, rfl, k5, kb⟩ := hrel
 have hi0 : (0 : Int) ≤ (i : Int) := by omega
 by_cases hin : i < 64
 · have hi1 : (i : Int) < 64 := by omega
   have hl := padS_len hk.out b i
   have hil : i < (padS key b i).length := by rw [hl]; exact hin
   have hc := k5.cell (u8s_get _ i hil)
   have hf := k5.frozen i
   obtain ⟨x, hx⟩ : ∃ x, ((padS key b i)[i]).toNat = x := ⟨_, rfl⟩
   have lx : x < 256 := by rw [← hx]; exact ((padS key b i)[i]).toNat_lt
   have hset : Hid ((u8s (padS key b i)).set i (.int .u8 ((x ^^^ y : Nat) : Int)) = u8s (padS key b (i + 1))) := zH (by
    rw [padS, List.getD_eq_getElem?_getD, List.getElem?_eq_getElem hil, Option.getD_some, ← hx, ← hy.out, ← UInt8.toNat_xor]
    simp [u8s, List.map_set])
   rw [hx] at hc
   have fx := xor_u8c lx ly
   obtain ⟨z, hz⟩ : ∃ z, x ^^^ y = z := ⟨_, rfl⟩
   rw [hz] at fx hset
   clear hx hz hil hl
   go_wp2_with fail
   replace k5 := k5.set i (.int .u8 (z : Int))
   rw [hset.out] at k5
   exact ⟨⟨i + 1, by omega, by go_num, k5, kb.setCell (by simp; omega) _⟩, by simp [intOf]; omega⟩
 · have dj : decide ((i : Int) < 64) = false := decide_eq_false zOm
   have hie : Hid (i = 64) := zH zOm
   rw [hie.out] at k5
   go_wp2_with fail
   go_ret
   exact ⟨g5, rfl, hw5, k5, kb⟩
def macK (key : List UInt8) : List UInt8 := if 64 < key.length then nb 32 (shaa key) else key
def macN (key bs : List UInt8) : Nat := shaa (padL (macK key) 92 ++ nb 32 (shaa (padL (macK key) 54 ++ bs)))
theorem Sls.vals {w : World} {v : Value} {ls : List (List UInt8)} (h : Sls w v ls) : ∃ vs, Sl w v vs ∧ vs.length = ls.length ∧ (∀ u ∈ vs, u.oneCell' = true) ∧ ∀ (j : Nat) (a : Value) (b : List UInt8), vs[j]? = some a → ls[j]? = some b → Sl w a (u8s b) := by
 obtain ⟨vs, h1, h2, h3⟩ := h
 refine ⟨vs, h1, h2, fun u hu => ?_, h3⟩
 obtain ⟨j, hj, rfl⟩ := List.mem_iff_getElem.1 hu
 obtain ⟨x, c, e, -⟩ := h3 j _ (ls[j]'zOm) (List.getElem?_eq_getElem hj) (List.getElem?_eq_getElem zOm)
 rw [e]
 rfl
theorem info_sl : (Tryz.prog.info? 26).map (fun i => (i.zero, i.size, i.bytes)) = some (some (.slice none 0 0), 1, 24) := by kernel_rfl
theorem own1 (w : World) (v : Value) (T : TypeId) : (w.alloc (.cells #[v] T)).ownsRow w.heap.size T 1 (.slice (some ⟨w.heap.size, 0, none⟩) 1 1) 1 [v] :=
 ⟨rfl, .inr ⟨w.heap.size, 1, #[v], rfl, Nat.le_refl _, heap_alloc_new w _, Nat.le_refl _, by decide, rfl, rfl⟩⟩
theorem Sls.new1 {w : World} {v1 : Value} {b1 : List UInt8} (h1 : Sl w v1 (u8s b1)) (T : TypeId) : Sls (w.alloc (.cells #[v1] T)) (.slice (some ⟨w.heap.size, 0, none⟩) 1 1) [b1] := by
 refine ⟨[v1], Sl.new1 w v1 T, rfl, ?_⟩
 intro j a b' ha hb'
 match j with
 | 0 => simp only [List.getElem?_cons_zero, Option.some.injEq] at ha hb'; subst ha hb'; exact h1.alloc _
 | j + 1 => simp at ha
theorem Sls.new2 {w : World} {v1 v2 : Value} {b1 b2 : List UInt8} (h1 : Sl w v1 (u8s b1)) (h2 : Sl w v2 (u8s b2)) (T : TypeId) : Sls (w.alloc (.cells #[v1, v2] T)) (.slice (some ⟨w.heap.size, 0, none⟩) 2 2) [b1, b2] := by
 refine ⟨[v1, v2], ⟨_, 2, rfl, Nat.le_refl _, by decide, fun h => (by cases h), fun x hx => ?_⟩, rfl, ?_⟩
 · cases hx
   intro j u hu
   rw [Addr.add_lit, Nat.zero_add]
   exact (Arr.new w #[v1, v2] T).cell hu
 · intro j a b' ha hb'
   match j with
   | 0 => simp only [List.getElem?_cons_zero, Option.some.injEq] at ha hb'; subst ha hb'; exact h1.alloc _
   | 1 => simp only [List.getElem?_cons_zero, List.getElem?_cons_succ, Option.some.injEq] at ha hb'; subst ha hb'; exact h2.alloc _
   | j + 2 => simp at ha
theorem Sls.cons {w w' : World} {v v1 : Value} {b1 : List UInt8} {vs : List Value} {ls : List (List UInt8)} (h : Sl w' v ([v1] ++ vs)) (h1 : Sl w' v1 (u8s b1)) (hl : vs.length = ls.length) (hv : ∀ (j : Nat) (a : Value) (b : List UInt8), vs[j]? = some a → ls[j]? = some b → Sl w a (u8s b)) (hb : Below w.heap.size w w') : Sls w' v (b1 :: ls) := by
 refine ⟨_, h, by simp [hl], ?_⟩
 intro j a b ha hb'
 match j with
 | 0 => simp only [List.singleton_append, List.getElem?_cons_zero, Option.some.injEq] at ha hb'; subst ha hb'; exact h1
 | j + 1 => simp only [List.singleton_append, List.getElem?_cons_succ] at ha hb'; exact (hv j a b ha hb').below hb
theorem macsum_short (a d : Option Addr) (cap cd : Nat) (key : List UInt8) (ls : List (List UInt8)) (hk : key.length ≤ 64) (hll : ls.length ≤ 1000) (w : World) (hs : Sl w (.slice a key.length cap) (u8s key)) (hls : Sls w (.slice d ls.length cd) ls) :
 Calls Tryz.prog 246 #[.slice a key.length cap, .slice d ls.length cd] w fun e w' => e = .returned (.agg (bytn 32 (macN key ls.flatten)).toArray) ∧ Below w.heap.size w w' := by
 have hm : Hid (macK key = key) := zH (by rw [macK, if_neg zOm])
 obtain ⟨X, hX⟩ : ∃ X, Ending.returned (.agg (bytn 32 (macN key ls.flatten)).toArray) = X := ⟨_, rfl⟩
 rw [hX]
 rw [macN, hm.out] at hX
 replace hX := zH hX
 obtain ⟨k2, rfl⟩ : ∃ k2, k2 = key := ⟨_, rfl⟩
 obtain ⟨n2, hn2⟩ : ∃ n, k2.length = n := ⟨_, rfl⟩
 rw [hn2] at hs hk ⊢
 replace hn2 := zH hn2
 have hn64 := zH hk
 have hK := zH hs
 replace hls := zH hls
 have hnn : ¬ (64 : Int) < (n2 : Int) := by omega
 obtain ⟨a2, rfl⟩ : ∃ a2, a2 = a := ⟨_, rfl⟩
 obtain ⟨c2, rfl⟩ : ∃ c2, c2 = cap := ⟨_, rfl⟩
 clear hs hm
 go_enter Tryz.func246, Tryz.ntmps246
 go_upto_region 1 with fail
 refine wp_new1 (fun wA hsz k4 kb => ?_)
 replace k4 : Arr wA w.heap.size (bytn 32 0) := k4
 replace hK := zH (hK.out.below kb)
 replace hls := zH (hls.out.below kb)
 clear hsz
 obtain ⟨vs, hvs, hvl, hv1, hvj⟩ := hls.out.vals
 have hvv := zH hvs
 replace hv1 := zH hv1
 replace hvj := zH hvj
 replace hvl := zH hvl
 clear hvs hls
 have cp1 := zH (show ∀ w', Below wA.heap.size wA w' → Calls Tryz.prog 291 #[.slice a2 n2 c2, .int .u8 54] w' fun e w2 => ∃ g, e = .returned (.slice (some ⟨g, 0, none⟩) 64 64) ∧ w'.heap.size ≤ g ∧ Arr w2 g (u8s (padL k2 54)) ∧ Below w'.heap.size w' w2 from fun w' hb => by
  have q := padded_any a2 c2 k2 54 (by rw [hn2.out]; exact hn64.out) w' (by rw [hn2.out]; exact hK.out.below hb)
  rw [hn2.out] at q
  exact q)
 have cp2 := zH (show ∀ w', Below wA.heap.size wA w' → Calls Tryz.prog 291 #[.slice a2 n2 c2, .int .u8 92] w' fun e w2 => ∃ g, e = .returned (.slice (some ⟨g, 0, none⟩) 64 64) ∧ w'.heap.size ≤ g ∧ Arr w2 g (u8s (padL k2 92)) ∧ Below w'.heap.size w' w2 from fun w' hb => by
  have q := padded_any a2 c2 k2 92 (by rw [hn2.out]; exact hn64.out) w' (by rw [hn2.out]; exact hK.out.below hb)
  rw [hn2.out] at q
  exact q)
 have hp1 : Hid ((padL k2 54).length = 64) := zH (padS_len (by rw [hn2.out]; exact hn64.out) _ _)
 have hp2 : Hid ((padL k2 92).length = 64) := zH (padS_len (by rw [hn2.out]; exact hn64.out) _ _)
 obtain ⟨i, hi, hz0, hz1, hz2⟩ := info_parts info_sl
 have hB0 := Below.refl wA.heap.size wA
 go_wp2_with fail
 refine (cp1.out _ hB0).mono ?_
 rintro e wB ⟨gp, rfl, hgp, kp, hb⟩
 have hpS := zH (Sl.ofArrN kp hp1.out zDc)
 have kbB := hb
 replace k4 := k4.below hb
 clear hB0 hb kp hgp cp1
 have kb2 := bel kb kbB
 have hszB := kb2.size
 go_wp2_with (at_builtin; refine wpList_append_sl rfl _ _ 38 rfl wB.heap.size 26 Tryz.underlying38 hi hz0 hz1 hz2 rfl _ _ _ rfl (own1 wB _ _) _ vs rfl ((hvv.out.below kbB).alloc _) hv1.out ?c2 ?c3 (by simp) (fun v' wC hown hg => ?_))
 case c2 => rw [hvl.out]; unfold maxLen; omega
 case c3 => rw [hvl.out]; omega
 have kbC : Below wB.heap.size wB wC := below_grown (below_alloc wB _) (own1 wB _ _) (by simp) hg
 have hS := Sls.cons (ls := ls) (Sl.of_own hown) (hpS.out.below kbC) hvl.out hvj.out (bel kbB kbC)
 clear hown hg hpS hi hz0 hz1 hz2
 obtain ⟨aS, cS, rfl⟩ : ∃ aS cS, v' = .slice aS (padL k2 54 :: ls).length cS := by
  obtain ⟨vs2, ⟨aS, cS, he, -⟩, hl2, -⟩ := hS
  exact ⟨aS, cS, by rw [he, hl2]⟩
 replace k4 := k4.below kbC
 have kb3 := bel kb2 kbC
 have kbAC := bel kbB kbC
 have cs1 := zH (shsuma_any _ _ _ wC hS)
 obtain ⟨N1, hN1⟩ : ∃ N, shaa (padL k2 54 :: ls).flatten = N := ⟨_, rfl⟩
 rw [hN1] at cs1
 rw [show padL k2 54 ++ ls.flatten = (padL k2 54 :: ls).flatten from rfl] at hX
 replace hN1 := zH hN1
 obtain ⟨n3, hn3⟩ : ∃ n, (padL k2 54 :: ls).length = n := ⟨_, rfl⟩
 rw [hn3] at cs1 ⊢
 clear hS hn3 kb kb2 kbB kbC hszB hvv
 go_wp2_with fail
 refine cs1.out.mono ?_
 rintro e wD ⟨rfl, hb⟩
 replace k4 := k4.below hb
 have kb := bel kb3 hb
 have kbA := bel kbAC hb
 clear hb kb3 kbAC cs1
 go_upto_region 5 with (refine wpl_storeG rfl _ _ _ rfl _ (bytn 32 N1) rfl rfl _ (Arr.new _ _ _) (by rw [bytn_len]; kernel_rfl) (by rw [bytn_len]; rfl) (bytn_one _ _) (fun wE k6 hg hsz => ?_))
 have hb := below_fresh hg
 have lt4 := k4.lt
 replace k4 := k4.below hb
 replace kb := bel kb hb
 replace kbA := bel kbA hb
 obtain ⟨g6, hg6⟩ : ∃ g, wD.heap.size = g := ⟨_, rfl⟩
 rw [hg6] at k6 lt4 ⊢
 clear hb hsz hg hg6
 rw [nb_u8s] at k6
 obtain ⟨g4, hg4⟩ : ∃ g, w.heap.size = g := ⟨_, rfl⟩
 rw [hg4] at k4 lt4 ⊢
 have hw4 : w.heap.size ≤ g4 := by omega
 clear hg4
 obtain ⟨N2, hN2⟩ : ∃ N, shaa [padL k2 92, nb 32 N1].flatten = N := ⟨_, rfl⟩
 have cs2 := zH (show ∀ w g, Sls w (.slice (some ⟨g, 0, none⟩) 2 2) [padL k2 92, nb 32 N1] → Calls Tryz.prog 20 #[.slice (some ⟨g, 0, none⟩) 2 2] w fun e w' => e = .returned (.agg (bytn 32 N2).toArray) ∧ Below w.heap.size w w' from fun w g h => by rw [← hN2]; exact shsuma_any _ _ [padL k2 92, nb 32 N1] w h)
 have hXe : Hid (Ending.returned (.agg (bytn 32 N2).toArray) = X) := zH (by rw [← hX.out, hN1.out, ← hN2]; simp)
 clear hN2
 refine Tx.start (fun w' => Below (wE).heap.size (wE) w') 5 6 rfl zKr ?_
 have hS_1 : Below (wE).heap.size (wE) (World.drew wE) := (Below.refl _ _).drew
 refine Tx.seg2 (A := ?_) 4 5 zKr (by exact hS_1) [0, 2] zKr ?_ ?_
 rotate_left
 · intro w' hB
   exact zRd
 refine Tx.eff 1 7 rfl zDk (fun K hK => ?_)
 go_simp
 refine (cp2.out _ (bel kbA hS_1)).mono ?_
 rintro e w_2 ⟨gq, rfl, hgq, kq, hb_2⟩
 have hS_2 := ext_trans hS_1 (Nat.le_refl _) hb_2
 refine hK (fun w' => Below (wE).heap.size (wE) w') _ _ hS_2 (fun _ h => h) ?_
 clear hK K hS_1
 try simp only [Act.put, zSa, zSz, zSs]
 have pq := Sl.ofArrN kq hp2.out zDc
 have p6 := Sl.ofArrN (k6.below hS_2) (nb_len 32 N1) zDc
 refine Tx.eff 3 15 rfl zDk (fun K hK => ?_)
 go_simp
 refine hK (fun w' => Below (wE).heap.size (wE) w') _ _ (ext_trans hS_2 (Nat.le_refl _) (below_alloc _ _)) (fun _ h => h) ?_
 clear hK K
 try simp only [Act.put, zSa, zSz, zSs]
 refine Tx.newF (F := fun w' => Sls w' (.slice (some ⟨(w_2).heap.size, 0, none⟩) 2 2) [padL k2 92, nb 32 N1]) (w0 := w_2) (Sls.new2 pq p6 _) (fun w1 h => h.below (Below.refl _ _).drew) (by first | exact .inl rfl | exact .inr rfl) (fun w_3 hS5 hb_3 => ?_)
 have hS_3 : Below (wE).heap.size (wE) w_3 := by first | exact hb_3 | exact ext_trans hS_2 (Nat.le_refl _) hb_3
 clear hS_2
 refine Tx.eff 4 31 rfl zDk (fun K hK => ?_)
 go_simp
 refine (cs2.out _ _ hS5).mono ?_
 rintro e w_4 ⟨rfl, hb_4⟩
 have hS_4 := ext_trans hS_3 (Nat.le_refl _) hb_4
 refine hK (fun w' => Below (wE).heap.size (wE) w') _ _ hS_4 (fun _ h => h) ?_
 clear hK K hb_4 hS_3
 try simp only [Act.put, zSa, zSz, zSs]
 refine Tx.bar 63 rfl zDk (fun K hK => ?_)
 replace k4 := k4.below hS_4
 replace kb := bel kb hS_4
 clear hS_4
 refine step_storeG rfl _ _ _ rfl g4 (bytn 32 N2) rfl rfl _ k4 (by rw [bytn_len]; kernel_rfl) (by rw [bytn_len, bytn_len]) (bytn_one _ _) (fun w9 k4 hg hsz => ?_)
 have qb := below_gr kb hg hw4 kb.size
 refine hK (fun _ => True) 9999 _ _ ?_
 clear hK K
 try simp only [Act.put]
 try simp only [zSa, zSz, zSs]
 refine Tx.done zKr ?_
 go_wp2_with fail
 exact bodyPost_ret (results_arr2 Tryz.results246 _ _ _ rfl zKr _ k4 (by rw [bytn_len]; kernel_rfl)) rfl ⟨hXe.out, qb⟩
theorem macsum_long (a d : Option Addr) (cap cd : Nat) (key : List UInt8) (ls : List (List UInt8)) (hk : 64 < key.length) (hll : ls.length ≤ 1000) (w : World) (hs : Sl w (.slice a key.length cap) (u8s key)) (hls : Sls w (.slice d ls.length cd) ls) :
 Calls Tryz.prog 246 #[.slice a key.length cap, .slice d ls.length cd] w fun e w' => e = .returned (.agg (bytn 32 (macN key ls.flatten)).toArray) ∧ Below w.heap.size w w' := by
 have hm : Hid (macK key = nb 32 (shaa key)) := zH (by rw [macK, if_pos hk])
 obtain ⟨X, hX⟩ : ∃ X, Ending.returned (.agg (bytn 32 (macN key ls.flatten)).toArray) = X := ⟨_, rfl⟩
 rw [hX]
 rw [macN, hm.out] at hX
 obtain ⟨N0, hN0⟩ : ∃ N, shaa key = N := ⟨_, rfl⟩
 rw [hN0] at hX
 replace hX := zH hX
 have hlen := hs.len
 rw [u8s_len] at hlen
 obtain ⟨-, hlc, hcm⟩ := hlen
 unfold maxLen at hcm
 have cs0 := zH (show ∀ w g, Sls w (.slice (some ⟨g, 0, none⟩) 1 1) [key] → Calls Tryz.prog 20 #[.slice (some ⟨g, 0, none⟩) 1 1] w fun e w' => e = .returned (.agg (bytn 32 N0).toArray) ∧ Below w.heap.size w w' from fun w g h => by
  have q := shsuma_any (some ⟨g, 0, none⟩) 1 [key] w h
  rw [show [key].flatten = key by simp, hN0] at q
  exact q)
 obtain ⟨n0, hn0⟩ : ∃ n, key.length = n := ⟨_, rfl⟩
 rw [hn0] at hs hk hlc ⊢
 replace hn0 := zH hn0
 have hK0 := zH hs
 replace hls := zH hls
 have hnn : (64 : Int) < (n0 : Int) := by omega
 clear hs hm hN0
 go_enter Tryz.func246, Tryz.ntmps246
 go_upto_region 1 with fail
 refine wp_new1 (fun wA hsz k4 kb => ?_)
 replace k4 : Arr wA w.heap.size (bytn 32 0) := k4
 replace hK0 := zH (hK0.out.below kb)
 replace hls := zH (hls.out.below kb)
 clear hsz
 go_upto_region 2 with fail
 go_wp2_with fail
 refine (cs0.out _ _ (Sls.new1 hK0.out _)).mono ?_
 rintro e wB ⟨rfl, hb⟩
 have hb1 := bel (below_alloc wA _) hb
 replace k4 := k4.below hb1
 replace kb := bel kb hb1
 replace hls := zH (hls.out.below hb1)
 clear hb hb1 hK0 cs0
 go_upto_region 3 with (refine wpl_storeG rfl _ _ _ rfl _ (bytn 32 N0) rfl rfl _ (Arr.new _ _ _) (by rw [bytn_len]; kernel_rfl) (by rw [bytn_len]; rfl) (bytn_one _ _) (fun wC k5 hg hsz => ?_))
 have hb := below_fresh hg
 replace k4 := k4.below hb
 replace kb := bel kb hb
 replace hls := zH (hls.out.below hb)
 obtain ⟨g5, hg5⟩ : ∃ g, wB.heap.size = g := ⟨_, rfl⟩
 rw [hg5] at k5 ⊢
 clear hb hsz hg hg5 hnn hk
 rw [nb_u8s] at k5
 have hK := zH (Sl.ofArrN k5 (nb_len 32 N0) zDc)
 obtain ⟨k2, hk2⟩ : ∃ k, nb 32 N0 = k := ⟨_, rfl⟩
 have hn2 : Hid (k2.length = 32) := zH (by rw [← hk2, nb_len])
 rw [hk2] at hK hX
 clear k5 hk2
 go_upto_region 4 with fail
 obtain ⟨a2, n2, c2, hv⟩ : ∃ a n c, Value.slice (some ⟨g5, 0, none⟩) 32 32 = Value.slice a n c := ⟨_, _, _, rfl⟩
 have hv2 := hv
 simp only [Value.slice.injEq] at hv2
 obtain ⟨-, e2, -⟩ := hv2
 have hn2 : Hid (k2.length = n2) := zH (by rw [← e2]; exact hn2.out)
 have hn64 : Hid (n2 ≤ 64) := zH zOm
 rw [hv] at hK ⊢
 clear hv e2
 obtain ⟨wA, hwA⟩ : ∃ wA : World, wA = wC := ⟨_, rfl⟩
 rw [← hwA] at k4 kb hls hK ⊢
 clear hwA
 obtain ⟨vs, hvs, hvl, hv1, hvj⟩ := hls.out.vals
 have hvv := zH hvs
 replace hv1 := zH hv1
 replace hvj := zH hvj
 replace hvl := zH hvl
 clear hvs hls
 have cp1 := zH (show ∀ w', Below wA.heap.size wA w' → Calls Tryz.prog 291 #[.slice a2 n2 c2, .int .u8 54] w' fun e w2 => ∃ g, e = .returned (.slice (some ⟨g, 0, none⟩) 64 64) ∧ w'.heap.size ≤ g ∧ Arr w2 g (u8s (padL k2 54)) ∧ Below w'.heap.size w' w2 from fun w' hb => by
  have q := padded_any a2 c2 k2 54 (by rw [hn2.out]; exact hn64.out) w' (by rw [hn2.out]; exact hK.out.below hb)
  rw [hn2.out] at q
  exact q)
 have cp2 := zH (show ∀ w', Below wA.heap.size wA w' → Calls Tryz.prog 291 #[.slice a2 n2 c2, .int .u8 92] w' fun e w2 => ∃ g, e = .returned (.slice (some ⟨g, 0, none⟩) 64 64) ∧ w'.heap.size ≤ g ∧ Arr w2 g (u8s (padL k2 92)) ∧ Below w'.heap.size w' w2 from fun w' hb => by
  have q := padded_any a2 c2 k2 92 (by rw [hn2.out]; exact hn64.out) w' (by rw [hn2.out]; exact hK.out.below hb)
  rw [hn2.out] at q
  exact q)
 have hp1 : Hid ((padL k2 54).length = 64) := zH (padS_len (by rw [hn2.out]; exact hn64.out) _ _)
 have hp2 : Hid ((padL k2 92).length = 64) := zH (padS_len (by rw [hn2.out]; exact hn64.out) _ _)
 obtain ⟨i, hi, hz0, hz1, hz2⟩ := info_parts info_sl
 have hB0 := Below.refl wA.heap.size wA
 go_wp2_with fail
 refine (cp1.out _ hB0).mono ?_
 rintro e wB ⟨gp, rfl, hgp, kp, hb⟩
 have hpS := zH (Sl.ofArrN kp hp1.out zDc)
 have kbB := hb
 replace k4 := k4.below hb
 clear hB0 hb kp hgp cp1
 have kb2 := bel kb kbB
 have hszB := kb2.size
 go_wp2_with (at_builtin; refine wpList_append_sl rfl _ _ 38 rfl wB.heap.size 26 Tryz.underlying38 hi hz0 hz1 hz2 rfl _ _ _ rfl (own1 wB _ _) _ vs rfl ((hvv.out.below kbB).alloc _) hv1.out ?c2 ?c3 (by simp) (fun v' wC hown hg => ?_))
 case c2 => rw [hvl.out]; unfold maxLen; omega
 case c3 => rw [hvl.out]; omega
 have kbC : Below wB.heap.size wB wC := below_grown (below_alloc wB _) (own1 wB _ _) (by simp) hg
 have hS := Sls.cons (ls := ls) (Sl.of_own hown) (hpS.out.below kbC) hvl.out hvj.out (bel kbB kbC)
 clear hown hg hpS hi hz0 hz1 hz2
 obtain ⟨aS, cS, rfl⟩ : ∃ aS cS, v' = .slice aS (padL k2 54 :: ls).length cS := by
  obtain ⟨vs2, ⟨aS, cS, he, -⟩, hl2, -⟩ := hS
  exact ⟨aS, cS, by rw [he, hl2]⟩
 replace k4 := k4.below kbC
 have kb3 := bel kb2 kbC
 have kbAC := bel kbB kbC
 have cs1 := zH (shsuma_any _ _ _ wC hS)
 obtain ⟨N1, hN1⟩ : ∃ N, shaa (padL k2 54 :: ls).flatten = N := ⟨_, rfl⟩
 rw [hN1] at cs1
 rw [show padL k2 54 ++ ls.flatten = (padL k2 54 :: ls).flatten from rfl] at hX
 replace hN1 := zH hN1
 obtain ⟨n3, hn3⟩ : ∃ n, (padL k2 54 :: ls).length = n := ⟨_, rfl⟩
 rw [hn3] at cs1 ⊢
 clear hS hn3 kb kb2 kbB kbC hszB hvv
 go_wp2_with fail
 refine cs1.out.mono ?_
 rintro e wD ⟨rfl, hb⟩
 replace k4 := k4.below hb
 have kb := bel kb3 hb
 have kbA := bel kbAC hb
 clear hb kb3 kbAC cs1
 go_upto_region 5 with (refine wpl_storeG rfl _ _ _ rfl _ (bytn 32 N1) rfl rfl _ (Arr.new _ _ _) (by rw [bytn_len]; kernel_rfl) (by rw [bytn_len]; rfl) (bytn_one _ _) (fun wE k6 hg hsz => ?_))
 have hb := below_fresh hg
 have lt4 := k4.lt
 replace k4 := k4.below hb
 replace kb := bel kb hb
 replace kbA := bel kbA hb
 obtain ⟨g6, hg6⟩ : ∃ g, wD.heap.size = g := ⟨_, rfl⟩
 rw [hg6] at k6 lt4 ⊢
 clear hb hsz hg hg6
 rw [nb_u8s] at k6
 obtain ⟨g4, hg4⟩ : ∃ g, w.heap.size = g := ⟨_, rfl⟩
 rw [hg4] at k4 lt4 ⊢
 have hw4 : w.heap.size ≤ g4 := by omega
 clear hg4
 obtain ⟨N2, hN2⟩ : ∃ N, shaa [padL k2 92, nb 32 N1].flatten = N := ⟨_, rfl⟩
 have cs2 := zH (show ∀ w g, Sls w (.slice (some ⟨g, 0, none⟩) 2 2) [padL k2 92, nb 32 N1] → Calls Tryz.prog 20 #[.slice (some ⟨g, 0, none⟩) 2 2] w fun e w' => e = .returned (.agg (bytn 32 N2).toArray) ∧ Below w.heap.size w w' from fun w g h => by rw [← hN2]; exact shsuma_any _ _ [padL k2 92, nb 32 N1] w h)
 have hXe : Hid (Ending.returned (.agg (bytn 32 N2).toArray) = X) := zH (by rw [← hX.out, hN1.out, ← hN2]; simp)
 clear hN2
 refine Tx.start (fun w' => Below (wE).heap.size (wE) w') 5 6 rfl zKr ?_
 have hS_5 : Below (wE).heap.size (wE) (World.drew wE) := (Below.refl _ _).drew
 refine Tx.seg2 (A := ?_) 4 5 zKr (by exact hS_5) [0, 2] zKr ?_ ?_
 rotate_left
 · intro w' hB
   exact zRd
 refine Tx.eff 1 7 rfl zDk (fun K hK => ?_)
 go_simp
 refine (cp2.out _ (bel kbA hS_5)).mono ?_
 rintro e w_6 ⟨gq, rfl, hgq, kq, hb_6⟩
 have hS_6 := ext_trans hS_5 (Nat.le_refl _) hb_6
 refine hK (fun w' => Below (wE).heap.size (wE) w') _ _ hS_6 (fun _ h => h) ?_
 clear hK K hS_5
 try simp only [Act.put, zSa, zSz, zSs]
 have pq := Sl.ofArrN kq hp2.out zDc
 have p6 := Sl.ofArrN (k6.below hS_6) (nb_len 32 N1) zDc
 refine Tx.eff 3 15 rfl zDk (fun K hK => ?_)
 go_simp
 refine hK (fun w' => Below (wE).heap.size (wE) w') _ _ (ext_trans hS_6 (Nat.le_refl _) (below_alloc _ _)) (fun _ h => h) ?_
 clear hK K
 try simp only [Act.put, zSa, zSz, zSs]
 refine Tx.newF (F := fun w' => Sls w' (.slice (some ⟨(w_6).heap.size, 0, none⟩) 2 2) [padL k2 92, nb 32 N1]) (w0 := w_6) (Sls.new2 pq p6 _) (fun w1 h => h.below (Below.refl _ _).drew) (by first | exact .inl rfl | exact .inr rfl) (fun w_7 hS5 hb_7 => ?_)
 have hS_7 : Below (wE).heap.size (wE) w_7 := by first | exact hb_7 | exact ext_trans hS_6 (Nat.le_refl _) hb_7
 clear hS_6
 refine Tx.eff 4 31 rfl zDk (fun K hK => ?_)
 go_simp
 refine (cs2.out _ _ hS5).mono ?_
 rintro e w_8 ⟨rfl, hb_8⟩
 have hS_8 := ext_trans hS_7 (Nat.le_refl _) hb_8
 refine hK (fun w' => Below (wE).heap.size (wE) w') _ _ hS_8 (fun _ h => h) ?_
 clear hK K hb_8 hS_7
 try simp only [Act.put, zSa, zSz, zSs]
 refine Tx.bar 63 rfl zDk (fun K hK => ?_)
 replace k4 := k4.below hS_8
 replace kb := bel kb hS_8
 clear hS_8
 refine step_storeG rfl _ _ _ rfl g4 (bytn 32 N2) rfl rfl _ k4 (by rw [bytn_len]; kernel_rfl) (by rw [bytn_len, bytn_len]) (bytn_one _ _) (fun w9 k4 hg hsz => ?_)
 have qb := below_gr kb hg hw4 kb.size
 refine hK (fun _ => True) 9999 _ _ ?_
 clear hK K
 try simp only [Act.put]
 try simp only [zSa, zSz, zSs]
 refine Tx.done zKr ?_
 go_wp2_with fail
 exact bodyPost_ret (results_arr2 Tryz.results246 _ _ _ rfl zKr _ k4 (by rw [bytn_len]; kernel_rfl)) rfl ⟨hXe.out, qb⟩
theorem macsum_any (a d : Option Addr) (cap cd : Nat) (key : List UInt8) (ls : List (List UInt8)) (hll : ls.length ≤ 1000) (w : World) (hs : Sl w (.slice a key.length cap) (u8s key)) (hls : Sls w (.slice d ls.length cd) ls) :
 Calls Tryz.prog 246 #[.slice a key.length cap, .slice d ls.length cd] w fun e w' => e = .returned (.agg (bytn 32 (macN key ls.flatten)).toArray) ∧ Below w.heap.size w w' := by
 by_cases h : 64 < key.length
 · exact macsum_long a d cap cd key ls h hll w hs hls
 · exact macsum_short a d cap cd key ls zOm hll w hs hls
end Go.Proofs.YtibdgkhkhmdihaaGreatDoor
