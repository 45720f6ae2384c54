/- TopSigned: part 13 of its proof: lemmas and contracts, each with its conditions in its own statement; the last part holds the law itself. -/
import Derived.Test.YtncnlfpiondpnaaGreatJt12

set_option maxHeartbeats 4000000
set_option maxRecDepth 100000
namespace Go.Proofs.YtncnlfpiondpnaaGreat
open Go.RowKit
def shKa : List Nat := [1116352408, 1899447441, 3049323471, 3921009573, 961987163, 1508970993, 2453635748, 2870763221, 3624381080, 310598401, 607225278, 1426881987, 1925078388, 2162078206, 2614888103, 3248222580, 3835390401, 4022224774, 264347078, 604807628, 770255983, 1249150122, 1555081692, 1996064986, 2554220882, 2821834349, 2952996808, 3210313671, 3336571891, 3584528711, 113926993, 338241895, 666307205, 773529912, 1294757372, 1396182291, 1695183700, 1986661051, 2177026350, 2456956037, 2730485921, 2820302411, 3259730800, 3345764771, 3516065817, 3600352804, 4094571909, 275423344, 430227734, 506948616, 659060556, 883997877, 958139571, 1322822218, 1537002063, 1747873779, 1955562222, 2024104815, 2227730452, 2361852424, 2428436474, 2756734187, 3204031479, 3329325298]
def shIa : List Nat := [1779033703, 3144134277, 1013904242, 2773480762, 1359893119, 2600822924, 528734635, 1541459225]
def shPa (x : Nat) : Nat := rl x 25 ^^^ rl x 14 ^^^ x / 8
def shQa (x : Nat) : Nat := rl x 15 ^^^ rl x 13 ^^^ x / 1024
def shEa (x : Nat) : Nat := rl x 26 ^^^ rl x 21 ^^^ rl x 7
def shAa (x : Nat) : Nat := rl x 30 ^^^ rl x 19 ^^^ rl x 10
theorem shKa_ok : shKa.length = 64 ∧ W32 shKa := by unfold W32; decide
theorem shIa_ok : shIa.length = 8 ∧ W32 shIa := by unfold W32; decide
theorem div_lta {x : Nat} (h : x < 4294967296) (d : Nat) : x / d < 4294967296 := Nat.lt_of_le_of_lt (Nat.div_le_self _ _) h
theorem xo_lta {x y : Nat} (hx : x < 4294967296) (hy : y < 4294967296) : x ^^^ y < 4294967296 := Nat.xor_lt_two_pow (n := 32) hx hy
theorem an_lta {x y : Nat} (hx : x < 4294967296) : x &&& y < 4294967296 := Nat.lt_of_le_of_lt Nat.and_le_left hx
theorem shEa_lt {x : Nat} (h : x < 4294967296) : shEa x < 4294967296 := xo_lta (xo_lta (rl_lt h _) (rl_lt h _)) (rl_lt h _)
theorem shAa_lt {x : Nat} (h : x < 4294967296) : shAa x < 4294967296 := xo_lta (xo_lta (rl_lt h _) (rl_lt h _)) (rl_lt h _)
def schBa (bs : List UInt8) : Nat → List Nat
 | 0 => List.replicate 64 0
 | i + 1 => (schBa bs i).set (i / 4) (((schBa bs i).getD (i / 4) 0 * 256 % 4294967296) ||| (bs.getD i 0).toNat)
def schNa (l : List Nat) (t : Nat) : Nat := (shQa (l.getD (t - 2) 0) + l.getD (t - 7) 0 + shPa (l.getD (t - 15) 0) + l.getD (t - 16) 0) % 4294967296
def schWa (bs : List UInt8) : Nat → List Nat
 | 0 => schBa bs 64
 | j + 1 => (schWa bs j).set (16 + j) (schNa (schWa bs j) (16 + j))
def schLa (bs : List UInt8) : List Nat := schWa bs 48
theorem schBa_ok (bs : List UInt8) : ∀ i, (schBa bs i).length = 64 ∧ W32 (schBa bs i)
 | 0 => ⟨by simp [schBa], by
  intro x hx
  rw [schBa, List.mem_replicate] at hx
  omega⟩
 | i + 1 => ⟨by rw [schBa, List.length_set, (schBa_ok bs i).1], (schBa_ok bs i).2.set _ (Nat.or_lt_two_pow (n := 32) (Nat.mod_lt _ zDc) (Nat.lt_trans (UInt8.toNat_lt _) zDc))⟩
theorem schWa_ok (bs : List UInt8) : ∀ j, (schWa bs j).length = 64 ∧ W32 (schWa bs j)
 | 0 => schBa_ok bs 64
 | j + 1 => ⟨by rw [schWa, List.length_set, (schWa_ok bs j).1], (schWa_ok bs j).2.set _ (Nat.mod_lt _ zDc)⟩
def stva (h : List Nat) (bs : List UInt8) (n lg : Nat) : List Value := ws h ++ (ws shKa ++ (u8s bs ++ [.int .i64 (n : Int), .int .u64 (lg : Int)]))
section
variable {h : List Nat} {bs : List UInt8} {n lg : Nat} (hh : h.length = 8)
theorem stva_h {j : Nat} (hj : j < (ws h).length) : (stva h bs n lg)[0 + j]? = (ws h)[j]? := by
 rw [stva, Nat.zero_add, List.getElem?_append_left hj]
include hh
theorem stva_len (hb : bs.length = 64) : (stva h bs n lg).length = 138 := by simp [stva, ws_len, u8s_len, hb, hh, shKa_ok.1]
theorem stva_hj {j : Nat} (hj : j < 8) : (stva h bs n lg)[j]? = some (.int .u32 ((h.getD j 0 : Nat) : Int)) := by
 have := stva_h (h := h) (bs := bs) (n := n) (lg := lg) (j := j) (by rw [ws_len, hh]; exact hj)
 rw [Nat.zero_add] at this
 rw [this, ws_get (by rw [hh]; exact hj)]
theorem stva_k {j : Nat} (hj : j < 64) : (stva h bs n lg)[8 + j]? = some (.int .u32 ((shKa.getD j 0 : Nat) : Int)) := by
 rw [stva, List.getElem?_append_right (by rw [ws_len]; omega), ws_len, hh, show 8 + j - 8 = j by omega, List.getElem?_append_left (by rw [ws_len, shKa_ok.1]; exact hj), ws_get (by rw [shKa_ok.1]; exact hj)]
theorem stva_b {j : Nat} (hj : j < bs.length) : (stva h bs n lg)[72 + j]? = (u8s bs)[j]? := by
 rw [stva, List.getElem?_append_right (by rw [ws_len]; omega), ws_len, hh, List.getElem?_append_right (by rw [ws_len, shKa_ok.1]; omega), ws_len, shKa_ok.1, show 72 + j - 8 - 64 = j by omega, List.getElem?_append_left (by rw [u8s_len]; exact hj)]
theorem stva_n (hb : bs.length = 64) : (stva h bs n lg)[136]? = some (.int .i64 (n : Int)) := by
 rw [stva, List.getElem?_append_right (by rw [ws_len]; omega), ws_len, hh, List.getElem?_append_right (by rw [ws_len, shKa_ok.1]; omega), ws_len, shKa_ok.1, List.getElem?_append_right (by rw [u8s_len]; omega), u8s_len, hb]; rfl
theorem stva_l (hb : bs.length = 64) : (stva h bs n lg)[137]? = some (.int .u64 (lg : Int)) := by
 rw [stva, List.getElem?_append_right (by rw [ws_len]; omega), ws_len, hh, List.getElem?_append_right (by rw [ws_len, shKa_ok.1]; omega), ws_len, shKa_ok.1, List.getElem?_append_right (by rw [u8s_len]; omega), u8s_len, hb]; rfl
theorem stva_set_n {m : Nat} (hb : bs.length = 64) : (stva h bs n lg).set 136 (.int .i64 (m : Int)) = stva h bs m lg := by
 rw [stva, stva, List.set_append_right _ _ (by rw [ws_len]; omega), ws_len, hh, List.set_append_right _ _ (by rw [ws_len, shKa_ok.1]; omega), ws_len, shKa_ok.1, List.set_append_right _ _ (by rw [u8s_len]; omega), u8s_len, hb]; rfl
theorem stva_set_l {m : Nat} (hb : bs.length = 64) : (stva h bs n lg).set 137 (.int .u64 (m : Int)) = stva h bs n m := by
 rw [stva, stva, List.set_append_right _ _ (by rw [ws_len]; omega), ws_len, hh, List.set_append_right _ _ (by rw [ws_len, shKa_ok.1]; omega), ws_len, shKa_ok.1, List.set_append_right _ _ (by rw [u8s_len]; omega), u8s_len, hb]; rfl
theorem stva_set_b {j : Nat} {x : UInt8} (hj : j < bs.length) : (stva h bs n lg).set (72 + j) (.int .u8 (x.toNat : Int)) = stva h (bs.set j x) n lg := by
 rw [stva, stva, List.set_append_right _ _ (by rw [ws_len]; omega), ws_len, hh, List.set_append_right _ _ (by rw [ws_len, shKa_ok.1]; omega), ws_len, shKa_ok.1, show 72 + j - 8 - 64 = j by omega, List.set_append_left _ _ (by rw [u8s_len]; exact hj)]
 congr 3
 simp [u8s, List.map_set]
theorem stva_set_h {j x : Nat} (hj : j < 8) : (stva h bs n lg).set j (.int .u32 (x : Int)) = stva (h.set j x) bs n lg := by
 rw [stva, stva, List.set_append_left _ _ (by rw [ws_len, hh]; exact hj), ws_set]
end
theorem scheda_any {g : Nat} {h : List Nat} {bs : List UInt8} {n lg : Nat} (w : World) (k0 : Arr w g (stva h bs n lg)) (hh : h.length = 8) (hb : bs.length = 64) :
 Calls Tryz.prog 162 #[.pointer (some ⟨g, 0, none⟩)] w fun e w' => e = .returned (.agg (ws (schLa bs)).toArray) ∧ Below w.heap.size w w' := by
 have hr0 : Hid (∀ w', Arr w' g (stva h bs n lg) → w'.rangeAt g 72 (u8s bs)) := zH (fun w' hk => hk.range (fun j hj => stva_b hh (by rw [u8s_len] at hj; exact hj)))
 replace hb := zH hb
 clear hh
 have hl := zH (show (ws (schLa bs)).length = 64 by rw [ws_len]; exact (schWa_ok bs 48).1)
 obtain ⟨L, hL⟩ : ∃ L, schLa bs = L := ⟨_, rfl⟩
 rw [hL] at hl ⊢
 replace hL := zH hL
 go_enter Tryz.func162, Tryz.ntmps162
 go_upto_region 2 with fail
 refine wp_new2 (fun W hsz k2 k3 kb => ?_)
 have k2 : Arr W w.heap.size (ws (List.replicate 64 0)) := k2
 have k3 : Arr W (w.heap.size + 1) (ws (schBa bs 0)) := k3
 have lt0 := k0.lt
 have hr1 := hr0.out W (k0.below kb)
 obtain ⟨g2, hg2⟩ : ∃ g, w.heap.size = g := ⟨_, rfl⟩
 rw [hg2] at k2 k3 lt0 ⊢
 have hw2 : w.heap.size ≤ g2 := by omega
 clear hg2 hsz k0 hr0
 go_wp2_with (refine wpList_load_mid2 rfl _ _ rfl _ _ rfl zKr _ hr1 (by rw [u8s_len, hb.out]; kernel_rfl) ?_)
 clear hr1
 go_loopw [15] (fun iv wr => ∃ i : Nat, i ≤ 64 ∧ iv = .int .i64 i ∧ Arr wr g2 (ws (List.replicate 64 0)) ∧ Arr wr (g2 + 1) (ws (schBa bs i)) ∧ Below w.heap.size w wr) (fun iv _ => 64 - (intOf iv).toNat)
 case atStart => exact ⟨0, by omega, rfl, k2, k3, kb⟩
 case round =>
 clear k2 k3 kb
 obtain ⟨i, hi, rfl, k2, k3, kb⟩ := hrel
 have hi0 : (0 : Int) ≤ (i : Int) := by omega
 by_cases hin : i < 64
 · have hi1 : (i : Int) < 64 := by omega
   have hib : i < bs.length := by rw [hb.out]; exact hin
   obtain ⟨inf, hinf, -, hz1, -⟩ := info_parts info_u8
   have hix := run_index_arr (P := Tryz.prog) wr 33 5 64 _ inf Tryz.underlying33 Tryz.underlying5 rfl hinf hz1 (u8s bs) i _ hin (u8s_get bs i hib)
   obtain ⟨x, hx⟩ : ∃ x, (bs[i]).toNat = x := ⟨_, rfl⟩
   have lx : x < 256 := by rw [← hx]; exact (bs[i]).toNat_lt
   rw [hx] at hix
   have hxd : Hid ((bs.getD i 0).toNat = x) := zH (by rw [← hx, List.getD_eq_getElem?_getD, List.getElem?_eq_getElem hib]; rfl)
   clear hx hib hinf hz1
   have ok := schBa_ok bs i
   have hcx := ws_get (l := schBa bs i) (j := i / 4) (by rw [ok.1]; omega)
   have lyy := ok.2.get (i / 4)
   obtain ⟨y, hy⟩ : ∃ y, (schBa bs i).getD (i / 4) 0 = y := ⟨_, rfl⟩
   rw [hy] at hcx lyy
   have hst : Hid ((ws (schBa bs i)).set (i / 4) (.int .u32 (((y * 256 % 4294967296) ||| x : Nat) : Int)) = ws (schBa bs (i + 1))) := zH (by rw [ws_set, schBa, hy, hxd.out])
   have hsl : Hid ((ws (schBa bs i)).length = 64) := zH (by rw [ws_len, ok.1])
   obtain ⟨l, hl⟩ : ∃ l, schBa bs i = l := ⟨_, rfl⟩
   rw [hl] at k3 hcx hst hsl
   obtain ⟨q, hq⟩ : ∃ q, i / 4 = q := ⟨_, rfl⟩
   rw [hq] at hcx hst
   have fq : (i : Int) / 4 = (q : Int) := by omega
   have hq0 : (0 : Int) ≤ (q : Int) := by omega
   have hq1 : (q : Int) < 64 := by omega
   have fw : IntKind.i64.wrap (q : Int) = (q : Int) := i64_in zOm
   have fx : IntKind.u32.wrap (x : Int) = (x : Int) := u32_in zOm
   have fo := or_u32 (a := y * 256 % 4294967296) (b := x) (Nat.mod_lt _ zDc) (Nat.lt_trans lx zDc)
   rw [show ((y * 256 % 4294967296 : Nat) : Int) = (y : Int) * 256 % 4294967296 by omega] at fo
   clear hy hl ok hxd
   obtain ⟨z, hz⟩ : ∃ z, (y * 256 % 4294967296) ||| x = z := ⟨_, rfl⟩
   rw [hz] at fo hst
   replace hq := zH hq
   clear hz
   have hcel := k3.cell hcx
   have hfro := k3.frozen q
   replace hcx := zH hcx
   go_wp2_with fail
   replace k2 := k2.other (a := ⟨g2 + 1, q, none⟩) (by simp) (.int .u32 (z : Int))
   replace k3 := k3.set q (.int .u32 (z : Int))
   rw [hst.out] at k3
   exact ⟨⟨i + 1, by omega, by go_num, k2, k3, kb.setCell (by simp; omega) _⟩, by simp [intOf]; omega⟩
 · have dj : decide ((i : Int) < 64) = false := decide_eq_false zOm
   have hie : Hid (i = 64) := zH zOm
   rw [hie.out] at k3
   replace k3 : Arr wr (g2 + 1) (ws (schWa bs (16 - 16))) := k3
   clear hi hin hi0
   obtain ⟨ic, hic⟩ : ∃ ic : Int, (i : Int) = ic := ⟨_, rfl⟩
   rw [hic] at dj ⊢
   clear hic
   go_wp2_with fail
   clear dj
   go_loopw [6] (fun iv wr => ∃ t : Nat, 16 ≤ t ∧ t ≤ 64 ∧ iv = .int .i64 t ∧ Arr wr g2 (ws (List.replicate 64 0)) ∧ Arr wr (g2 + 1) (ws (schWa bs (t - 16))) ∧ Below w.heap.size w wr) (fun iv _ => 64 - (intOf iv).toNat)
   case atStart => exact ⟨16, by omega, by omega, rfl, k2, k3, kb⟩
   case round =>
   clear k2 k3 kb
   obtain ⟨t, ht0, ht, rfl, k2, k3, kb⟩ := hrel
   have hi0 : (0 : Int) ≤ (t : Int) := by omega
   by_cases hin : t < 64
   · have hi1 : (t : Int) < 64 := by omega
     have ok := schWa_ok bs (t - 16)
     have hst0 : (ws (schWa bs (t - 16))).set t (.int .u32 ((schNa (schWa bs (t - 16)) t : Nat) : Int)) = ws (schWa bs (t + 1 - 16)) := by
      rw [show t + 1 - 16 = t - 16 + 1 by omega, schWa, show 16 + (t - 16) = t by omega, ws_set]
     obtain ⟨l, hl⟩ : ∃ l, schWa bs (t - 16) = l := ⟨_, rfl⟩
     rw [hl] at k3 ok hst0
     clear hl
     obtain ⟨t15, e15⟩ : ∃ q, t - 15 = q := ⟨_, rfl⟩
     obtain ⟨t2, e2⟩ : ∃ q, t - 2 = q := ⟨_, rfl⟩
     obtain ⟨t7, e7⟩ : ∃ q, t - 7 = q := ⟨_, rfl⟩
     obtain ⟨t16, e16⟩ : ∃ q, t - 16 = q := ⟨_, rfl⟩
     have c15 := zH (ws_get (l := l) (j := t15) (by rw [ok.1]; omega))
     have c2 := zH (ws_get (l := l) (j := t2) (by rw [ok.1]; omega))
     have c7 := zH (ws_get (l := l) (j := t7) (by rw [ok.1]; omega))
     have c16 := zH (ws_get (l := l) (j := t16) (by rw [ok.1]; omega))
     have hsl : Hid ((ws l).length = 64) := zH (by rw [ws_len, ok.1])
     have l15 := ok.2.get t15
     have l2 := ok.2.get t2
     rw [schNa, e15, e2, e7, e16] at hst0
     clear ok
     obtain ⟨x, hx⟩ : ∃ x, l.getD t15 0 = x := ⟨_, rfl⟩
     obtain ⟨y, hy⟩ : ∃ x, l.getD t2 0 = x := ⟨_, rfl⟩
     obtain ⟨x7, hx7⟩ : ∃ x, l.getD t7 0 = x := ⟨_, rfl⟩
     obtain ⟨x16, hx16⟩ : ∃ x, l.getD t16 0 = x := ⟨_, rfl⟩
     rw [hx] at c15 l15 hst0
     rw [hy] at c2 l2 hst0
     rw [hx7] at c7 hst0
     rw [hx16] at c16 hst0
     clear hx hy hx7 hx16
     have m15 : IntKind.i64.wrap ((t : Int) - 15) = (t15 : Int) := by rw [i64_in zOm]; omega
     have m2 : IntKind.i64.wrap ((t : Int) - 2) = (t2 : Int) := by rw [i64_in zOm]; omega
     have m7 : IntKind.i64.wrap ((t : Int) - 7) = (t7 : Int) := by rw [i64_in zOm]; omega
     have m16 : IntKind.i64.wrap ((t : Int) - 16) = (t16 : Int) := by rw [i64_in zOm]; omega
     have b15 : (0 : Int) ≤ (t15 : Int) := by omega
     have b2 : (0 : Int) ≤ (t2 : Int) := by omega
     have b7 : (0 : Int) ≤ (t7 : Int) := by omega
     have b16 : (0 : Int) ≤ (t16 : Int) := by omega
     have d15 : (t15 : Int) < 64 := by omega
     have d2 : (t2 : Int) < 64 := by omega
     have d7 : (t7 : Int) < 64 := by omega
     have d16 : (t16 : Int) < 64 := by omega
     clear e15 e2 e7
     replace e16 := zH e16
     go_upto_region 10 with fail
     obtain ⟨wq, rfl⟩ : ∃ wq : World, wq = wr := ⟨_, rfl⟩
     refine Tx.start (fun w' => Below (wq).heap.size (wq) w') 9999 10 rfl zKr ?_
     have hS_1 : Below (wq).heap.size (wq) (World.drew wq) := (Below.refl _ _).drew
     refine Tx.seg (A := ?_) 0 1023 zKr (by exact hS_1) [0, 1, 2, 3, 4, 5, 6, 7, 8, 9] zKr ?_ ?_
     rotate_left
     · intro w' hB
       have f1 := (k3.below hB).cell c15.out
       have f2 := (k3.below hB).cell c2.out
       exact zRd
     refine Tx.done zKr ?_
     replace k2 := k2.below hS_1
     replace k3 := k3.below hS_1
     replace kb := bel kb hS_1
     clear hS_1 m15 m2 b15 b2 d15 d2 c15 c2
     go_wp2_with fail
     obtain ⟨p1, p1e⟩ : ∃ r, rl x 25 = r := ⟨_, rfl⟩
     have p1l : p1 < 4294967296 := by rw [← p1e]; exact rl_lt l15 _
     obtain ⟨p2, p2e⟩ : ∃ r, rl x 14 = r := ⟨_, rfl⟩
     have p2l : p2 < 4294967296 := by rw [← p2e]; exact rl_lt l15 _
     obtain ⟨p3, p3e⟩ : ∃ r, x / 8 = r := ⟨_, rfl⟩
     have p3l : p3 < 4294967296 := by rw [← p3e]; exact div_lta l15 _
     have p3f : (x : Int) / 8 = (p3 : Int) := by omega
     obtain ⟨p4, p4e⟩ : ∃ r, p1 ^^^ p2 = r := ⟨_, rfl⟩
     have p4l : p4 < 4294967296 := by rw [← p4e]; exact xo_lta p1l p2l
     have p4f : bits .xor .u32 (p1 : Int) (p2 : Int) = (p4 : Int) := by rw [xor_u32 p1l p2l, p4e]
     obtain ⟨pz, pze⟩ : ∃ r, shPa x = r := ⟨_, rfl⟩
     have p5f : bits .xor .u32 (p4 : Int) (p3 : Int) = (pz : Int) := by rw [xor_u32 p4l p3l, ← pze, shPa, p1e, p2e, p3e, p4e]
     rw [pze] at hst0
     replace p1e := zH p1e
     replace p2e := zH p2e
     clear p4e pze p1l p2l p3l p4l p3e
     obtain ⟨q1, q1e⟩ : ∃ r, rl y 15 = r := ⟨_, rfl⟩
     have q1l : q1 < 4294967296 := by rw [← q1e]; exact rl_lt l2 _
     obtain ⟨q2, q2e⟩ : ∃ r, rl y 13 = r := ⟨_, rfl⟩
     have q2l : q2 < 4294967296 := by rw [← q2e]; exact rl_lt l2 _
     obtain ⟨q3, q3e⟩ : ∃ r, y / 1024 = r := ⟨_, rfl⟩
     have q3l : q3 < 4294967296 := by rw [← q3e]; exact div_lta l2 _
     have q3f : (y : Int) / 1024 = (q3 : Int) := by omega
     obtain ⟨q4, q4e⟩ : ∃ r, q1 ^^^ q2 = r := ⟨_, rfl⟩
     have q4l : q4 < 4294967296 := by rw [← q4e]; exact xo_lta q1l q2l
     have q4f : bits .xor .u32 (q1 : Int) (q2 : Int) = (q4 : Int) := by rw [xor_u32 q1l q2l, q4e]
     obtain ⟨qz, qze⟩ : ∃ r, shQa y = r := ⟨_, rfl⟩
     have q5f : bits .xor .u32 (q4 : Int) (q3 : Int) = (qz : Int) := by rw [xor_u32 q4l q3l, ← qze, shQa, q1e, q2e, q3e, q4e]
     rw [qze] at hst0
     replace q1e := zH q1e
     replace q2e := zH q2e
     clear q4e qze q1l q2l q3l q4l q3e
     go_wp2_with fail
     refine (rotra_7 l15 p1e.out _).mono ?_
     rintro e w_2 ⟨rfl, hb_2⟩
     have k2 := k2.below hb_2
     have k3 := k3.below hb_2
     have kb := bel kb hb_2
     clear hb_2
     go_wp2_with fail
     refine (rotra_18 l15 p2e.out _).mono ?_
     rintro e w_3 ⟨rfl, hb_3⟩
     have k2 := k2.below hb_3
     have k3 := k3.below hb_3
     have kb := bel kb hb_3
     clear hb_3
     go_wp2_with fail
     refine (rotra_17 l2 q1e.out _).mono ?_
     rintro e w_4 ⟨rfl, hb_4⟩
     have k2 := k2.below hb_4
     have k3 := k3.below hb_4
     have kb := bel kb hb_4
     clear hb_4
     go_wp2_with fail
     refine (rotra_19 l2 q2e.out _).mono ?_
     rintro e w_5 ⟨rfl, hb_5⟩
     have k2 := k2.below hb_5
     have k3 := k3.below hb_5
     have kb := bel kb hb_5
     clear hb_5
     clear p1e p2e q1e q2e
     obtain ⟨s1, hs1⟩ : ∃ s, (qz + x7) % 4294967296 = s := ⟨_, rfl⟩
     obtain ⟨s2, hs2⟩ : ∃ s, (s1 + pz) % 4294967296 = s := ⟨_, rfl⟩
     obtain ⟨s3, hs3⟩ : ∃ s, (s2 + x16) % 4294967296 = s := ⟨_, rfl⟩
     have a1 : IntKind.u32.wrap ((qz : Int) + (x7 : Int)) = (s1 : Int) := by rw [show ((qz : Int) + (x7 : Int)) = ((qz + x7 : Nat) : Int) by omega, u32_mod, hs1]
     have a2 : IntKind.u32.wrap ((s1 : Int) + (pz : Int)) = (s2 : Int) := by rw [show ((s1 : Int) + (pz : Int)) = ((s1 + pz : Nat) : Int) by omega, u32_mod, hs2]
     have a3 : IntKind.u32.wrap ((s2 : Int) + (x16 : Int)) = (s3 : Int) := by rw [show ((s2 : Int) + (x16 : Int)) = ((s2 + x16 : Nat) : Int) by omega, u32_mod, hs3]
     have hst : Hid ((ws l).set t (.int .u32 (s3 : Int)) = ws (schWa bs (t + 1 - 16))) := zH (by rw [← hst0, show (qz + x7 + pz + x16) % 4294967296 = s3 by omega])
     clear hst0 hs1 hs2 hs3
     go_upto_region 13 with fail
     obtain ⟨wq, hwq⟩ : ∃ wq : World, w_5 = wq := ⟨_, rfl⟩
     rw [hwq] at k2 k3 kb ⊢
     clear hwq
     refine Tx.start (fun w' => Below (wq).heap.size (wq) w') 15 16 rfl zKr ?_
     have hS_6 : Below (wq).heap.size (wq) (World.drew wq) := (Below.refl _ _).drew
     refine Tx.seg (A := ?_) 1 32767 zKr (by exact hS_6) [0, 1, 2, 3, 4, 5, 6, 7, 8, 9, 10, 11, 12, 13, 14] zKr ?_ ?_
     rotate_left
     · intro w' hB
       have f1 := (k3.below hB).cell c7.out
       have f2 := (k3.below hB).cell c16.out
       exact zRd
     refine Tx.bar 65535 rfl zDk (fun K hK => ?_)
     replace k2 := k2.below hS_6
     replace k3 := k3.below hS_6
     replace kb := bel kb hS_6
     clear hS_6
     refine step_cellG rfl _ _ _ rfl (g2 + 1) t (.int .u32 (s3 : Int)) rfl rfl _ k3 zKr (by rw [hsl.out]; exact hin) rfl (fun w5 k3 hg hsz => ?_)
     rw [hst.out] at k3
     replace k2 := k2.kept hg zOm
     replace kb := below_gr kb hg zOm kb.size
     refine hK (fun _ => True) 9999 _ _ ?_
     clear hK K
     try simp only [Act.put]
     try simp only [zSa, zSz, zSs]
     refine Tx.done zKr ?_
     go_wp2_with fail
     exact ⟨⟨t + 1, by omega, by omega, by go_num, k2, k3, kb⟩, by simp [intOf]; omega⟩
   · have dj : decide ((t : Int) < 64) = false := decide_eq_false zOm
     have hie : Hid (t = 64) := zH zOm
     rw [hie.out] at k3
     replace k3 : Arr wr (g2 + 1) (ws (schLa bs)) := k3
     rw [hL.out] at k3
     clear hL hi0 hin ht ht0
     obtain ⟨ic, hic⟩ : ∃ ic : Int, (t : Int) = ic := ⟨_, rfl⟩
     rw [hic] at dj ⊢
     clear hic hie
     go_wp2_with (first | (refine wpList_load_arr2 rfl _ _ rfl _ rfl zDk _ k3 (by rw [hl.out]; kernel_rfl) ?_) | (refine wpl_storeG rfl _ _ _ rfl _ (ws L) rfl rfl _ k2 (by rw [hl.out]; kernel_rfl) (by rw [hl.out, ws_len]; rfl) (ws_one _) (fun w7 k2 hg hsz => ?_)))
     have qb := below_gr kb hg zOm kb.size
     exact bodyPost_ret (results_arr2 Tryz.results162 _ _ _ rfl zKr _ k2 (by rw [hl.out]; kernel_rfl)) rfl ⟨rfl, qb⟩
end Go.Proofs.YtncnlfpiondpnaaGreat
