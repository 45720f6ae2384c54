/- PortcullisWrong: part 4 of its proof: lemmas and contracts, each with its conditions in its own statement; the last part holds the law itself. -/
import Derived.Test.YtibdgkhkhmdihaaGreatDoorJe03

set_option maxHeartbeats 4000000
set_option maxRecDepth 100000
namespace Go.Proofs.YtibdgkhkhmdihaaGreatDoor
open Go.RowKit
def shKa : List Nat := [1116352408, 1899447441, 3049323471, 3921009573, 961987163, 1508970993, 2453635748, 2870763221, 3624381080, 310598401, 607225278, 1426881987, 1925078388, 2162078206, 2614888103, 3248222580, 3835390401, 4022224774, 264347078, 604807628, 770255983, 1249150122, 1555081692, 1996064986, 2554220882, 2821834349, 2952996808, 3210313671, 3336571891, 3584528711, 113926993, 338241895, 666307205, 773529912, 1294757372, 1396182291, 1695183700, 1986661051, 2177026350, 2456956037, 2730485921, 2820302411, 3259730800, 3345764771, 3516065817, 3600352804, 4094571909, 275423344, 430227734, 506948616, 659060556, 883997877, 958139571, 1322822218, 1537002063, 1747873779, 1955562222, 2024104815, 2227730452, 2361852424, 2428436474, 2756734187, 3204031479, 3329325298]
def shIa : List Nat := [1779033703, 3144134277, 1013904242, 2773480762, 1359893119, 2600822924, 528734635, 1541459225]
def shPa (x : Nat) : Nat := rl x 25 ^^^ rl x 14 ^^^ x / 8
def shQa (x : Nat) : Nat := rl x 15 ^^^ rl x 13 ^^^ x / 1024
def shEa (x : Nat) : Nat := rl x 26 ^^^ rl x 21 ^^^ rl x 7
def shAa (x : Nat) : Nat := rl x 30 ^^^ rl x 19 ^^^ rl x 10
theorem shKa_ok : shKa.length = 64 ∧ W32 shKa := by unfold W32; decide
theorem shIa_ok : shIa.length = 8 ∧ W32 shIa := by unfold W32; decide
theorem div_lta {x : Nat} (h : x < 4294967296) (d : Nat) : x / d < 4294967296 := Nat.lt_of_le_of_lt (Nat.div_le_self _ _) h
theorem xo_lta {x y : Nat} (hx : x < 4294967296) (hy : y < 4294967296) : x ^^^ y < 4294967296 := Nat.xor_lt_two_pow (n := 32) hx hy
theorem an_lta {x y : Nat} (hx : x < 4294967296) : x &&& y < 4294967296 := Nat.lt_of_le_of_lt Nat.and_le_left hx
theorem shEa_lt {x : Nat} (h : x < 4294967296) : shEa x < 4294967296 := xo_lta (xo_lta (rl_lt h _) (rl_lt h _)) (rl_lt h _)
theorem shAa_lt {x : Nat} (h : x < 4294967296) : shAa x < 4294967296 := xo_lta (xo_lta (rl_lt h _) (rl_lt h _)) (rl_lt h _)
def schBa (bs : List UInt8) : Nat → List Nat
 | 0 => List.replicate 64 0
 | i + 1 => (schBa bs i).set (i / 4) (((schBa bs i).getD (i / 4) 0 * 256 % 4294967296) ||| (bs.getD i 0).toNat)
def schNa (l : List Nat) (t : Nat) : Nat := (shQa (l.getD (t - 2) 0) + l.getD (t - 7) 0 + shPa (l.getD (t - 15) 0) + l.getD (t - 16) 0) % 4294967296
def schWa (bs : List UInt8) : Nat → List Nat
 | 0 => schBa bs 64
 | j + 1 => (schWa bs j).set (16 + j) (schNa (schWa bs j) (16 + j))
def schLa (bs : List UInt8) : List Nat := schWa bs 48
theorem schBa_ok (bs : List UInt8) : ∀ i, (schBa bs i).length = 64 ∧ W32 (schBa bs i)
 | 0 => ⟨by simp [schBa], by
  intro x hx
  rw [schBa, List.mem_replicate] at hx
  omega⟩
 | i + 1 => ⟨by rw [schBa, List.length_set, (schBa_ok bs i).1], (schBa_ok bs i).2.set _ (Nat.or_lt_two_pow (n := 32) (Nat.mod_lt _ zDc) (Nat.lt_trans (UInt8.toNat_lt _) zDc))⟩
theorem schWa_ok (bs : List UInt8) : ∀ j, (schWa bs j).length = 64 ∧ W32 (schWa bs j)
 | 0 => schBa_ok bs 64
 | j + 1 => ⟨by rw [schWa, List.length_set, (schWa_ok bs j).1], (schWa_ok bs j).2.set _ (Nat.mod_lt _ zDc)⟩
def stva (h : List Nat) (bs : List UInt8) (n lg : Nat) : List Value := ws h ++ (ws shKa ++ (u8s bs ++ [.int .i64 (n : Int), .int .u64 (lg : Int)]))
section
variable {h : List Nat} {bs : List UInt8} {n lg : Nat} (hh : h.length = 8)
theorem stva_h {j : Nat} (hj : j < (ws h).length) : (stva h bs n lg)[0 + j]? = (ws h)[j]? := by
 rw [stva, Nat.zero_add, List.getElem?_append_left hj]
include hh
theorem stva_len (hb : bs.length = 64) : (stva h bs n lg).length = 138 := by simp [stva, ws_len, u8s_len, hb, hh, shKa_ok.1]
theorem stva_hj {j : Nat} (hj : j < 8) : (stva h bs n lg)[j]? = some (.int .u32 ((h.getD j 0 : Nat) : Int)) := by
 have := stva_h (h := h) (bs := bs) (n := n) (lg := lg) (j := j) (by rw [ws_len, hh]; exact hj)
 rw [Nat.zero_add] at this
 rw [this, ws_get (by rw [hh]; exact hj)]
theorem stva_k {j : Nat} (hj : j < 64) : (stva h bs n lg)[8 + j]? = some (.int .u32 ((shKa.getD j 0 : Nat) : Int)) := by
 rw [stva, List.getElem?_append_right (by rw [ws_len]; omega), ws_len, hh, show 8 + j - 8 = j by omega, List.getElem?_append_left (by rw [ws_len, shKa_ok.1]; exact hj), ws_get (by rw [shKa_ok.1]; exact hj)]
theorem stva_b {j : Nat} (hj : j < bs.length) : (stva h bs n lg)[72 + j]? = (u8s bs)[j]? := by
 rw [stva, List.getElem?_append_right (by rw [ws_len]; omega), ws_len, hh, List.getElem?_append_right (by rw [ws_len, shKa_ok.1]; omega), ws_len, shKa_ok.1, show 72 + j - 8 - 64 = j by omega, List.getElem?_append_left (by rw [u8s_len]; exact hj)]
theorem stva_n (hb : bs.length = 64) : (stva h bs n lg)[136]? = some (.int .i64 (n : Int)) := by
 rw [stva, List.getElem?_append_right (by rw [ws_len]; omega), ws_len, hh, List.getElem?_append_right (by rw [ws_len, shKa_ok.1]; omega), ws_len, shKa_ok.1, List.getElem?_append_right (by rw [u8s_len]; omega), u8s_len, hb]; rfl
theorem stva_l (hb : bs.length = 64) : (stva h bs n lg)[137]? = some (.int .u64 (lg : Int)) := by
 rw [stva, List.getElem?_append_right (by rw [ws_len]; omega), ws_len, hh, List.getElem?_append_right (by rw [ws_len, shKa_ok.1]; omega), ws_len, shKa_ok.1, List.getElem?_append_right (by rw [u8s_len]; omega), u8s_len, hb]; rfl
theorem stva_set_n {m : Nat} (hb : bs.length = 64) : (stva h bs n lg).set 136 (.int .i64 (m : Int)) = stva h bs m lg := by
 rw [stva, stva, List.set_append_right _ _ (by rw [ws_len]; omega), ws_len, hh, List.set_append_right _ _ (by rw [ws_len, shKa_ok.1]; omega), ws_len, shKa_ok.1, List.set_append_right _ _ (by rw [u8s_len]; omega), u8s_len, hb]; rfl
theorem stva_set_l {m : Nat} (hb : bs.length = 64) : (stva h bs n lg).set 137 (.int .u64 (m : Int)) = stva h bs n m := by
 rw [stva, stva, List.set_append_right _ _ (by rw [ws_len]; omega), ws_len, hh, List.set_append_right _ _ (by rw [ws_len, shKa_ok.1]; omega), ws_len, shKa_ok.1, List.set_append_right _ _ (by rw [u8s_len]; omega), u8s_len, hb]; rfl
theorem stva_set_b {j : Nat} {x : UInt8} (hj : j < bs.length) : (stva h bs n lg).set (72 + j) (.int .u8 (x.toNat : Int)) = stva h (bs.set j x) n lg := by
 rw [stva, stva, List.set_append_right _ _ (by rw [ws_len]; omega), ws_len, hh, List.set_append_right _ _ (by rw [ws_len, shKa_ok.1]; omega), ws_len, shKa_ok.1, show 72 + j - 8 - 64 = j by omega, List.set_append_left _ _ (by rw [u8s_len]; exact hj)]
 congr 3
 simp [u8s, List.map_set]
theorem stva_set_h {j x : Nat} (hj : j < 8) : (stva h bs n lg).set j (.int .u32 (x : Int)) = stva (h.set j x) bs n lg := by
 rw [stva, stva, List.set_append_left _ _ (by rw [ws_len, hh]; exact hj), ws_set]
end
theorem scheda_any {g : Nat} {h : List Nat} {bs : List UInt8} {n lg : Nat} (w : World) (k0 : Arr w g (stva h bs n lg)) (hh : h.length = 8) (hb : bs.length = 64) :
 Calls Tryz.prog 113 #[.pointer (some ⟨g, 0, none⟩)] w fun e w' => e = .returned (.agg (ws (schLa bs)).toArray) ∧ Below w.heap.size w w' := by
 have hr0 : Hid (∀ w', Arr w' g (stva h bs n lg) → w'.rangeAt g 72 (u8s bs)) := zH (fun w' hk => hk.range (fun j hj => stva_b hh (by rw [u8s_len] at hj; exact hj)))
 replace hb := zH hb
 clear hh
 have hl := zH (show (ws (schLa bs)).length = 64 by rw [ws_len]; exact (schWa_ok bs 48).1)
 obtain ⟨L, hL⟩ : ∃ L, schLa bs = L := ⟨_, rfl⟩
 rw [hL] at hl ⊢
 replace hL := zH hL
 go_enter Tryz.func113, Tryz.ntmps113
 go_upto_region 2 with fail
 refine wp_new2 (fun W hsz k2 k3 kb => ?_)
 have k2 : Arr W w.heap.size (ws (List.replicate 64 0)) := k2
 have k3 : Arr W (w.heap.size + 1) (ws (schBa bs 0)) := k3
 have lt0 := k0.lt
 have hr1 := hr0.out W (k0.below kb)
 obtain ⟨g2, hg2⟩ : ∃ g, w.heap.size = g := ⟨_, rfl⟩
 rw [hg2] at k2 k3 lt0 ⊢
 have hw2 : w.heap.size ≤ g2 := by omega
 clear hg2 hsz k0 hr0
 go_wp2_with (refine wpList_load_mid2 rfl _ _ rfl _ _ rfl zKr _ hr1 (by rw [u8s_len, hb.out]; kernel_rfl) ?_)
 clear hr1
 go_loopw [15] (fun iv wr => ∃ i : Nat, i ≤ 64 ∧ iv = .int .i64 i ∧ Arr wr g2 (ws (List.replicate 64 0)) ∧ Arr wr (g2 + 1) (ws (schBa bs i)) ∧ Below w.heap.size w wr) (fun iv _ => 64 - (intOf iv).toNat)
 case atStart => exact ⟨0, by omega, rfl, k2, k3, kb⟩
 case round =>
 clear k2 k3 kb
 obtain ⟨i, hi, rfl, k2, k3, kb⟩ := hrel
 have hi0 : (0 : Int) ≤ (i : Int) := by omega
 by_cases hin : i < 64
 · have hi1 : (i : Int) < 64 := by omega
   have hib : i < bs.length := by rw [hb.out]; exact hin
   obtain ⟨inf, hinf, -, hz1, -⟩ := info_parts info_u8
   have hix := run_index_arr (P := Tryz.prog) wr 78 5 64 _ inf Tryz.underlying78 Tryz.underlying5 rfl hinf hz1 (u8s bs) i _ hin (u8s_get bs i hib)
   obtain ⟨x, hx⟩ : ∃ x, (bs[i]).toNat = x := ⟨_, rfl⟩
   have lx : x < 256 := by rw [← hx]; exact (bs[i]).toNat_lt
   rw [hx] at hix
   have hxd : Hid ((bs.getD i 0).toNat = x) := zH (by rw [← hx, List.getD_eq_getElem?_getD, List.getElem?_eq_getElem hib]; rfl)
   clear hx hib hinf hz1
   have ok := schBa_ok bs i
   have hcx := ws_get (l := schBa bs i) (j := i / 4) (by rw [ok.1]; omega)
   have lyy := ok.2.get (i / 4)
   obtain ⟨y, hy⟩ : ∃ y, (schBa bs i).getD (i / 4) 0 = y := ⟨_, rfl⟩
   rw [hy] at hcx lyy
   have hst : Hid ((ws (schBa bs i)).set (i / 4) (.int .u32 (((y * 256 % 4294967296) ||| x : Nat) : Int)) = ws (schBa bs (i + 1))) := zH (by rw [ws_set, schBa, hy, hxd.out])
   have hsl : Hid ((ws (schBa bs i)).length = 64) := zH (by rw [ws_len, ok.1])
   obtain ⟨l, hl⟩ : ∃ l, schBa bs i = l := ⟨_, rfl⟩
   rw [hl] at k3 hcx hst hsl
   obtain ⟨q, hq⟩ : ∃ q, i / 4 = q := ⟨_, rfl⟩
   rw [hq] at hcx hst
   have fq : (i : Int) / 4 = (q : Int) := by omega
   have hq0 : (0 : Int) ≤ (q : Int) := by omega
   have hq1 : (q : Int) < 64 := by omega
   have fw : IntKind.i64.wrap (q : Int) = (q : Int) := i64_in zOm
   have fx : IntKind.u32.wrap (x : Int) = (x : Int) := u32_in zOm
   have fo := or_u32 (a := y * 256 % 4294967296) (b := x) (Nat.mod_lt _ zDc) (Nat.lt_trans lx zDc)
   rw [show ((y * 256 % 4294967296 : Nat) : Int) = (y : Int) * 256 % 4294967296 by omega] at fo
   clear hy hl ok hxd
   obtain ⟨z, hz⟩ : ∃ z, (y * 256 % 4294967296) ||| x = z := ⟨_, rfl⟩
   rw [hz] at fo hst
   replace hq := zH hq
   clear hz
   have hcel := k3.cell hcx
   have hfro := k3.frozen q
   replace hcx := zH hcx
   go_wp2_with fail
   replace k2 := k2.other (a := ⟨g2 + 1, q, none⟩) (by simp) (.int .u32 (z : Int))
   replace k3 := k3.set q (.int .u32 (z : Int))
   rw [hst.out] at k3
   exact ⟨⟨i + 1, by omega, by go_num, k2, k3, kb.setCell (by simp; omega) _⟩, by simp [intOf]; omega⟩
 · have dj : decide ((i : Int) < 64) = false := decide_eq_false zOm
   have hie : Hid (i = 64) := zH zOm
   rw [hie.out] at k3
   replace k3 : Arr wr (g2 + 1) (ws (schWa bs (16 - 16))) := k3
   clear hi hin hi0
   obtain ⟨ic, hic⟩ : ∃ ic : Int, (i : Int) = ic := ⟨_, rfl⟩
   rw [hic] at dj ⊢
   clear hic
   go_wp2_with fail
   clear dj
   go_loopw [6] (fun iv wr => ∃ t : Nat, 16 ≤ t ∧ t ≤ 64 ∧ iv = .int .i64 t ∧ Arr wr g2 (ws (List.replicate 64 0)) ∧ Arr wr (g2 + 1) (ws (schWa bs (t - 16))) ∧ Below w.heap.size w wr) (fun iv _ => 64 - (intOf iv).toNat)
   case atStart => exact ⟨16, by omega, by omega, rfl, k2, k3, kb⟩
   case round =>
   clear k2 k3 kb
   obtain ⟨t, ht0, ht, rfl, k2, k3, kb⟩ := hrel
   have hi0 : (0 : Int) ≤ (t : Int) := by omega
   by_cases hin : t < 64
   · have hi1 : (t : Int) < 64 := by omega
     have ok := schWa_ok bs (t - 16)
     have hst0 : (ws (schWa bs (t - 16))).set t (.int .u32 ((schNa (schWa bs (t - 16)) t : Nat) : Int)) = ws (schWa bs (t + 1 - 16)) := by
      rw [show t + 1 - 16 = t - 16 + 1 by omega, schWa, show 16 + (t - 16) = t by omega, ws_set]
     obtain ⟨l, hl⟩ : ∃ l, schWa bs (t - 16) = l := ⟨_, rfl⟩
     rw [hl] at k3 ok hst0
     clear hl
     obtain ⟨t15, e15⟩ : ∃ q, t - 15 = q := ⟨_, rfl⟩
     obtain ⟨t2, e2⟩ : ∃ q, t - 2 = q := ⟨_, rfl⟩
     obtain ⟨t7, e7⟩ : ∃ q, t - 7 = q := ⟨_, rfl⟩
     obtain ⟨t16, e16⟩ : ∃ q, t - 16 = q := ⟨_, rfl⟩
     have c15 := zH (ws_get (l := l) (j := t15) (by rw [ok.1]; omega))
     have c2 := zH (ws_get (l := l) (j := t2) (by rw [ok.1]; omega))
     have c7 := zH (ws_get (l := l) (j := t7) (by rw [ok.1]; omega))
     have c16 := zH (ws_get (l := l) (j := t16) (by rw [ok.1]; omega))
     have hsl : Hid ((ws l).length = 64) := zH (by rw [ws_len, ok.1])
     have l15 := ok.2.get t15
     have l2 := ok.2.get t2
     rw [schNa, e15, e2, e7, e16] at hst0
     clear ok
     obtain ⟨x, hx⟩ : ∃ x, l.getD t15 0 = x := ⟨_, rfl⟩
     obtain ⟨y, hy⟩ : ∃ x, l.getD t2 0 = x := ⟨_, rfl⟩
     obtain ⟨x7, hx7⟩ : ∃ x, l.getD t7 0 = x := ⟨_, rfl⟩
     obtain ⟨x16, hx16⟩ : ∃ x, l.getD t16 0 = x := ⟨_, rfl⟩
     rw [hx] at c15 l15 hst0
     rw [hy] at c2 l2 hst0
     rw [hx7] at c7 hst0
     rw [hx16] at c16 hst0
     clear hx hy hx7 hx16
     have m15 : IntKind.i64.wrap ((t : Int) - 15) = (t15 : Int) := by rw [i64_in zOm]; omega
     have m2 : IntKind.i64.wrap ((t : Int) - 2) = (t2 : Int) := by rw [i64_in zOm]; omega
     have m7 : IntKind.i64.wrap ((t : Int) - 7) = (t7 : Int) := by rw [i64_in zOm]; omega
     have m16 : IntKind.i64.wrap ((t : Int) - 16) = (t16 : Int) := by rw [i64_in zOm]; omega
     have b15 : (0 : Int) ≤ (t15 : Int) := by omega
     have b2 : (0 : Int) ≤ (t2 : Int) := by omega
     have b7 : (0 : Int) ≤ (t7 : Int) := by omega
     have b16 : (0 : Int) ≤ (t16 : Int) := by omega
     have d15 : (t15 : Int) < 64 := by omega
     have d2 : (t2 : Int) < 64 := by omega
     have d7 : (t7 : Int) < 64 := by omega
     have d16 : (t16 : Int) < 64 := by omega
     clear e15 e2 e7
     replace e16 := zH e16
     go_upto_region 10 with fail
     obtain ⟨wq, rfl⟩ : ∃ wq : World, wq = wr := ⟨_, rfl⟩
     refine Tx.start (fun w' => Below (wq).heap.size (wq) w') 9999 10 rfl zKr ?_
     have hS_1 : Below (wq).heap.size (wq) (World.drew wq) := (Below.refl _ _).drew
     refine Tx.seg (A := ?_) 0 1023 zKr (by exact hS_1) [0, 1, 2, 3, 4, 5, 6, 7, 8, 9] zKr ?_ ?_
     rotate_left
     · intro w' hB
       have f1 := (k3.below hB).cell c15.out
       have f2 := (k3.below hB).cell c2.out
       exact zRd
     refine Tx.done zKr ?_
     replace k2 := k2.below hS_1
     replace k3 := k3.below hS_1
     replace kb := bel kb hS_1
     clear hS_1 m15 m2 b15 b2 d15 d2 c15 c2
     go_wp2_with fail
     obtain ⟨p1, p1e⟩ : ∃ r, rl x 25 = r := ⟨_, rfl⟩
     have p1l : p1 < 4294967296 := by rw [← p1e]; exact rl_lt l15 _
     obtain ⟨p2, p2e⟩ : ∃ r, rl x 14 = r := ⟨_, rfl⟩
     have p2l : p2 < 4294967296 := by rw [← p2e]; exact rl_lt l15 _
     obtain ⟨p3, p3e⟩ : ∃ r, x / 8 = r := ⟨_, rfl⟩
     have p3l : p3 < 4294967296 := by rw [← p3e]; exact div_lta l15 _
     have p3f : (x : Int) / 8 = (p3 : Int) := by omega
     obtain ⟨p4, p4e⟩ : ∃ r, p1 ^^^ p2 = r := ⟨_, rfl⟩
     have p4l : p4 < 4294967296 := by rw [← p4e]; exact xo_lta p1l p2l
     have p4f : bits .xor .u32 (p1 : Int) (p2 : Int) = (p4 : Int) := by rw [xor_u32 p1l p2l, p4e]
     obtain ⟨pz, pze⟩ : ∃ r, shPa x = r := ⟨_, rfl⟩
     have p5f : bits .xor .u32 (p4 : Int) (p3 : Int) = (pz : Int) := by rw [xor_u32 p4l p3l, ← pze, shPa, p1e, p2e, p3e, p4e]
     rw [pze] at hst0
     replace p1e := zH p1e
     replace p2e := zH p2e
     clear p4e pze p1l p2l p3l p4l p3e
     obtain ⟨q1, q1e⟩ : ∃ r, rl y 15 = r := ⟨_, rfl⟩
     have q1l : q1 < 4294967296 := by rw [← q1e]; exact rl_lt l2 _
     obtain ⟨q2, q2e⟩ : ∃ r, rl y 13 = r := ⟨_, rfl⟩
     have q2l : q2 < 4294967296 := by rw [← q2e]; exact rl_lt l2 _
     obtain ⟨q3, q3e⟩ : ∃ r, y / 1024 = r := ⟨_, rfl⟩
     have q3l : q3 < 4294967296 := by rw [← q3e]; exact div_lta l2 _
     have q3f : (y : Int) / 1024 = (q3 : Int) := by omega
     obtain ⟨q4, q4e⟩ : ∃ r, q1 ^^^ q2 = r := ⟨_, rfl⟩
     have q4l : q4 < 4294967296 := by rw [← q4e]; exact xo_lta q1l q2l
     have q4f : bits .xor .u32 (q1 : Int) (q2 : Int) = (q4 : Int) := by rw [xor_u32 q1l q2l, q4e]
     obtain ⟨qz, qze⟩ : ∃ r, shQa y = r := ⟨_, rfl⟩
     have q5f : bits .xor .u32 (q4 : Int) (q3 : Int) = (qz : Int) := by rw [xor_u32 q4l q3l, ← qze, shQa, q1e, q2e, q3e, q4e]
     rw [qze] at hst0
     replace q1e := zH q1e
     replace q2e := zH q2e
     clear q4e qze q1l q2l q3l q4l q3e
     go_wp2_with fail
     refine (rotra_7 l15 p1e.out _).mono ?_
     rintro e w_2 ⟨rfl, hb_2⟩
     have k2 := k2.below hb_2
     have k3 := k3.below hb_2
     have kb := bel kb hb_2
     clear hb_2
     go_wp2_with fail
     refine (rotra_18 l15 p2e.out _).mono ?_
     rintro e w_3 ⟨rfl, hb_3⟩
     have k2 := k2.below hb_3
     have k3 := k3.below hb_3
     have kb := bel kb hb_3
     clear hb_3
     go_wp2_with fail
     refine (rotra_17 l2 q1e.out _).mono ?_
     rintro e w_4 ⟨rfl, hb_4⟩
     have k2 := k2.below hb_4
     have k3 := k3.below hb_4
     have kb := bel kb hb_4
     clear hb_4
     go_wp2_with fail
     refine (rotra_19 l2 q2e.out _).mono ?_
     rintro e w_5 ⟨rfl, hb_5⟩
     have k2 := k2.below hb_5
     have k3 := k3.below hb_5
     have kb := bel kb hb_5
     clear hb_5
     clear p1e p2e q1e q2e
     obtain ⟨s1, hs1⟩ : ∃ s, (qz + x7) % 4294967296 = s := ⟨_, rfl⟩
     obtain ⟨s2, hs2⟩ : ∃ s, (s1 + pz) % 4294967296 = s := ⟨_, rfl⟩
     obtain ⟨s3, hs3⟩ : ∃ s, (s2 + x16) % 4294967296 = s := ⟨_, rfl⟩
     have a1 : IntKind.u32.wrap ((qz : Int) + (x7 : Int)) = (s1 : Int) := by rw [show ((qz : Int) + (x7 : Int)) = ((qz + x7 : Nat) : Int) by omega, u32_mod, hs1]
     have a2 : IntKind.u32.wrap ((s1 : Int) + (pz : Int)) = (s2 : Int) := by rw [show ((s1 : Int) + (pz : Int)) = ((s1 + pz : Nat) : Int) by omega, u32_mod, hs2]
     have a3 : IntKind.u32.wrap ((s2 : Int) + (x16 : Int)) = (s3 : Int) := by rw [show ((s2 : Int) + (x16 : Int)) = ((s2 + x16 : Nat) : Int) by omega, u32_mod, hs3]
     have hst : Hid ((ws l).set t (.int .u32 (s3 : Int)) = ws (schWa bs (t + 1 - 16))) := zH (by rw [← hst0, show (qz + x7 + pz + x16) % 4294967296 = s3 by omega])
     clear hst0 hs1 hs2 hs3
     go_upto_region 13 with fail
     obtain ⟨wq, hwq⟩ : ∃ wq : World, w_5 = wq := ⟨_, rfl⟩
     rw [hwq] at k2 k3 kb ⊢
     clear hwq
     refine Tx.start (fun w' => Below (wq).heap.size (wq) w') 15 16 rfl zKr ?_
     have hS_6 : Below (wq).heap.size (wq) (World.drew wq) := (Below.refl _ _).drew
     refine Tx.seg (A := ?_) 1 32767 zKr (by exact hS_6) [0, 1, 2, 3, 4, 5, 6, 7, 8, 9, 10, 11, 12, 13, 14] zKr ?_ ?_
     rotate_left
     · intro w' hB
       have f1 := (k3.below hB).cell c7.out
       have f2 := (k3.below hB).cell c16.out
       exact zRd
     refine Tx.bar 65535 rfl zDk (fun K hK => ?_)
     replace k2 := k2.below hS_6
     replace k3 := k3.below hS_6
     replace kb := bel kb hS_6
     clear hS_6
     refine step_cellG rfl _ _ _ rfl (g2 + 1) t (.int .u32 (s3 : Int)) rfl rfl _ k3 zKr (by rw [hsl.out]; exact hin) rfl (fun w5 k3 hg hsz => ?_)
     rw [hst.out] at k3
     replace k2 := k2.kept hg zOm
     replace kb := below_gr kb hg zOm kb.size
     refine hK (fun _ => True) 9999 _ _ ?_
     clear hK K
     try simp only [Act.put]
     try simp only [zSa, zSz, zSs]
     refine Tx.done zKr ?_
     go_wp2_with fail
     exact ⟨⟨t + 1, by omega, by omega, by go_num, k2, k3, kb⟩, by simp [intOf]; omega⟩
   · have dj : decide ((t : Int) < 64) = false := decide_eq_false zOm
     have hie : Hid (t = 64) := zH zOm
     rw [hie.out] at k3
     replace k3 : Arr wr (g2 + 1) (ws (schLa bs)) := k3
     rw [hL.out] at k3
     clear hL hi0 hin ht ht0
     obtain ⟨ic, hic⟩ : ∃ ic : Int, (t : Int) = ic := ⟨_, rfl⟩
     rw [hic] at dj ⊢
     clear hic hie
     go_wp2_with (first | (refine wpList_load_arr2 rfl _ _ rfl _ rfl zDk _ k3 (by rw [hl.out]; kernel_rfl) ?_) | (refine wpl_storeG rfl _ _ _ rfl _ (ws L) rfl rfl _ k2 (by rw [hl.out]; kernel_rfl) (by rw [hl.out, ws_len]; rfl) (ws_one _) (fun w7 k2 hg hsz => ?_)))
     have qb := below_gr kb hg zOm kb.size
     exact bodyPost_ret (results_arr2 Tryz.results113 _ _ _ rfl zKr _ k2 (by rw [hl.out]; kernel_rfl)) rfl ⟨rfl, qb⟩
def rdVa (x0 x1 x2 x3 x4 x5 x6 x7 k w : Nat) : List Nat :=
 [(((((x7 + shEa x4) % 4294967296 + ((x4 &&& x5) ^^^ ((4294967295 ^^^ x4) &&& x6))) % 4294967296 + k) % 4294967296 + w) % 4294967296 + (shAa x0 + ((x0 &&& x1) ^^^ (x0 &&& x2) ^^^ (x1 &&& x2))) % 4294967296) % 4294967296, x0, x1, x2,
  (x3 + ((((x7 + shEa x4) % 4294967296 + ((x4 &&& x5) ^^^ ((4294967295 ^^^ x4) &&& x6))) % 4294967296 + k) % 4294967296 + w) % 4294967296) % 4294967296, x4, x5, x6]
def rdLa (v : List Nat) (k w : Nat) : List Nat := rdVa (v.getD 0 0) (v.getD 1 0) (v.getD 2 0) (v.getD 3 0) (v.getD 4 0) (v.getD 5 0) (v.getD 6 0) (v.getD 7 0) k w
def rnda (h wl : List Nat) : Nat → List Nat
 | 0 => h
 | t + 1 => rdLa (rnda h wl t) (shKa.getD t 0) (wl.getD t 0)
theorem rnda_ok {h wl : List Nat} (h0 : h.length = 8 ∧ W32 h) : ∀ t, (rnda h wl t).length = 8 ∧ W32 (rnda h wl t)
 | 0 => h0
 | t + 1 => ⟨rfl, by
  have ok := (rnda_ok (wl := wl) h0 t).2
  intro x hx
  simp only [rnda, rdLa, rdVa, List.mem_cons, List.not_mem_nil, or_false] at hx
  rcases hx with rfl | rfl | rfl | rfl | rfl | rfl | rfl | rfl <;> first | exact ok.get _ | exact Nat.mod_lt _ zDc⟩
def adSa (h v : List Nat) : Nat → List Nat
 | 0 => h
 | i + 1 => (adSa h v i).set i ((h.getD i 0 + v.getD i 0) % 4294967296)
theorem adSa_ok {h v : List Nat} (h0 : h.length = 8 ∧ W32 h) : ∀ t, (adSa h v t).length = 8 ∧ W32 (adSa h v t)
 | 0 => h0
 | t + 1 => ⟨by rw [adSa, List.length_set, (adSa_ok h0 t).1], (adSa_ok h0 t).2.set _ (Nat.mod_lt _ zDc)⟩
theorem adSa_get {h v : List Nat} : ∀ t j, t ≤ j → (adSa h v t).getD j 0 = h.getD j 0
 | 0, _, _ => rfl
 | t + 1, j, hj => by
  have := adSa_get (h := h) (v := v) t j zOm
  rw [List.getD_eq_getElem?_getD] at this ⊢
  rw [adSa, List.getElem?_set_ne zOm]
  exact this
def cmpa (h : List Nat) (bs : List UInt8) : List Nat := adSa h (rnda h (schLa bs) 64) 8
theorem cmpa_ok {h : List Nat} (h0 : h.length = 8 ∧ W32 h) (bs : List UInt8) : (cmpa h bs).length = 8 ∧ W32 (cmpa h bs) := adSa_ok h0 8
theorem eighta {l : List Nat} (h : l.length = 8) : ∃ x0 x1 x2 x3 x4 x5 x6 x7, l = [x0, x1, x2, x3, x4, x5, x6, x7] := by
 match l, h with
 | [a, b, c, d, e, f, g, i], _ => exact ⟨a, b, c, d, e, f, g, i, rfl⟩
theorem wp_scope_backa {P : Program} {a : Act} {w : World} {Q : Exit → Act → World → Prop} {c X : Code} (l : Nat) (J : Act → World → Prop) (μ : Act → World → Nat) (hf : findLabel c l = some (.seq .skip X))
 (pass : ∀ a w, J a w → X.wp P (Exit.jump l (fun a' w' => J a' w' ∧ μ a' w' < μ a w) Q) a w)
 (first : (∀ a w, J a w → X.wp P (Exit.jump l J Q) a w) → c.wp P (Exit.jump l J Q) a w) : (Code.scope c).wp P Q a w := by
 refine wp_scope_jumps l J μ hf (first (fun a w hJ => Code.wp_mono ?_ (pass a w hJ))) (fun a w hJ => wp_seq (wp_skip (pass a w hJ)))
 intro e a w h
 cases e <;> first | exact h | exact ⟨h.1, h.2.1⟩
theorem gr_fresha {a b c : World} {row : Option Nat} {g : Nat} (h : a.grownBy b row) (k : b.grownBy c (some g)) (hg : a.heap.size ≤ g) : a.grownBy c row :=
 ⟨k.os.trans h.os, k.tape.trans h.tape, k.output.trans h.output, Nat.le_trans h.size k.size, fun i hi hn => (k.block i (Nat.lt_of_lt_of_le hi h.size) (by intro e; injection e with e; omega)).trans (h.block i hi hn)⟩
def slta (T : Array Value) (i : Nat) : Value := T.getD i undef
theorem framea (T : Array Value) (N : Nat) (h : T.size = N) : T = ((List.range N).map (slta T)).toArray := by
 apply Array.ext
 · simp [h]
 · intro i h1 h2
   simp [slta, Array.getD_eq_getD_getElem?, h1]
def tJa (g : Nat) (h : List Nat) (bs : List UInt8) (n lg : Nat) (L : List Nat) (w : World) (a' : Act) (w' : World) : Prop :=
 ∃ g2 g3 t : Nat, (t ≤ 64 ∧ g < g2 ∧ g2 < g3 ∧ w.heap.size ≤ g2 ∧ Arr w' g (stva h bs n lg) ∧ Arr w' g2 (ws L) ∧ Arr w' g3 (ws (rnda h L t)) ∧ w.grownBy w' (some g)) ∧
  a'.defers = [] ∧ a'.tmps.size = 122 ∧ slta a'.tmps 0 = .pointer (some ⟨g, 0, none⟩) ∧ slta a'.tmps 2 = .pointer (some ⟨g2, 0, none⟩) ∧ slta a'.tmps 3 = .pointer (some ⟨g3, 0, none⟩) ∧ slta a'.tmps 4 = .int .i64 (t : Int)
theorem turna_any {g : Nat} {h : List Nat} {bs : List UInt8} {n lg : Nat} (w : World) (k0 : Arr w g (stva h bs n lg)) (h0 : h.length = 8 ∧ W32 h) (hb : bs.length = 64) :
 Calls Tryz.prog 73 #[.pointer (some ⟨g, 0, none⟩)] w fun e w' => e = .returned (.tuple #[]) ∧ Arr w' g (stva (cmpa h bs) bs n lg) ∧ w.grownBy w' (some g) := by
 have c1 := zH (scheda_any w k0 h0.1 hb)
 have hrg : Hid (∀ w', Arr w' g (stva h bs n lg) → w'.rangeAt g 0 (ws h)) := zH (fun w' hk => hk.range (fun j hj => stva_h hj))
 have hwl := zH (schWa_ok bs 48)
 have hR : Hid (adSa h (rnda h (schLa bs) 64) 8 = cmpa h bs) := zH rfl
 obtain ⟨R, hRe⟩ : ∃ R, cmpa h bs = R := ⟨_, rfl⟩
 rw [hRe] at hR ⊢
 clear hRe
 obtain ⟨L, hL⟩ : ∃ L, schLa bs = L := ⟨_, rfl⟩
 have hwl : Hid (L.length = 64 ∧ W32 L) := zH (by rw [← hL]; exact hwl.out)
 rw [hL] at c1 hR
 clear hL
 have hkc : Hid (∀ w' t, t < 64 → Arr w' g (stva h bs n lg) → w'.cell? ⟨g, 8 + t, none⟩ = some (.int .u32 ((shKa.getD t 0 : Nat) : Int))) := zH (fun w' t ht hk => hk.cell (stva_k h0.1 ht))
 replace h0 := zH h0
 replace hb := zH hb
 go_enter Tryz.func73, Tryz.ntmps73
 refine wp_scope_backa 0 (tJa g h bs n lg L w) (fun a' _ => 64 - (intOf (a'.tmps.getD 4 undef)).toNat) rfl ?_ ?_
 rotate_left
 intro hgo
 go_wp2_with fail
 refine c1.out.mono ?_
 rintro e w1 ⟨rfl, hb1⟩
 have lt0 := k0.lt
 have kg := gr_below (row := some g) hb1
 replace k0 := k0.below hb1
 have hws := kg.size
 clear c1 hb1
 go_upto_region 1 with (refine wpl_storeG rfl _ _ _ rfl _ (ws L) rfl rfl _ (Arr.new _ _ _) (by rw [ws_len, hwl.out.1]; kernel_rfl) (by rw [ws_len, hwl.out.1]; rfl) (ws_one _) (fun w2 k2 hg hsz => ?_))
 have hb := below_gr (below_alloc w1 _) hg (Nat.le_refl _) (by simp)
 have h12 := k0.lt
 replace kg := gr_trans kg (gr_below hb)
 replace k0 := k0.below hb
 obtain ⟨g2, hg2⟩ : ∃ g, w1.heap.size = g := ⟨_, rfl⟩
 rw [hg2] at k2 h12 hws ⊢
 clear hb hsz hg2 hg
 have hr1 := hrg.out w2 k0
 go_upto_region 2 with (first | (refine wpList_load_mid2 rfl _ _ rfl _ _ rfl zKr _ hr1 (by rw [ws_len, h0.out.1]; kernel_rfl) ?_) | (refine wpl_storeG rfl _ _ _ rfl _ (ws h) rfl rfl _ (Arr.new _ _ _) (by rw [ws_len, h0.out.1]; kernel_rfl) (by rw [ws_len, h0.out.1]; rfl) (ws_one _) (fun w3 k3 hg hsz => ?_)))
 have hb := below_gr (below_alloc w2 _) hg (Nat.le_refl _) (by simp)
 have h23 := k2.lt
 replace kg := gr_trans kg (gr_below hb)
 replace k0 := k0.below hb
 replace k2 := k2.below hb
 obtain ⟨g3, hg3⟩ : ∃ g, w2.heap.size = g := ⟨_, rfl⟩
 rw [hg3] at k3 h23 ⊢
 clear hb hsz hg3 hg hr1 hrg lt0
 go_wp2_with fail
 rename_i hK
 go_step3
 exact hK _ _ (hgo _ _ ⟨g2, g3, 0, ⟨by omega, by omega, h23, hws, k0, k2, k3, kg⟩, rfl, rfl, rfl, rfl, rfl, rfl⟩)
 rintro ⟨T, D⟩ wr ⟨g2, g3, t, ⟨ht, hg2, hg3, hw2, k0, k2, k3, kg⟩, hD, hT, e0, e2, e3, e4⟩
 have hTe : T = (slta T 0 :: slta T 1 :: slta T 2 :: slta T 3 :: slta T 4 :: slta T 5 :: slta T 6 :: slta T 7 :: slta T 8 :: slta T 9 :: slta T 10 :: slta T 11 :: slta T 12 :: slta T 13 :: slta T 14 :: slta T 15 :: slta T 16 :: slta T 17 :: slta T 18 :: slta T 19 :: slta T 20 :: slta T 21 :: slta T 22 :: slta T 23 :: slta T 24 :: slta T 25 :: slta T 26 :: slta T 27 :: slta T 28 :: slta T 29 :: slta T 30 :: slta T 31 :: slta T 32 :: slta T 33 :: slta T 34 :: slta T 35 :: slta T 36 :: slta T 37 :: slta T 38 :: slta T 39 :: slta T 40 :: slta T 41 :: slta T 42 :: slta T 43 :: slta T 44 :: slta T 45 :: slta T 46 :: slta T 47 :: slta T 48 :: slta T 49 :: slta T 50 :: slta T 51 :: slta T 52 :: slta T 53 :: slta T 54 :: slta T 55 :: slta T 56 :: slta T 57 :: slta T 58 :: slta T 59 :: slta T 60 :: slta T 61 :: slta T 62 :: slta T 63 :: slta T 64 :: slta T 65 :: slta T 66 :: slta T 67 :: slta T 68 :: slta T 69 :: slta T 70 :: slta T 71 :: slta T 72 :: slta T 73 :: slta T 74 :: slta T 75 :: slta T 76 :: slta T 77 :: slta T 78 :: slta T 79 :: slta T 80 :: slta T 81 :: slta T 82 :: slta T 83 :: slta T 84 :: slta T 85 :: slta T 86 :: slta T 87 :: slta T 88 :: slta T 89 :: slta T 90 :: slta T 91 :: slta T 92 :: slta T 93 :: slta T 94 :: slta T 95 :: slta T 96 :: slta T 97 :: slta T 98 :: slta T 99 :: slta T 100 :: slta T 101 :: slta T 102 :: slta T 103 :: slta T 104 :: slta T 105 :: slta T 106 :: slta T 107 :: slta T 108 :: slta T 109 :: slta T 110 :: slta T 111 :: slta T 112 :: slta T 113 :: slta T 114 :: slta T 115 :: slta T 116 :: slta T 117 :: slta T 118 :: slta T 119 :: slta T 120 :: slta T 121 :: []).toArray := (framea T 122 hT).trans zKr
 simp only at hD e0 e2 e3 e4
 subst hD
 rw [hTe]
 rw [e0, e2, e3, e4]
 clear e0 e2 e3 e4 hT hTe
 have ht0 : (0 : Int) ≤ (t : Int) := by omega
 by_cases htn : t < 64
 · have ht1 : (t : Int) < 64 := by omega
   have ok := rnda_ok (wl := L) h0.out t
   have hst0 : ws (rdLa (rnda h L t) (shKa.getD t 0) (L.getD t 0)) = ws (rnda h L (t + 1)) := rfl
   have ckk := hkc.out wr t htn k0
   obtain ⟨v, hv⟩ : ∃ v, rnda h L t = v := ⟨_, rfl⟩
   rw [hv] at ok hst0 k3
   clear hv
   obtain ⟨x0, x1, x2, x3, x4, x5, x6, x7, rfl⟩ := eighta ok.1
   have x0l : x0 < 4294967296 := ok.2.get 0
   have x1l : x1 < 4294967296 := ok.2.get 1
   have x2l : x2 < 4294967296 := ok.2.get 2
   have x4l : x4 < 4294967296 := ok.2.get 4
   have x5l : x5 < 4294967296 := ok.2.get 5
   have x6l : x6 < 4294967296 := ok.2.get 6
   replace hst0 : ws (rdVa x0 x1 x2 x3 x4 x5 x6 x7 (shKa.getD t 0) (L.getD t 0)) = ws (rnda h L (t + 1)) := hst0
   have cww := ws_get (l := L) (j := t) (by rw [hwl.out.1]; exact htn)
   obtain ⟨kk, hkk⟩ : ∃ kk, shKa.getD t 0 = kk := ⟨_, rfl⟩
   obtain ⟨ww, hww⟩ : ∃ ww, L.getD t 0 = ww := ⟨_, rfl⟩
   rw [hkk] at ckk hst0
   rw [hww] at cww hst0
   have ckk2 := k0.frozen (8 + t)
   replace cww := zH cww
   have hkk2 : Hid (∀ w', Arr w' g (stva h bs n lg) → w'.cell? ⟨g, 8 + t, none⟩ = some (.int .u32 (kk : Int))) := zH (fun w' k => by rw [hkc.out w' t htn k, hkk])
   clear hkk hww ok ckk ckk2
   unfold rdVa at hst0
   obtain ⟨p1, p1e⟩ : ∃ r, rl x4 26 = r := ⟨_, rfl⟩
   have p1l : p1 < 4294967296 := by rw [← p1e]; exact rl_lt x4l _
   obtain ⟨p2, p2e⟩ : ∃ r, rl x4 21 = r := ⟨_, rfl⟩
   have p2l : p2 < 4294967296 := by rw [← p2e]; exact rl_lt x4l _
   obtain ⟨p3, p3e⟩ : ∃ r, rl x4 7 = r := ⟨_, rfl⟩
   have p3l : p3 < 4294967296 := by rw [← p3e]; exact rl_lt x4l _
   obtain ⟨p4, p4e⟩ : ∃ r, p1 ^^^ p2 = r := ⟨_, rfl⟩
   have p4l : p4 < 4294967296 := by rw [← p4e]; exact xo_lta p1l p2l
   have p4f : bits .xor .u32 (p1 : Int) (p2 : Int) = (p4 : Int) := by rw [xor_u32 p1l p2l, p4e]
   obtain ⟨pz, pze⟩ : ∃ r, shEa x4 = r := ⟨_, rfl⟩
   have pzl : pz < 4294967296 := by rw [← pze]; exact shEa_lt x4l
   have p5f : bits .xor .u32 (p4 : Int) (p3 : Int) = (pz : Int) := by rw [xor_u32 p4l p3l, ← pze, shEa, p1e, p2e, p3e, p4e]
   rw [pze] at hst0
   have p1c := zH (fun w => rotra_6 x4l p1e w)
   have p2c := zH (fun w => rotra_11 x4l p2e w)
   have p3c := zH (fun w => rotra_25 x4l p3e w)
   clear p1e p2e p3e p4e pze p1l p2l p3l p4l
   obtain ⟨q1, q1e⟩ : ∃ r, rl x0 30 = r := ⟨_, rfl⟩
   have q1l : q1 < 4294967296 := by rw [← q1e]; exact rl_lt x0l _
   obtain ⟨q2, q2e⟩ : ∃ r, rl x0 19 = r := ⟨_, rfl⟩
   have q2l : q2 < 4294967296 := by rw [← q2e]; exact rl_lt x0l _
   obtain ⟨q3, q3e⟩ : ∃ r, rl x0 10 = r := ⟨_, rfl⟩
   have q3l : q3 < 4294967296 := by rw [← q3e]; exact rl_lt x0l _
   obtain ⟨q4, q4e⟩ : ∃ r, q1 ^^^ q2 = r := ⟨_, rfl⟩
   have q4l : q4 < 4294967296 := by rw [← q4e]; exact xo_lta q1l q2l
   have q4f : bits .xor .u32 (q1 : Int) (q2 : Int) = (q4 : Int) := by rw [xor_u32 q1l q2l, q4e]
   obtain ⟨qz, qze⟩ : ∃ r, shAa x0 = r := ⟨_, rfl⟩
   have qzl : qz < 4294967296 := by rw [← qze]; exact shAa_lt x0l
   have q5f : bits .xor .u32 (q4 : Int) (q3 : Int) = (qz : Int) := by rw [xor_u32 q4l q3l, ← qze, shAa, q1e, q2e, q3e, q4e]
   rw [qze] at hst0
   have q1c := zH (fun w => rotra_2 x0l q1e w)
   have q2c := zH (fun w => rotra_13 x0l q2e w)
   have q3c := zH (fun w => rotra_22 x0l q3e w)
   clear q1e q2e q3e q4e qze q1l q2l q3l q4l
   obtain ⟨c1, c1e⟩ : ∃ r, x4 &&& x5 = r := ⟨_, rfl⟩
   have c1f : bits .and .u32 (x4 : Int) (x5 : Int) = (c1 : Int) := by rw [and_u32 x4l x5l, c1e]
   have c1l : c1 < 4294967296 := by rw [← c1e]; exact an_lta x4l
   rw [c1e] at hst0
   clear c1e
   obtain ⟨x4n, x4ne⟩ : ∃ r, 4294967295 ^^^ x4 = r := ⟨_, rfl⟩
   have x4nl : x4n < 4294967296 := by rw [← x4ne]; exact xo_lta zDc x4l
   have x4nf : bits .xor .u32 (if IntKind.u32.signed = true then -1 else IntKind.u32.max) (x4 : Int) = (x4n : Int) := by
    show bits .xor .u32 ((4294967295 : Nat) : Int) (x4 : Int) = _
    rw [xor_u32 zDc x4l, x4ne]
   rw [x4ne] at hst0
   clear x4ne
   obtain ⟨c2, c2e⟩ : ∃ r, x4n &&& x6 = r := ⟨_, rfl⟩
   have c2f : bits .and .u32 (x4n : Int) (x6 : Int) = (c2 : Int) := by rw [and_u32 x4nl x6l, c2e]
   have c2l : c2 < 4294967296 := by rw [← c2e]; exact an_lta x4nl
   rw [c2e] at hst0
   clear c2e
   obtain ⟨c3, c3e⟩ : ∃ r, c1 ^^^ c2 = r := ⟨_, rfl⟩
   have c3f : bits .xor .u32 (c1 : Int) (c2 : Int) = (c3 : Int) := by rw [xor_u32 c1l c2l, c3e]
   have c3l : c3 < 4294967296 := by rw [← c3e]; exact xo_lta c1l c2l
   rw [c3e] at hst0
   clear c3e
   obtain ⟨j1, j1e⟩ : ∃ r, x0 &&& x1 = r := ⟨_, rfl⟩
   have j1f : bits .and .u32 (x0 : Int) (x1 : Int) = (j1 : Int) := by rw [and_u32 x0l x1l, j1e]
   have j1l : j1 < 4294967296 := by rw [← j1e]; exact an_lta x0l
   rw [j1e] at hst0
   clear j1e
   obtain ⟨j2, j2e⟩ : ∃ r, x0 &&& x2 = r := ⟨_, rfl⟩
   have j2f : bits .and .u32 (x0 : Int) (x2 : Int) = (j2 : Int) := by rw [and_u32 x0l x2l, j2e]
   have j2l : j2 < 4294967296 := by rw [← j2e]; exact an_lta x0l
   rw [j2e] at hst0
   clear j2e
   obtain ⟨j3, j3e⟩ : ∃ r, j1 ^^^ j2 = r := ⟨_, rfl⟩
   have j3f : bits .xor .u32 (j1 : Int) (j2 : Int) = (j3 : Int) := by rw [xor_u32 j1l j2l, j3e]
   have j3l : j3 < 4294967296 := by rw [← j3e]; exact xo_lta j1l j2l
   rw [j3e] at hst0
   clear j3e
   obtain ⟨j4, j4e⟩ : ∃ r, x1 &&& x2 = r := ⟨_, rfl⟩
   have j4f : bits .and .u32 (x1 : Int) (x2 : Int) = (j4 : Int) := by rw [and_u32 x1l x2l, j4e]
   have j4l : j4 < 4294967296 := by rw [← j4e]; exact an_lta x1l
   rw [j4e] at hst0
   clear j4e
   obtain ⟨j5, j5e⟩ : ∃ r, j3 ^^^ j4 = r := ⟨_, rfl⟩
   have j5f : bits .xor .u32 (j3 : Int) (j4 : Int) = (j5 : Int) := by rw [xor_u32 j3l j4l, j5e]
   have j5l : j5 < 4294967296 := by rw [← j5e]; exact xo_lta j3l j4l
   rw [j5e] at hst0
   clear j5e
   obtain ⟨s1, s1e⟩ : ∃ r, (x7 + pz) % 4294967296 = r := ⟨_, rfl⟩
   have s1f : IntKind.u32.wrap ((x7 : Int) + (pz : Int)) = (s1 : Int) := by rw [show ((x7 : Int) + (pz : Int)) = ((x7 + pz : Nat) : Int) by omega, u32_mod, s1e]
   rw [s1e] at hst0
   clear s1e
   obtain ⟨s2, s2e⟩ : ∃ r, (s1 + c3) % 4294967296 = r := ⟨_, rfl⟩
   have s2f : IntKind.u32.wrap ((s1 : Int) + (c3 : Int)) = (s2 : Int) := by rw [show ((s1 : Int) + (c3 : Int)) = ((s1 + c3 : Nat) : Int) by omega, u32_mod, s2e]
   rw [s2e] at hst0
   clear s2e
   obtain ⟨s3, s3e⟩ : ∃ r, (s2 + kk) % 4294967296 = r := ⟨_, rfl⟩
   have s3f : IntKind.u32.wrap ((s2 : Int) + (kk : Int)) = (s3 : Int) := by rw [show ((s2 : Int) + (kk : Int)) = ((s2 + kk : Nat) : Int) by omega, u32_mod, s3e]
   rw [s3e] at hst0
   clear s3e
   obtain ⟨sx, sxe⟩ : ∃ r, (s3 + ww) % 4294967296 = r := ⟨_, rfl⟩
   have sxf : IntKind.u32.wrap ((s3 : Int) + (ww : Int)) = (sx : Int) := by rw [show ((s3 : Int) + (ww : Int)) = ((s3 + ww : Nat) : Int) by omega, u32_mod, sxe]
   rw [sxe] at hst0
   clear sxe
   obtain ⟨sy, sye⟩ : ∃ r, (qz + j5) % 4294967296 = r := ⟨_, rfl⟩
   have syf : IntKind.u32.wrap ((qz : Int) + (j5 : Int)) = (sy : Int) := by rw [show ((qz : Int) + (j5 : Int)) = ((qz + j5 : Nat) : Int) by omega, u32_mod, sye]
   rw [sye] at hst0
   clear sye
   obtain ⟨sa, sae⟩ : ∃ r, (sx + sy) % 4294967296 = r := ⟨_, rfl⟩
   have saf : IntKind.u32.wrap ((sx : Int) + (sy : Int)) = (sa : Int) := by rw [show ((sx : Int) + (sy : Int)) = ((sx + sy : Nat) : Int) by omega, u32_mod, sae]
   rw [sae] at hst0
   clear sae
   obtain ⟨se, see⟩ : ∃ r, (x3 + sx) % 4294967296 = r := ⟨_, rfl⟩
   have sef : IntKind.u32.wrap ((x3 : Int) + (sx : Int)) = (se : Int) := by rw [show ((x3 : Int) + (sx : Int)) = ((x3 + sx : Nat) : Int) by omega, u32_mod, see]
   rw [see] at hst0
   clear see
   have hst : Hid (ws [sa, x0, x1, x2, se, x4, x5, x6] = ws (rnda h L (t + 1))) := zH hst0
   clear hst0 x0l x1l x2l x4l x5l x6l
   have d0 : Hid (∀ w', Arr w' g3 (ws [x0, x1, x2, x3, x4, x5, x6, x7]) → w'.cell? ⟨g3, 0, none⟩ = some (.int .u32 (x0 : Int)) ∧ w'.cell? ⟨g3, 1, none⟩ = some (.int .u32 (x1 : Int)) ∧ w'.cell? ⟨g3, 2, none⟩ = some (.int .u32 (x2 : Int)) ∧ w'.cell? ⟨g3, 3, none⟩ = some (.int .u32 (x3 : Int)) ∧ w'.cell? ⟨g3, 4, none⟩ = some (.int .u32 (x4 : Int)) ∧ w'.cell? ⟨g3, 5, none⟩ = some (.int .u32 (x5 : Int)) ∧ w'.cell? ⟨g3, 6, none⟩ = some (.int .u32 (x6 : Int)) ∧ w'.cell? ⟨g3, 7, none⟩ = some (.int .u32 (x7 : Int))) :=
    zH (fun w' k => ⟨k.cell (j := 0) rfl, k.cell (j := 1) rfl, k.cell (j := 2) rfl, k.cell (j := 3) rfl, k.cell (j := 4) rfl, k.cell (j := 5) rfl, k.cell (j := 6) rfl, k.cell (j := 7) rfl⟩)
   have kgs := kg.size
   go_upto_region 4 with fail
   obtain ⟨wq, rfl⟩ : ∃ wq : World, wq = wr := ⟨_, rfl⟩
   refine Tx.start (fun w' => Below (wq).heap.size (wq) w') 9999 6 rfl zKr ?_
   have hS_1 : Below (wq).heap.size (wq) (World.drew wq) := (Below.refl _ _).drew
   refine Tx.seg (A := ?_) 0 63 zKr (by exact hS_1) [0, 1, 2, 3, 4, 5] zKr ?_ ?_
   rotate_left
   · intro w' hB
     obtain ⟨f0, -, -, -, f4, -, -, -⟩ := d0.out w' (k3.below hB)
     exact zRd
   refine Tx.done zKr ?_
   replace k0 := k0.below hS_1
   replace k2 := k2.below hS_1
   replace k3 := k3.below hS_1
   replace kg := gr_trans kg (gr_below hS_1)
   clear hS_1
   go_wp2_with fail
   refine (p1c.out _).mono ?_
   rintro e w_p1c ⟨rfl, hb⟩
   replace k0 := k0.below hb
   replace k2 := k2.below hb
   replace k3 := k3.below hb
   replace kg := gr_trans kg (gr_below hb)
   clear hb
   go_wp2_with fail
   refine (p2c.out _).mono ?_
   rintro e w_p2c ⟨rfl, hb⟩
   replace k0 := k0.below hb
   replace k2 := k2.below hb
   replace k3 := k3.below hb
   replace kg := gr_trans kg (gr_below hb)
   clear hb
   go_wp2_with fail
   refine (p3c.out _).mono ?_
   rintro e w_p3c ⟨rfl, hb⟩
   replace k0 := k0.below hb
   replace k2 := k2.below hb
   replace k3 := k3.below hb
   replace kg := gr_trans kg (gr_below hb)
   clear hb
   go_wp2_with fail
   refine (q1c.out _).mono ?_
   rintro e w_q1c ⟨rfl, hb⟩
   replace k0 := k0.below hb
   replace k2 := k2.below hb
   replace k3 := k3.below hb
   replace kg := gr_trans kg (gr_below hb)
   clear hb
   go_wp2_with fail
   refine (q2c.out _).mono ?_
   rintro e w_q2c ⟨rfl, hb⟩
   replace k0 := k0.below hb
   replace k2 := k2.below hb
   replace k3 := k3.below hb
   replace kg := gr_trans kg (gr_below hb)
   clear hb
   go_wp2_with fail
   refine (q3c.out _).mono ?_
   rintro e w_q3c ⟨rfl, hb⟩
   replace k0 := k0.below hb
   replace k2 := k2.below hb
   replace k3 := k3.below hb
   replace kg := gr_trans kg (gr_below hb)
   clear hb
   clear p1c p2c p3c q1c q2c q3c
   go_upto_region 7 with fail
   obtain ⟨wq, hwq⟩ : ∃ wq : World, w_q3c = wq := ⟨_, rfl⟩
   rw [hwq] at k0 k2 k3 kg ⊢
   clear hwq
   refine Tx.start (fun w' => Below (wq).heap.size (wq) w') 9999 27 rfl zKr ?_
   have hS_2 : Below (wq).heap.size (wq) (World.drew wq) := (Below.refl _ _).drew
   refine Tx.seg (A := ?_) 0 134217727 zKr (by exact hS_2) [0, 1, 2, 3, 4, 5, 6, 7, 8, 9, 10, 11, 12, 13, 14, 15, 16, 17, 18, 19, 20, 21, 22, 23, 24, 25, 26] zKr ?_ ?_
   rotate_left
   · intro w' hB
     obtain ⟨-, -, -, -, -, f5, f6, f7⟩ := d0.out w' (k3.below hB)
     have fk := hkk2.out w' (k0.below hB)
     have fw := (k2.below hB).cell cww.out
     exact zRd
   refine Tx.done zKr ?_
   replace k0 := k0.below hS_2
   replace k2 := k2.below hS_2
   replace k3 := k3.below hS_2
   replace kg := gr_trans kg (gr_below hS_2)
   clear hS_2
   obtain ⟨w8, hw8⟩ : ∃ w8 : World, wq.drew = w8 := ⟨_, rfl⟩
   rw [hw8] at k0 k2 k3 kg ⊢
   clear hw8
   obtain ⟨f0, f1, f2, f3, f4, f5, f6, f7⟩ := d0.out _ k3
   clear p4f p5f q4f q5f c1f c2f c3f x4nf s1f s2f s3f sxf c1l c2l c3l x4nl j1l j2l j3l j4l j5l pzl qzl kgs ht0 ht1
   obtain ⟨z0, z1, z2, z3, z4, z5, z6, z7⟩ : w8.frozen? ⟨g3, 0, none⟩ = false ∧ w8.frozen? ⟨g3, 1, none⟩ = false ∧ w8.frozen? ⟨g3, 2, none⟩ = false ∧ w8.frozen? ⟨g3, 3, none⟩ = false ∧ w8.frozen? ⟨g3, 4, none⟩ = false ∧ w8.frozen? ⟨g3, 5, none⟩ = false ∧ w8.frozen? ⟨g3, 6, none⟩ = false ∧ w8.frozen? ⟨g3, 7, none⟩ = false := ⟨k3.frozen _, k3.frozen _, k3.frozen _, k3.frozen _, k3.frozen _, k3.frozen _, k3.frozen _, k3.frozen _⟩
   go_wp2_with fail
   go_step3
   clear f0 f1 f2 f3 f4 f5 f6 f7 z0 z1 z2 z3 z4 z5 z6 z7
   replace k3 := (((((((k3.set 0 (.int .u32 (sa : Int))).set 1 (.int .u32 (x0 : Int))).set 2 (.int .u32 (x1 : Int))).set 3 (.int .u32 (x2 : Int))).set 4 (.int .u32 (se : Int))).set 5 (.int .u32 (x4 : Int))).set 6 (.int .u32 (x5 : Int))).set 7 (.int .u32 (x6 : Int))
   have hg := gr_trans (gr_trans (gr_trans (gr_trans (gr_trans (gr_trans (gr_trans (gr_cell w8 g3 0 (.int .u32 (sa : Int))) (gr_cell _ g3 1 (.int .u32 (x0 : Int)))) (gr_cell _ g3 2 (.int .u32 (x1 : Int)))) (gr_cell _ g3 3 (.int .u32 (x2 : Int)))) (gr_cell _ g3 4 (.int .u32 (se : Int)))) (gr_cell _ g3 5 (.int .u32 (x4 : Int)))) (gr_cell _ g3 6 (.int .u32 (x5 : Int)))) (gr_cell _ g3 7 (.int .u32 (x6 : Int)))
   replace k0 := k0.kept hg zOm
   replace k2 := k2.kept hg zOm
   replace kg := gr_fresha kg hg zOm
   replace k3 := (congrArg (Arr _ g3) hst.out).mp k3
   refine ⟨rfl, ⟨g2, g3, t + 1, ⟨by omega, hg2, hg3, hw2, k0, k2, k3, kg⟩, rfl, rfl, rfl, rfl, rfl, rfl⟩, ?_⟩
   simp [intOf]
   omega
 · have dj : decide ((t : Int) < 64) = false := decide_eq_false zOm
   have hie : Hid (t = 64) := zH zOm
   rw [hie.out] at k3
   have hvv := zH (rnda_ok (wl := L) h0.out 64)
   obtain ⟨v, hv⟩ : ∃ v, rnda h L 64 = v := ⟨_, rfl⟩
   rw [hv] at k3 hvv
   have hR2 : Hid (adSa h v 8 = R) := zH (by rw [← hv]; exact hR.out)
   clear hv hR hkc hie ht0 ht htn k2
   obtain ⟨ic, hic⟩ : ∃ ic : Int, (t : Int) = ic := ⟨_, rfl⟩
   rw [hic] at dj ⊢
   clear hic
   go_wp2_with fail
   clear dj
   go_loopw [105] (fun iv wr => ∃ i : Nat, i ≤ 8 ∧ iv = .int .i64 i ∧ Arr wr g (stva (adSa h v i) bs n lg) ∧ Arr wr g3 (ws v) ∧ w.grownBy wr (some g)) (fun iv _ => 8 - (intOf iv).toNat)
   case atStart => exact ⟨0, by omega, rfl, k0, k3, kg⟩
   case round =>
   clear k0 k3 kg
   obtain ⟨i, hi, rfl, k0, k3, kg⟩ := hrel
   have hi0 : (0 : Int) ≤ (i : Int) := by omega
   by_cases hin : i < 8
   · have hi1 : (i : Int) < 8 := by omega
     have ok := adSa_ok (v := v) h0.out i
     have cx := zH (stva_hj (bs := bs) (n := n) (lg := lg) ok.1 hin)
     have hset := zH (stva_set_h (bs := bs) (n := n) (lg := lg) (j := i) (x := (h.getD i 0 + v.getD i 0) % 4294967296) ok.1 hin)
     have hlen := zH (stva_len (n := n) (lg := lg) ok.1 hb.out)
     have had := adSa_get (h := h) (v := v) i i (Nat.le_refl _)
     have hst : Hid ((adSa h v i).set i ((h.getD i 0 + v.getD i 0) % 4294967296) = adSa h v (i + 1)) := zH rfl
     have cy := zH (ws_get (l := v) (j := i) (by rw [hvv.out.1]; exact hin))
     rw [had] at cx
     obtain ⟨l, hl⟩ : ∃ l, adSa h v i = l := ⟨_, rfl⟩
     rw [hl] at k0 cx hset hst hlen
     obtain ⟨x, hx⟩ : ∃ x, h.getD i 0 = x := ⟨_, rfl⟩
     obtain ⟨y, hy⟩ : ∃ x, v.getD i 0 = x := ⟨_, rfl⟩
     rw [hx] at cx
     rw [hy] at cy
     rw [hx, hy] at hset hst
     obtain ⟨z, hz⟩ : ∃ z, (x + y) % 4294967296 = z := ⟨_, rfl⟩
     have fz : IntKind.u32.wrap ((x : Int) + (y : Int)) = (z : Int) := by rw [show ((x : Int) + (y : Int)) = ((x + y : Nat) : Int) by omega, u32_mod, hz]
     rw [hz] at hset hst
     clear ok had hl hx hy hz
     go_upto_region 14 with fail
     obtain ⟨wq, rfl⟩ : ∃ wq : World, wq = wr := ⟨_, rfl⟩
     refine Tx.start (fun w' => Below (wq).heap.size (wq) w') 13 14 rfl zKr ?_
     have hS_3 : Below (wq).heap.size (wq) (World.drew wq) := (Below.refl _ _).drew
     refine Tx.seg2 (A := ?_) 1 8191 zKr (by exact hS_3) [0, 1, 2, 3, 4, 5, 6, 7, 8, 9, 10, 11, 12] zKr ?_ ?_
     rotate_left
     · intro w' hB
       have f1 := (k0.below hB).cell cx.out
       have f2 := (k3.below hB).cell cy.out
       exact zRd
     refine Tx.bar 16383 rfl zDk (fun K hK => ?_)
     replace k0 := k0.below hS_3
     replace k3 := k3.below hS_3
     replace kg := gr_trans kg (gr_below hS_3)
     clear hS_3
     refine step_cellG rfl _ _ _ rfl g i (.int .u32 (z : Int)) rfl rfl _ k0 zKr (by rw [hlen.out]; omega) rfl (fun w5 k0 hg hsz => ?_)
     rw [hset.out, hst.out] at k0
     replace k3 := k3.kept hg zOm
     replace kg := gr_trans kg hg
     refine hK (fun _ => True) 9999 _ _ ?_
     clear hK K
     try simp only [Act.put]
     try simp only [zSa, zSz, zSs]
     refine Tx.done zKr ?_
     go_wp2_with fail
     exact ⟨⟨i + 1, by omega, by go_num, k0, k3, kg⟩, by simp [intOf]; omega⟩
   · have dj : decide ((i : Int) < 8) = false := decide_eq_false zOm
     have hie : Hid (i = 8) := zH zOm
     rw [hie.out, hR2.out] at k0
     go_wp2_with fail
     simp only [Exit.jump]
     go_end0
     exact ⟨rfl, k0, kg⟩
theorem wpList_builta {P : Program} {ops : Array Oper} {rest : List Oper} {o : Oper} {a : Act} {w : World} {Q : Exit → Act → World → Prop} (hg : o.guard = none) (t : TypeId) (parts : Array (Nat × Operand)) (ho : o.op = .build t parts)
 (cells : Array Value) (hc : P.built t (parts.map fun (i, x) => (i, a.eval x)).toList = some cells) (h : wpList P ops Q rest (a.put o.dst (.agg cells)) w) : wpList P ops Q (o :: rest) a w :=
 wpList_build hg t parts ho (by rw [hc]; rfl) (by rw [hc]; exact h)
theorem constsa_any (w : World) : Calls Tryz.prog 72 #[] w fun e w' => e = .returned (.agg (ws shKa).toArray) ∧ Below w.heap.size w w' := by
 have hl := zH (show (ws shKa).length = 64 by rw [ws_len]; exact shKa_ok.1)
 obtain ⟨X, hX⟩ : ∃ X, ws shKa = X := ⟨_, rfl⟩
 have h1 := zH (ws_one shKa)
 rw [hX] at hl h1 ⊢
 replace hX := zH hX
 go_enter Tryz.func72, Tryz.ntmps72
 go_upto_region 1 with fail
 refine wp_new1 (fun W hsz k0 kb => ?_)
 replace k0 : Arr W w.heap.size (ws (List.replicate 64 0)) := k0
 clear hsz
 go_wp2_with (first | (refine wpList_builta rfl _ _ rfl (ws shKa).toArray zKr ?_; rw [hX.out]) | (refine wpl_storeG rfl _ _ _ rfl _ X rfl rfl _ k0 (by rw [hl.out]; kernel_rfl) (by rw [hl.out, ws_len]; rfl) h1.out (fun w2 k0 hg hsz => ?_)))
 have qb := below_gr kb hg zOm kb.size
 exact bodyPost_ret (results_arr2 Tryz.results72 _ _ _ rfl zKr _ k0 (by rw [hl.out]; kernel_rfl)) rfl ⟨rfl, qb⟩
theorem begina_any (w : World) : Calls Tryz.prog 43 #[] w fun e w' => ∃ g, e = .returned (.pointer (some ⟨g, 0, none⟩)) ∧ w.heap.size ≤ g ∧ Arr w' g (stva shIa (List.replicate 64 0) 0 0) ∧ Below w.heap.size w w' := by
 obtain ⟨X, hX⟩ : ∃ X, ws shIa = X := ⟨_, rfl⟩
 obtain ⟨Y, hY⟩ : ∃ X, stva shIa (List.replicate 64 0) 0 0 = X := ⟨_, rfl⟩
 replace hX := zH hX
 rw [hY]
 replace hY := zH hY
 go_enter Tryz.func43, Tryz.ntmps43
 go_wp2_with (refine wpList_builta rfl _ _ rfl (ws shIa).toArray zKr ?_; rw [hX.out])
 refine (constsa_any _).mono ?_
 rintro e w1 ⟨rfl, kb⟩
 rw [← hX.out]
 go_wp2_with (refine wpList_builta rfl _ _ rfl (stva shIa (List.replicate 64 0) 0 0).toArray zKr ?_; rw [hY.out])
 go_ret
 exact ⟨_, rfl, kb.size, Arr.new _ _ _, bel kb (below_alloc _ _)⟩
theorem takea_any (g n lg : Nat) (h : List Nat) (bs : List UInt8) (x : UInt8) (w : World) (k0 : Arr w g (stva h bs n lg)) (h0 : h.length = 8 ∧ W32 h) (hb : bs.length = 64) (hn : n < 64) :
 Calls Tryz.prog 44 #[.pointer (some ⟨g, 0, none⟩), .int .u8 (x.toNat : Int)] w fun e w' =>
  e = .returned (.tuple #[]) ∧ Arr w' g (if n = 63 then stva (cmpa h (bs.set n x)) (bs.set n x) 0 lg else stva h (bs.set n x) (n + 1) lg) ∧ w.grownBy w' (some g) := by
 have hcn := stva_n (n := n) (lg := lg) h0.1 hb
 have hcb := stva_b (n := n) (lg := lg) (bs := bs) (j := n) h0.1 zOm
 rw [u8s_get bs n zOm] at hcb
 have hset := stva_set_b (n := n) (lg := lg) (bs := bs) (j := n) (x := x) h0.1 zOm
 have hb2 : (bs.set n x).length = 64 := by rw [List.length_set]; exact hb
 obtain ⟨cs, hcs⟩ : ∃ cs, bs.set n x = cs := ⟨_, rfl⟩
 rw [hcs] at hset hb2 ⊢
 have hcn2 := stva_n (n := n) (lg := lg) h0.1 hb2
 have hset2 := stva_set_n (n := n) (m := n + 1) (lg := lg) h0.1 hb2
 have hcn3 := stva_n (n := n + 1) (lg := lg) h0.1 hb2
 have c1 := fun w k => turna_any (g := g) (n := n + 1) (lg := lg) w k h0 hb2
 have hq := cmpa_ok h0 cs
 have hcn4 := stva_n (n := n + 1) (lg := lg) hq.1 hb2
 have hset4 := stva_set_n (n := n + 1) (m := 0) (lg := lg) hq.1 hb2
 obtain ⟨Y, hY⟩ : ∃ Y, (if n = 63 then stva (cmpa h cs) cs 0 lg else stva h cs (n + 1) lg) = Y := ⟨_, rfl⟩
 rw [hY]
 replace hY := zH hY
 have hbl : (bs[n]'zOm).toNat < 256 := (bs[n]'zOm).toNat_lt
 generalize (bs[n]'zOm).toNat = y at hcb hbl
 have n16 : (n : Int) < 64 := by omega
 clear hb hcs h0 hq
 replace hcn := zH hcn
 replace hcb := zH hcb
 replace hset := zH hset
 replace hb2 := zH hb2
 replace hcn2 := zH hcn2
 replace hset2 := zH hset2
 replace hcn3 := zH hcn3
 replace hcn4 := zH hcn4
 replace hset4 := zH hset4
 replace c1 := zH c1
 go_enter Tryz.func44, Tryz.ntmps44
 go_upto_region 0 with fail
 refine Tx.start (fun w' => Below (w).heap.size (w) w') 9 10 rfl zKr ?_
 have hS_1 : Below (w).heap.size (w) (World.drew w) := (Below.refl _ _).drew
 refine Tx.seg2 (A := ?_) 1 511 zKr (by exact hS_1) [0, 1, 2, 3, 4, 5, 6, 7, 8] zKr ?_ ?_
 rotate_left
 · intro w' hB
   have e1 := (k0.below hB).cell hcn.out
   exact zRd
 have k0' := k0.below hS_1
 have hcel := k0'.cell hcb.out
 have hfro := k0'.frozen (72 + n)
 refine Tx.bar 1023 rfl zDk (fun K hK => ?_)
 go_simp
 refine hK (fun _ => True) 9999 _ _ ?_
 clear hK K
 try simp only [Act.put]
 try simp only [zSa, zSz, zSs]
 refine Tx.done zKr ?_
 clear hcel hfro k0'
 have kg := grownBy_drew (gr_cell w g (72 + n) (.int .u8 (x.toNat : Int)))
 have k1 : Arr (w.setCell ⟨g, 72 + n, none⟩ (.int .u8 (x.toNat : Int))).drew g (stva h cs n lg) := by
  have := k0.set (72 + n) (.int .u8 (x.toNat : Int))
  rw [hset.out] at this
  exact this
 generalize (w.setCell ⟨g, 72 + n, none⟩ (.int .u8 (x.toNat : Int))).drew = w2 at *
 have hcel := k1.cell hcn2.out
 have hfro := k1.frozen 136
 go_upto_region 2 with fail
 clear hcel hfro
 have kg := gr_trans kg (gr_cell w2 g 136 (.int .i64 ((n : Int) + 1)))
 have k2 : Arr (w2.setCell ⟨g, 136, none⟩ (.int .i64 ((n : Int) + 1))) g (stva h cs (n + 1) lg) := by
  have := k1.set 136 (.int .i64 ((n + 1 : Nat) : Int))
  rw [hset2.out] at this
  exact this
 generalize w2.setCell ⟨g, 136, none⟩ (.int .i64 ((n : Int) + 1)) = w3 at *
 have hcel := k2.cell hcn3.out
 by_cases h15 : n = 63
 · have c2 := zH (c1.out w3 k2)
   clear c1
   subst h15
   go_wp2_with fail
   refine c2.out.mono ?_
   rintro e w4 ⟨rfl, k3, hg3⟩
   have kg := gr_trans kg hg3
   clear hg3 hcel
   have hcel := k3.cell hcn4.out
   have hfro := k3.frozen 136
   go_wp2_with fail
   go_end0
   replace k3 := k3.set 136 (.int .i64 ((0 : Nat) : Int))
   rw [hset4.out] at k3
   exact ⟨rfl, by have := hY.out; simp only [if_true] at this; rw [← this]; exact k3, gr_trans kg (gr_cell _ _ _ _)⟩
 · have hne : ((n + 1 : Nat) : Int) ≠ 64 := by omega
   go_wp2_with fail
   go_end0
   exact ⟨rfl, by rw [← hY.out, if_neg h15]; exact k2, kg⟩
def shHa (L : List UInt8) : Nat → List Nat
 | 0 => shIa
 | i + 1 => cmpa (shHa L i) ((L.drop (64 * i)).take 64)
theorem shHa_ok (L : List UInt8) : ∀ i, (shHa L i).length = 8 ∧ W32 (shHa L i)
 | 0 => shIa_ok
 | i + 1 => cmpa_ok (shHa_ok L i) _
theorem shHa_app (L M : List UInt8) : ∀ i, 64 * i ≤ L.length → shHa (L ++ M) i = shHa L i
 | 0, _ => rfl
 | i + 1, h => by
  rw [shHa, shHa, shHa_app L M i zOm, List.drop_append_of_le_length zOm, List.take_append_of_le_length (by rw [List.length_drop]; omega)]
def SSta (w : World) (g lg : Nat) (L : List UInt8) : Prop := ∃ bs, bs.length = 64 ∧ bs.take (L.length % 64) = L.drop (64 * (L.length / 64)) ∧ Arr w g (stva (shHa L (L.length / 64)) bs (L.length % 64) lg)
theorem SSta.below {w w' : World} {g lg : Nat} {L : List UInt8} (h : SSta w g lg L) (hb : Below w.heap.size w w') : SSta w' g lg L := by
 obtain ⟨bs, h1, h2, h3⟩ := h
 exact ⟨bs, h1, h2, h3.below hb⟩
theorem SSta.lt {w : World} {g lg : Nat} {L : List UInt8} (h : SSta w g lg L) : g < w.heap.size := by
 obtain ⟨bs, -, -, h3⟩ := h
 exact h3.lt
theorem SSta.start {w : World} {g : Nat} (h : Arr w g (stva shIa (List.replicate 64 0) 0 0)) : SSta w g 0 [] := ⟨_, by simp, rfl, h⟩
theorem SSta.n {w : World} {g lg : Nat} {L : List UInt8} (h : SSta w g lg L) : w.cell? ⟨g, 136, none⟩ = some (.int .i64 ((L.length % 64 : Nat) : Int)) := by
 obtain ⟨bs, h1, -, h3⟩ := h
 exact h3.cell (stva_n (shHa_ok L _).1 h1)
theorem SSta.l {w : World} {g lg : Nat} {L : List UInt8} (h : SSta w g lg L) : w.cell? ⟨g, 137, none⟩ = some (.int .u64 (lg : Int)) ∧ w.frozen? ⟨g, 137, none⟩ = false := by
 obtain ⟨bs, h1, -, h3⟩ := h
 exact ⟨h3.cell (stva_l (shHa_ok L _).1 h1), h3.frozen _⟩
theorem SSta.set {w : World} {g lg m : Nat} {L : List UInt8} (h : SSta w g lg L) : SSta (w.setCell ⟨g, 137, none⟩ (.int .u64 (m : Int))) g m L := by
 obtain ⟨bs, h1, h2, h3⟩ := h
 refine ⟨bs, h1, h2, ?_⟩
 have := h3.set 137 (.int .u64 (m : Int))
 rwa [stva_set_l (shHa_ok L _).1 h1] at this
theorem takea_st (g lg : Nat) (L : List UInt8) (x : UInt8) (w : World) (k0 : SSta w g lg L) :
 Calls Tryz.prog 44 #[.pointer (some ⟨g, 0, none⟩), .int .u8 (x.toNat : Int)] w fun e w' => e = .returned (.tuple #[]) ∧ SSta w' g lg (L ++ [x]) ∧ w.grownBy w' (some g) := by
 obtain ⟨bs, h1, h2, h3⟩ := k0
 refine (takea_any g (L.length % 64) lg _ bs x w h3 (shHa_ok L _) h1 (Nat.mod_lt _ zDc)).mono ?_
 rintro e w' ⟨rfl, k1, kg⟩
 refine ⟨rfl, ?_, kg⟩
 have hl : (L ++ [x]).length = L.length + 1 := by simp
 have e2 : (bs.set (L.length % 64) x).take (L.length % 64 + 1) = L.drop (64 * (L.length / 64)) ++ [x] := by
  rw [List.take_succ_eq_append_getElem (by simp; omega), List.take_set_of_le (Nat.le_refl _), h2]; simp
 have e4 : (L ++ [x]).drop (64 * (L.length / 64)) = L.drop (64 * (L.length / 64)) ++ [x] := List.drop_append_of_le_length zOm
 by_cases h15 : L.length % 64 = 63
 · rw [if_pos h15] at k1
   have e3 : bs.set (L.length % 64) x = L.drop (64 * (L.length / 64)) ++ [x] := by
    rw [← e2, List.take_of_length_le (by rw [List.length_set]; omega)]
   have hl3 : (L.drop (64 * (L.length / 64)) ++ [x]).length = 64 := by simp; omega
   rw [e3] at k1
   refine ⟨_, hl3, ?_, ?_⟩
   · rw [hl, show (L.length + 1) % 64 = 0 by omega, List.take_zero, show 64 * ((L.length + 1) / 64) = L.length + 1 by omega, List.drop_of_length_le zOm]
   · rw [hl, show (L.length + 1) % 64 = 0 by omega, show (L.length + 1) / 64 = L.length / 64 + 1 by omega, shHa, shHa_app _ _ _ zOm, e4, List.take_of_length_le zOm]
     exact k1
 · rw [if_neg h15] at k1
   refine ⟨bs.set (L.length % 64) x, by rw [List.length_set]; exact h1, ?_, ?_⟩
   · rw [hl, show (L.length + 1) % 64 = L.length % 64 + 1 by omega, show (L.length + 1) / 64 = L.length / 64 by omega, e2, e4]
   · rw [hl, show (L.length + 1) % 64 = L.length % 64 + 1 by omega, show (L.length + 1) / 64 = L.length / 64 by omega, shHa_app _ _ _ zOm]
     exact k1
end Go.Proofs.YtibdgkhkhmdihaaGreatDoor
