/- TopSigned: part 22 of its proof: lemmas and contracts, each with its conditions in its own statement; the last part holds the law itself. -/
import Derived.Test.YtncnlfpiondpnaaGreatJt21

set_option maxHeartbeats 4000000
set_option maxRecDepth 100000
namespace Go.Proofs.YtncnlfpiondpnaaGreat
open Go.RowKit
def shKb : List Nat := [4794697086780616226, 8158064640168781261, 13096744586834688815, 16840607885511220156, 4131703408338449720, 6480981068601479193, 10538285296894168987, 12329834152419229976, 15566598209576043074, 1334009975649890238, 2608012711638119052, 6128411473006802146, 8268148722764581231, 9286055187155687089, 11230858885718282805, 13951009754708518548, 16472876342353939154, 17275323862435702243, 1135362057144423861, 2597628984639134821, 3308224258029322869, 5365058923640841347, 6679025012923562964, 8573033837759648693, 10970295158949994411, 12119686244451234320, 12683024718118986047, 13788192230050041572, 14330467153632333762, 15395433587784984357, 489312712824947311, 1452737877330783856, 2861767655752347644, 3322285676063803686, 5560940570517711597, 5996557281743188959, 7280758554555802590, 8532644243296465576, 9350256976987008742, 10552545826968843579, 11727347734174303076, 12113106623233404929, 14000437183269869457, 14369950271660146224, 15101387698204529176, 15463397548674623760, 17586052441742319658, 1182934255886127544, 1847814050463011016, 2177327727835720531, 2830643537854262169, 3796741975233480872, 4115178125766777443, 5681478168544905931, 6601373596472566643, 7507060721942968483, 8399075790359081724, 8693463985226723168, 9568029438360202098, 10144078919501101548, 10430055236837252648, 11840083180663258601, 13761210420658862357, 14299343276471374635, 14566680578165727644, 15097957966210449927, 16922976911328602910, 17689382322260857208, 500013540394364858, 748580250866718886, 1242879168328830382, 1977374033974150939, 2944078676154940804, 3659926193048069267, 4368137639120453308, 4836135668995329356, 5532061633213252278, 6448918945643986474, 6902733635092675308, 7801388544844847127]
def shIb : List Nat := [7640891576956012808, 13503953896175478587, 4354685564936845355, 11912009170470909681, 5840696475078001361, 11170449401992604703, 2270897969802886507, 6620516959819538809]
def shPb (x : Nat) : Nat := rL x 63 ^^^ rL x 56 ^^^ x / 128
def shQb (x : Nat) : Nat := rL x 45 ^^^ rL x 3 ^^^ x / 64
def shEb (x : Nat) : Nat := rL x 50 ^^^ rL x 46 ^^^ rL x 23
def shAb (x : Nat) : Nat := rL x 36 ^^^ rL x 30 ^^^ rL x 25
theorem shKb_ok : shKb.length = 80 ∧ W64 shKb := by unfold W64; decide
theorem shIb_ok : shIb.length = 8 ∧ W64 shIb := by unfold W64; decide
theorem div_ltb {x : Nat} (h : x < 18446744073709551616) (d : Nat) : x / d < 18446744073709551616 := Nat.lt_of_le_of_lt (Nat.div_le_self _ _) h
theorem xo_ltb {x y : Nat} (hx : x < 18446744073709551616) (hy : y < 18446744073709551616) : x ^^^ y < 18446744073709551616 := Nat.xor_lt_two_pow (n := 64) hx hy
theorem an_ltb {x y : Nat} (hx : x < 18446744073709551616) : x &&& y < 18446744073709551616 := Nat.lt_of_le_of_lt Nat.and_le_left hx
theorem shEb_lt {x : Nat} (h : x < 18446744073709551616) : shEb x < 18446744073709551616 := xo_ltb (xo_ltb (rL_lt h _) (rL_lt h _)) (rL_lt h _)
theorem shAb_lt {x : Nat} (h : x < 18446744073709551616) : shAb x < 18446744073709551616 := xo_ltb (xo_ltb (rL_lt h _) (rL_lt h _)) (rL_lt h _)
def schBb (bs : List UInt8) : Nat → List Nat
 | 0 => List.replicate 80 0
 | i + 1 => (schBb bs i).set (i / 8) (((schBb bs i).getD (i / 8) 0 * 256 % 18446744073709551616) ||| (bs.getD i 0).toNat)
def schNb (l : List Nat) (t : Nat) : Nat := (shQb (l.getD (t - 2) 0) + l.getD (t - 7) 0 + shPb (l.getD (t - 15) 0) + l.getD (t - 16) 0) % 18446744073709551616
def schWb (bs : List UInt8) : Nat → List Nat
 | 0 => schBb bs 128
 | j + 1 => (schWb bs j).set (16 + j) (schNb (schWb bs j) (16 + j))
def schLb (bs : List UInt8) : List Nat := schWb bs 64
theorem schBb_ok (bs : List UInt8) : ∀ i, (schBb bs i).length = 80 ∧ W64 (schBb bs i)
 | 0 => ⟨by simp [schBb], by
  intro x hx
  rw [schBb, List.mem_replicate] at hx
  omega⟩
 | i + 1 => ⟨by rw [schBb, List.length_set, (schBb_ok bs i).1], (schBb_ok bs i).2.set _ (Nat.or_lt_two_pow (n := 64) (Nat.mod_lt _ zDc) (Nat.lt_trans (UInt8.toNat_lt _) zDc))⟩
theorem schWb_ok (bs : List UInt8) : ∀ j, (schWb bs j).length = 80 ∧ W64 (schWb bs j)
 | 0 => schBb_ok bs 128
 | j + 1 => ⟨by rw [schWb, List.length_set, (schWb_ok bs j).1], (schWb_ok bs j).2.set _ (Nat.mod_lt _ zDc)⟩
def stvb (h : List Nat) (bs : List UInt8) (n lg : Nat) : List Value := wd h ++ (wd shKb ++ (u8s bs ++ [.int .i64 (n : Int), .int .u64 (lg : Int)]))
section
variable {h : List Nat} {bs : List UInt8} {n lg : Nat} (hh : h.length = 8)
theorem stvb_h {j : Nat} (hj : j < (wd h).length) : (stvb h bs n lg)[0 + j]? = (wd h)[j]? := by
 rw [stvb, Nat.zero_add, List.getElem?_append_left hj]
include hh
theorem stvb_len (hb : bs.length = 128) : (stvb h bs n lg).length = 218 := by simp [stvb, wd_len, u8s_len, hb, hh, shKb_ok.1]
theorem stvb_hj {j : Nat} (hj : j < 8) : (stvb h bs n lg)[j]? = some (.int .u64 ((h.getD j 0 : Nat) : Int)) := by
 have := stvb_h (h := h) (bs := bs) (n := n) (lg := lg) (j := j) (by rw [wd_len, hh]; exact hj)
 rw [Nat.zero_add] at this
 rw [this, wd_get (by rw [hh]; exact hj)]
theorem stvb_k {j : Nat} (hj : j < 80) : (stvb h bs n lg)[8 + j]? = some (.int .u64 ((shKb.getD j 0 : Nat) : Int)) := by
 rw [stvb, List.getElem?_append_right (by rw [wd_len]; omega), wd_len, hh, show 8 + j - 8 = j by omega, List.getElem?_append_left (by rw [wd_len, shKb_ok.1]; exact hj), wd_get (by rw [shKb_ok.1]; exact hj)]
theorem stvb_b {j : Nat} (hj : j < bs.length) : (stvb h bs n lg)[88 + j]? = (u8s bs)[j]? := by
 rw [stvb, List.getElem?_append_right (by rw [wd_len]; omega), wd_len, hh, List.getElem?_append_right (by rw [wd_len, shKb_ok.1]; omega), wd_len, shKb_ok.1, show 88 + j - 8 - 80 = j by omega, List.getElem?_append_left (by rw [u8s_len]; exact hj)]
theorem stvb_n (hb : bs.length = 128) : (stvb h bs n lg)[216]? = some (.int .i64 (n : Int)) := by
 rw [stvb, List.getElem?_append_right (by rw [wd_len]; omega), wd_len, hh, List.getElem?_append_right (by rw [wd_len, shKb_ok.1]; omega), wd_len, shKb_ok.1, List.getElem?_append_right (by rw [u8s_len]; omega), u8s_len, hb]; rfl
theorem stvb_l (hb : bs.length = 128) : (stvb h bs n lg)[217]? = some (.int .u64 (lg : Int)) := by
 rw [stvb, List.getElem?_append_right (by rw [wd_len]; omega), wd_len, hh, List.getElem?_append_right (by rw [wd_len, shKb_ok.1]; omega), wd_len, shKb_ok.1, List.getElem?_append_right (by rw [u8s_len]; omega), u8s_len, hb]; rfl
theorem stvb_set_n {m : Nat} (hb : bs.length = 128) : (stvb h bs n lg).set 216 (.int .i64 (m : Int)) = stvb h bs m lg := by
 rw [stvb, stvb, List.set_append_right _ _ (by rw [wd_len]; omega), wd_len, hh, List.set_append_right _ _ (by rw [wd_len, shKb_ok.1]; omega), wd_len, shKb_ok.1, List.set_append_right _ _ (by rw [u8s_len]; omega), u8s_len, hb]; rfl
theorem stvb_set_l {m : Nat} (hb : bs.length = 128) : (stvb h bs n lg).set 217 (.int .u64 (m : Int)) = stvb h bs n m := by
 rw [stvb, stvb, List.set_append_right _ _ (by rw [wd_len]; omega), wd_len, hh, List.set_append_right _ _ (by rw [wd_len, shKb_ok.1]; omega), wd_len, shKb_ok.1, List.set_append_right _ _ (by rw [u8s_len]; omega), u8s_len, hb]; rfl
theorem stvb_set_b {j : Nat} {x : UInt8} (hj : j < bs.length) : (stvb h bs n lg).set (88 + j) (.int .u8 (x.toNat : Int)) = stvb h (bs.set j x) n lg := by
 rw [stvb, stvb, List.set_append_right _ _ (by rw [wd_len]; omega), wd_len, hh, List.set_append_right _ _ (by rw [wd_len, shKb_ok.1]; omega), wd_len, shKb_ok.1, show 88 + j - 8 - 80 = j by omega, List.set_append_left _ _ (by rw [u8s_len]; exact hj)]
 congr 3
 simp [u8s, List.map_set]
theorem stvb_set_h {j x : Nat} (hj : j < 8) : (stvb h bs n lg).set j (.int .u64 (x : Int)) = stvb (h.set j x) bs n lg := by
 rw [stvb, stvb, List.set_append_left _ _ (by rw [wd_len, hh]; exact hj), wd_set]
end
theorem schedb_any {g : Nat} {h : List Nat} {bs : List UInt8} {n lg : Nat} (w : World) (k0 : Arr w g (stvb h bs n lg)) (hh : h.length = 8) (hb : bs.length = 128) :
 Calls Tryz.prog 204 #[.pointer (some ⟨g, 0, none⟩)] w fun e w' => e = .returned (.agg (wd (schLb bs)).toArray) ∧ Below w.heap.size w w' := by
 have hr0 : Hid (∀ w', Arr w' g (stvb h bs n lg) → w'.rangeAt g 88 (u8s bs)) := zH (fun w' hk => hk.range (fun j hj => stvb_b hh (by rw [u8s_len] at hj; exact hj)))
 replace hb := zH hb
 clear hh
 have hl := zH (show (wd (schLb bs)).length = 80 by rw [wd_len]; exact (schWb_ok bs 64).1)
 obtain ⟨L, hL⟩ : ∃ L, schLb bs = L := ⟨_, rfl⟩
 rw [hL] at hl ⊢
 replace hL := zH hL
 go_enter Tryz.func204, Tryz.ntmps204
 go_upto_region 2 with fail
 refine wp_new2 (fun W hsz k2 k3 kb => ?_)
 have k2 : Arr W w.heap.size (wd (List.replicate 80 0)) := k2
 have k3 : Arr W (w.heap.size + 1) (wd (schBb bs 0)) := k3
 have lt0 := k0.lt
 have hr1 := hr0.out W (k0.below kb)
 obtain ⟨g2, hg2⟩ : ∃ g, w.heap.size = g := ⟨_, rfl⟩
 rw [hg2] at k2 k3 lt0 ⊢
 have hw2 : w.heap.size ≤ g2 := by omega
 clear hg2 hsz k0 hr0
 go_wp2_with (refine wpList_load_mid2 rfl _ _ rfl _ _ rfl zKr _ hr1 (by rw [u8s_len, hb.out]; kernel_rfl) ?_)
 clear hr1
 go_loopw [15] (fun iv wr => ∃ i : Nat, i ≤ 128 ∧ iv = .int .i64 i ∧ Arr wr g2 (wd (List.replicate 80 0)) ∧ Arr wr (g2 + 1) (wd (schBb bs i)) ∧ Below w.heap.size w wr) (fun iv _ => 128 - (intOf iv).toNat)
 case atStart => exact ⟨0, by omega, rfl, k2, k3, kb⟩
 case round =>
 clear k2 k3 kb
 obtain ⟨i, hi, rfl, k2, k3, kb⟩ := hrel
 have hi0 : (0 : Int) ≤ (i : Int) := by omega
 by_cases hin : i < 128
 · have hi1 : (i : Int) < 128 := by omega
   have hib : i < bs.length := by rw [hb.out]; exact hin
   obtain ⟨inf, hinf, -, hz1, -⟩ := info_parts info_u8
   have hix := run_index_arr (P := Tryz.prog) wr 207 5 128 _ inf Tryz.underlying207 Tryz.underlying5 rfl hinf hz1 (u8s bs) i _ hin (u8s_get bs i hib)
   obtain ⟨x, hx⟩ : ∃ x, (bs[i]).toNat = x := ⟨_, rfl⟩
   have lx : x < 256 := by rw [← hx]; exact (bs[i]).toNat_lt
   rw [hx] at hix
   have hxd : Hid ((bs.getD i 0).toNat = x) := zH (by rw [← hx, List.getD_eq_getElem?_getD, List.getElem?_eq_getElem hib]; rfl)
   clear hx hib hinf hz1
   have ok := schBb_ok bs i
   have hcx := wd_get (l := schBb bs i) (j := i / 8) (by rw [ok.1]; omega)
   have lyy := ok.2.get (i / 8)
   obtain ⟨y, hy⟩ : ∃ y, (schBb bs i).getD (i / 8) 0 = y := ⟨_, rfl⟩
   rw [hy] at hcx lyy
   have hst : Hid ((wd (schBb bs i)).set (i / 8) (.int .u64 (((y * 256 % 18446744073709551616) ||| x : Nat) : Int)) = wd (schBb bs (i + 1))) := zH (by rw [wd_set, schBb, hy, hxd.out])
   have hsl : Hid ((wd (schBb bs i)).length = 80) := zH (by rw [wd_len, ok.1])
   obtain ⟨l, hl⟩ : ∃ l, schBb bs i = l := ⟨_, rfl⟩
   rw [hl] at k3 hcx hst hsl
   obtain ⟨q, hq⟩ : ∃ q, i / 8 = q := ⟨_, rfl⟩
   rw [hq] at hcx hst
   have fq : (i : Int) / 8 = (q : Int) := by omega
   have hq0 : (0 : Int) ≤ (q : Int) := by omega
   have hq1 : (q : Int) < 80 := by omega
   have fw : IntKind.i64.wrap (q : Int) = (q : Int) := i64_in zOm
   have fx : IntKind.u64.wrap (x : Int) = (x : Int) := q64_in zOm
   have fo := or_q64 (a := y * 256 % 18446744073709551616) (b := x) (Nat.mod_lt _ zDc) (Nat.lt_trans lx zDc)
   rw [show ((y * 256 % 18446744073709551616 : Nat) : Int) = IntKind.u64.wrap ((y : Int) * 256) by rw [wrap_q64]; omega] at fo
   clear hy hl ok hxd
   obtain ⟨z, hz⟩ : ∃ z, (y * 256 % 18446744073709551616) ||| x = z := ⟨_, rfl⟩
   rw [hz] at fo hst
   replace hq := zH hq
   clear hz
   have hcel := k3.cell hcx
   have hfro := k3.frozen q
   replace hcx := zH hcx
   go_wp2_with fail
   replace k2 := k2.other (a := ⟨g2 + 1, q, none⟩) (by simp) (.int .u64 (z : Int))
   replace k3 := k3.set q (.int .u64 (z : Int))
   rw [hst.out] at k3
   exact ⟨⟨i + 1, by omega, by go_num, k2, k3, kb.setCell (by simp; omega) _⟩, by simp [intOf]; omega⟩
 · have dj : decide ((i : Int) < 128) = false := decide_eq_false zOm
   have hie : Hid (i = 128) := zH zOm
   rw [hie.out] at k3
   replace k3 : Arr wr (g2 + 1) (wd (schWb bs (16 - 16))) := k3
   clear hi hin hi0
   obtain ⟨ic, hic⟩ : ∃ ic : Int, (i : Int) = ic := ⟨_, rfl⟩
   rw [hic] at dj ⊢
   clear hic
   go_wp2_with fail
   clear dj
   go_loopw [6] (fun iv wr => ∃ t : Nat, 16 ≤ t ∧ t ≤ 80 ∧ iv = .int .i64 t ∧ Arr wr g2 (wd (List.replicate 80 0)) ∧ Arr wr (g2 + 1) (wd (schWb bs (t - 16))) ∧ Below w.heap.size w wr) (fun iv _ => 80 - (intOf iv).toNat)
   case atStart => exact ⟨16, by omega, by omega, rfl, k2, k3, kb⟩
   case round =>
   clear k2 k3 kb
   obtain ⟨t, ht0, ht, rfl, k2, k3, kb⟩ := hrel
   have hi0 : (0 : Int) ≤ (t : Int) := by omega
   by_cases hin : t < 80
   · have hi1 : (t : Int) < 80 := by omega
     have ok := schWb_ok bs (t - 16)
     have hst0 : (wd (schWb bs (t - 16))).set t (.int .u64 ((schNb (schWb bs (t - 16)) t : Nat) : Int)) = wd (schWb bs (t + 1 - 16)) := by
      rw [show t + 1 - 16 = t - 16 + 1 by omega, schWb, show 16 + (t - 16) = t by omega, wd_set]
     obtain ⟨l, hl⟩ : ∃ l, schWb bs (t - 16) = l := ⟨_, rfl⟩
     rw [hl] at k3 ok hst0
     clear hl
     obtain ⟨t15, e15⟩ : ∃ q, t - 15 = q := ⟨_, rfl⟩
     obtain ⟨t2, e2⟩ : ∃ q, t - 2 = q := ⟨_, rfl⟩
     obtain ⟨t7, e7⟩ : ∃ q, t - 7 = q := ⟨_, rfl⟩
     obtain ⟨t16, e16⟩ : ∃ q, t - 16 = q := ⟨_, rfl⟩
     have c15 := zH (wd_get (l := l) (j := t15) (by rw [ok.1]; omega))
     have c2 := zH (wd_get (l := l) (j := t2) (by rw [ok.1]; omega))
     have c7 := zH (wd_get (l := l) (j := t7) (by rw [ok.1]; omega))
     have c16 := zH (wd_get (l := l) (j := t16) (by rw [ok.1]; omega))
     have hsl : Hid ((wd l).length = 80) := zH (by rw [wd_len, ok.1])
     have l15 := ok.2.get t15
     have l2 := ok.2.get t2
     rw [schNb, e15, e2, e7, e16] at hst0
     clear ok
     obtain ⟨x, hx⟩ : ∃ x, l.getD t15 0 = x := ⟨_, rfl⟩
     obtain ⟨y, hy⟩ : ∃ x, l.getD t2 0 = x := ⟨_, rfl⟩
     obtain ⟨x7, hx7⟩ : ∃ x, l.getD t7 0 = x := ⟨_, rfl⟩
     obtain ⟨x16, hx16⟩ : ∃ x, l.getD t16 0 = x := ⟨_, rfl⟩
     rw [hx] at c15 l15 hst0
     rw [hy] at c2 l2 hst0
     rw [hx7] at c7 hst0
     rw [hx16] at c16 hst0
     clear hx hy hx7 hx16
     have m15 : IntKind.i64.wrap ((t : Int) - 15) = (t15 : Int) := by rw [i64_in zOm]; omega
     have m2 : IntKind.i64.wrap ((t : Int) - 2) = (t2 : Int) := by rw [i64_in zOm]; omega
     have m7 : IntKind.i64.wrap ((t : Int) - 7) = (t7 : Int) := by rw [i64_in zOm]; omega
     have m16 : IntKind.i64.wrap ((t : Int) - 16) = (t16 : Int) := by rw [i64_in zOm]; omega
     have b15 : (0 : Int) ≤ (t15 : Int) := by omega
     have b2 : (0 : Int) ≤ (t2 : Int) := by omega
     have b7 : (0 : Int) ≤ (t7 : Int) := by omega
     have b16 : (0 : Int) ≤ (t16 : Int) := by omega
     have d15 : (t15 : Int) < 80 := by omega
     have d2 : (t2 : Int) < 80 := by omega
     have d7 : (t7 : Int) < 80 := by omega
     have d16 : (t16 : Int) < 80 := by omega
     clear e15 e2 e7
     replace e16 := zH e16
     go_upto_region 10 with fail
     obtain ⟨wq, rfl⟩ : ∃ wq : World, wq = wr := ⟨_, rfl⟩
     refine Tx.start (fun w' => Below (wq).heap.size (wq) w') 9999 10 rfl zKr ?_
     have hS_1 : Below (wq).heap.size (wq) (World.drew wq) := (Below.refl _ _).drew
     refine Tx.seg (A := ?_) 0 1023 zKr (by exact hS_1) [0, 1, 2, 3, 4, 5, 6, 7, 8, 9] zKr ?_ ?_
     rotate_left
     · intro w' hB
       have f1 := (k3.below hB).cell c15.out
       have f2 := (k3.below hB).cell c2.out
       exact zRd
     refine Tx.done zKr ?_
     replace k2 := k2.below hS_1
     replace k3 := k3.below hS_1
     replace kb := bel kb hS_1
     clear hS_1 m15 m2 b15 b2 d15 d2 c15 c2
     go_wp2_with fail
     obtain ⟨p1, p1e⟩ : ∃ r, rL x 63 = r := ⟨_, rfl⟩
     have p1l : p1 < 18446744073709551616 := by rw [← p1e]; exact rL_lt l15 _
     obtain ⟨p2, p2e⟩ : ∃ r, rL x 56 = r := ⟨_, rfl⟩
     have p2l : p2 < 18446744073709551616 := by rw [← p2e]; exact rL_lt l15 _
     obtain ⟨p3, p3e⟩ : ∃ r, x / 128 = r := ⟨_, rfl⟩
     have p3l : p3 < 18446744073709551616 := by rw [← p3e]; exact div_ltb l15 _
     have p3f : (x : Int) / 128 = (p3 : Int) := by omega
     obtain ⟨p4, p4e⟩ : ∃ r, p1 ^^^ p2 = r := ⟨_, rfl⟩
     have p4l : p4 < 18446744073709551616 := by rw [← p4e]; exact xo_ltb p1l p2l
     have p4f : bits .xor .u64 (p1 : Int) (p2 : Int) = (p4 : Int) := by rw [xor_q64 p1l p2l, p4e]
     obtain ⟨pz, pze⟩ : ∃ r, shPb x = r := ⟨_, rfl⟩
     have p5f : bits .xor .u64 (p4 : Int) (p3 : Int) = (pz : Int) := by rw [xor_q64 p4l p3l, ← pze, shPb, p1e, p2e, p3e, p4e]
     rw [pze] at hst0
     replace p1e := zH p1e
     replace p2e := zH p2e
     clear p4e pze p1l p2l p3l p4l p3e
     obtain ⟨q1, q1e⟩ : ∃ r, rL y 45 = r := ⟨_, rfl⟩
     have q1l : q1 < 18446744073709551616 := by rw [← q1e]; exact rL_lt l2 _
     obtain ⟨q2, q2e⟩ : ∃ r, rL y 3 = r := ⟨_, rfl⟩
     have q2l : q2 < 18446744073709551616 := by rw [← q2e]; exact rL_lt l2 _
     obtain ⟨q3, q3e⟩ : ∃ r, y / 64 = r := ⟨_, rfl⟩
     have q3l : q3 < 18446744073709551616 := by rw [← q3e]; exact div_ltb l2 _
     have q3f : (y : Int) / 64 = (q3 : Int) := by omega
     obtain ⟨q4, q4e⟩ : ∃ r, q1 ^^^ q2 = r := ⟨_, rfl⟩
     have q4l : q4 < 18446744073709551616 := by rw [← q4e]; exact xo_ltb q1l q2l
     have q4f : bits .xor .u64 (q1 : Int) (q2 : Int) = (q4 : Int) := by rw [xor_q64 q1l q2l, q4e]
     obtain ⟨qz, qze⟩ : ∃ r, shQb y = r := ⟨_, rfl⟩
     have q5f : bits .xor .u64 (q4 : Int) (q3 : Int) = (qz : Int) := by rw [xor_q64 q4l q3l, ← qze, shQb, q1e, q2e, q3e, q4e]
     rw [qze] at hst0
     replace q1e := zH q1e
     replace q2e := zH q2e
     clear q4e qze q1l q2l q3l q4l q3e
     go_wp2_with fail
     refine (rotrb_1 l15 p1e.out _).mono ?_
     rintro e w_2 ⟨rfl, hb_2⟩
     have k2 := k2.below hb_2
     have k3 := k3.below hb_2
     have kb := bel kb hb_2
     clear hb_2
     go_wp2_with fail
     refine (rotrb_8 l15 p2e.out _).mono ?_
     rintro e w_3 ⟨rfl, hb_3⟩
     have k2 := k2.below hb_3
     have k3 := k3.below hb_3
     have kb := bel kb hb_3
     clear hb_3
     go_wp2_with fail
     refine (rotrb_19 l2 q1e.out _).mono ?_
     rintro e w_4 ⟨rfl, hb_4⟩
     have k2 := k2.below hb_4
     have k3 := k3.below hb_4
     have kb := bel kb hb_4
     clear hb_4
     go_wp2_with fail
     refine (rotrb_61 l2 q2e.out _).mono ?_
     rintro e w_5 ⟨rfl, hb_5⟩
     have k2 := k2.below hb_5
     have k3 := k3.below hb_5
     have kb := bel kb hb_5
     clear hb_5
     clear p1e p2e q1e q2e
     obtain ⟨s1, hs1⟩ : ∃ s, (qz + x7) % 18446744073709551616 = s := ⟨_, rfl⟩
     obtain ⟨s2, hs2⟩ : ∃ s, (s1 + pz) % 18446744073709551616 = s := ⟨_, rfl⟩
     obtain ⟨s3, hs3⟩ : ∃ s, (s2 + x16) % 18446744073709551616 = s := ⟨_, rfl⟩
     have a1 : IntKind.u64.wrap ((qz : Int) + (x7 : Int)) = (s1 : Int) := by rw [show ((qz : Int) + (x7 : Int)) = ((qz + x7 : Nat) : Int) by omega, q64_mod, hs1]
     have a2 : IntKind.u64.wrap ((s1 : Int) + (pz : Int)) = (s2 : Int) := by rw [show ((s1 : Int) + (pz : Int)) = ((s1 + pz : Nat) : Int) by omega, q64_mod, hs2]
     have a3 : IntKind.u64.wrap ((s2 : Int) + (x16 : Int)) = (s3 : Int) := by rw [show ((s2 : Int) + (x16 : Int)) = ((s2 + x16 : Nat) : Int) by omega, q64_mod, hs3]
     have hst : Hid ((wd l).set t (.int .u64 (s3 : Int)) = wd (schWb bs (t + 1 - 16))) := zH (by rw [← hst0, show (qz + x7 + pz + x16) % 18446744073709551616 = s3 by omega])
     clear hst0 hs1 hs2 hs3
     go_upto_region 13 with fail
     obtain ⟨wq, hwq⟩ : ∃ wq : World, w_5 = wq := ⟨_, rfl⟩
     rw [hwq] at k2 k3 kb ⊢
     clear hwq
     refine Tx.start (fun w' => Below (wq).heap.size (wq) w') 15 16 rfl zKr ?_
     have hS_6 : Below (wq).heap.size (wq) (World.drew wq) := (Below.refl _ _).drew
     refine Tx.seg (A := ?_) 1 32767 zKr (by exact hS_6) [0, 1, 2, 3, 4, 5, 6, 7, 8, 9, 10, 11, 12, 13, 14] zKr ?_ ?_
     rotate_left
     · intro w' hB
       have f1 := (k3.below hB).cell c7.out
       have f2 := (k3.below hB).cell c16.out
       exact zRd
     refine Tx.bar 65535 rfl zDk (fun K hK => ?_)
     replace k2 := k2.below hS_6
     replace k3 := k3.below hS_6
     replace kb := bel kb hS_6
     clear hS_6
     refine step_cellG rfl _ _ _ rfl (g2 + 1) t (.int .u64 (s3 : Int)) rfl rfl _ k3 zKr (by rw [hsl.out]; exact hin) rfl (fun w5 k3 hg hsz => ?_)
     rw [hst.out] at k3
     replace k2 := k2.kept hg zOm
     replace kb := below_gr kb hg zOm kb.size
     refine hK (fun _ => True) 9999 _ _ ?_
     clear hK K
     try simp only [Act.put]
     try simp only [zSa, zSz, zSs]
     refine Tx.done zKr ?_
     go_wp2_with fail
     exact ⟨⟨t + 1, by omega, by omega, by go_num, k2, k3, kb⟩, by simp [intOf]; omega⟩
   · have dj : decide ((t : Int) < 80) = false := decide_eq_false zOm
     have hie : Hid (t = 80) := zH zOm
     rw [hie.out] at k3
     replace k3 : Arr wr (g2 + 1) (wd (schLb bs)) := k3
     rw [hL.out] at k3
     clear hL hi0 hin ht ht0
     obtain ⟨ic, hic⟩ : ∃ ic : Int, (t : Int) = ic := ⟨_, rfl⟩
     rw [hic] at dj ⊢
     clear hic hie
     go_wp2_with (first | (refine wpList_load_arr2 rfl _ _ rfl _ rfl zDk _ k3 (by rw [hl.out]; kernel_rfl) ?_) | (refine wpl_storeG rfl _ _ _ rfl _ (wd L) rfl rfl _ k2 (by rw [hl.out]; kernel_rfl) (by rw [hl.out, wd_len]; rfl) (wd_one _) (fun w7 k2 hg hsz => ?_)))
     have qb := below_gr kb hg zOm kb.size
     exact bodyPost_ret (results_arr2 Tryz.results204 _ _ _ rfl zKr _ k2 (by rw [hl.out]; kernel_rfl)) rfl ⟨rfl, qb⟩
end Go.Proofs.YtncnlfpiondpnaaGreat
