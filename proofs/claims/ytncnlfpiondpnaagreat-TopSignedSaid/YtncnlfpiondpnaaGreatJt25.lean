/- TopSigned: part 25 of its proof: lemmas and contracts, each with its conditions in its own statement; the last part holds the law itself. -/
import Derived.Test.YtncnlfpiondpnaaGreatJt24
import Derived.Deep.LoopGhost

set_option maxHeartbeats 4000000
set_option maxRecDepth 100000
namespace Go.Proofs.YtncnlfpiondpnaaGreat
open Go.RowKit
theorem four_of {w : World} {g K k i : Nat} (h : Arr w g (bytn K k)) (hi : 4 * i + 3 < K) :
 w.cell? ⟨g, 4 * i, none⟩ = some (.int .u8 ((k / 256 ^ (4 * i) % 256 : Nat) : Int)) ∧ w.cell? ⟨g, 4 * i + 1, none⟩ = some (.int .u8 ((k / 256 ^ (4 * i + 1) % 256 : Nat) : Int)) ∧
 w.cell? ⟨g, 4 * i + 2, none⟩ = some (.int .u8 ((k / 256 ^ (4 * i + 2) % 256 : Nat) : Int)) ∧ w.cell? ⟨g, 4 * i + 3, none⟩ = some (.int .u8 ((k / 256 ^ (4 * i + 3) % 256 : Nat) : Int)) :=
 ⟨h.cell (bytn_get _ _ _ zOm), h.cell (bytn_get _ _ _ zOm), h.cell (bytn_get _ _ _ zOm), h.cell (bytn_get _ _ _ zOm)⟩
theorem word_of {w : World} {g K k i n c : Nat} (h : Arr w g (bytn K k)) (hi : 4 * i + 3 < K) (hn : 4 ≤ n) :
 Calls Tryz.prog 216 #[.slice (some ⟨g, 4 * i, none⟩) n c] w fun e w' => e = .returned (.int .u32 ((kw k i : Nat) : Int)) ∧ Below w.heap.size w w' := by
 obtain ⟨c0, c1, c2, c3⟩ := four_of h hi
 exact word_any w (Nat.mod_lt _ zDc) (Nat.mod_lt _ zDc) (Nat.mod_lt _ zDc) (Nat.mod_lt _ zDc) hn c0 c1 c2 c3
theorem cbegin_any (k n c : Nat) (w : World) :
 Calls Tryz.prog 196 #[.agg (bytn 32 k).toArray, .int .u32 (c : Int), .agg (bytn 12 n).toArray] w fun e w' => e = .returned (.agg (ws (begL k c n)).toArray) ∧ Below w.heap.size w w' := by
 go_enter Tryz.func196, Tryz.ntmps196
 go_upto_region 1 with fail
 refine wp_new3 (fun W hsz k3 k5 k6 kb => ?_)
 have k3 : Arr W w.heap.size (bytn 32 k) := k3
 have k5 : Arr W (w.heap.size + 1) (bytn 12 n) := k5
 have k6 : Arr W (w.heap.size + 1 + 1) (List.replicate 16 (.int .u32 0)) := k6
 clear hsz
 go_upto_region 2 with fail
 refine wp_new1 (fun w4 hsz k7 hb => ?_)
 replace k7 : Arr w4 W.heap.size (ws (stK k 0)) := k7
 have h3 := k3.lt
 have h5 := k5.lt
 have h6 := k6.lt
 replace k3 := k3.below hb
 replace k5 := k5.below hb
 replace k6 := k6.below hb
 replace kb := bel kb hb
 obtain ⟨g7, hg7⟩ : ∃ g, W.heap.size = g := ⟨_, rfl⟩
 rw [hg7] at k7 h3 h5 h6 ⊢
 clear hb hsz hg7
 obtain ⟨g3, hg3⟩ : ∃ g, w.heap.size = g := ⟨_, rfl⟩
 rw [hg3] at k3 k5 k6 h3 h5 h6 ⊢
 replace hg3 := zH hg3
 go_wp2_with fail
 go_loopw [11] (fun iv wr => ∃ i : Nat, i ≤ 8 ∧ iv = .int .i64 i ∧ Arr wr g3 (bytn 32 k) ∧ Arr wr (g3 + 1) (bytn 12 n) ∧ Arr wr (g3 + 1 + 1) (List.replicate 16 (.int .u32 0)) ∧ Arr wr g7 (ws (stK k i)) ∧ Below w.heap.size w wr) (fun iv _ => 8 - (intOf iv).toNat)
 case atStart => exact ⟨0, by omega, rfl, k3, k5, k6, k7, kb⟩
 case round =>
  clear k3 k5 k6 k7 kb
  obtain ⟨i, hi, rfl, k3, k5, k6, k7, kb⟩ := hrel
  have hi0 : (0 : Int) ≤ (i : Int) := by omega
  by_cases hin : i < 8
  · have hi1 : (i : Int) < 8 := by omega
    obtain ⟨j, hj⟩ : ∃ j, 4 * i = j := ⟨_, rfl⟩
    obtain ⟨m, hm⟩ : ∃ m, 4 + i = m := ⟨_, rfl⟩
    have e4 : 4 * (i : Int) = (j : Int) := by omega
    have em : 4 + (i : Int) = (m : Int) := by omega
    have hj0 : (0 : Int) ≤ (j : Int) := by omega
    have hj1 : (j : Int) ≤ 32 := by omega
    have hj2 : ¬ 32 = j := by omega
    have hm0 : (0 : Int) ≤ (m : Int) := by omega
    have hm1 : (m : Int) < 16 := by omega
    replace hj := zH hj
    replace hm := zH hm
    go_wp2_with fail
    refine (show Calls Tryz.prog 216 #[.slice (some ⟨g3, j, none⟩) (32 - j) (32 - j)] wr fun e w' => e = .returned (.int .u32 ((kw k i : Nat) : Int)) ∧ Below wr.heap.size wr w' from by rw [← hj.out]; exact word_of k3 zOm zOm).mono ?_
    rintro e w5 ⟨rfl, hb⟩
    replace k3 := k3.below hb
    replace k5 := k5.below hb
    replace k6 := k6.below hb
    replace k7 := k7.below hb
    replace kb := bel kb hb
    clear hb
    obtain ⟨x, hx⟩ : ∃ x, kw k i = x := ⟨_, rfl⟩
    rw [hx]
    have hset : Hid ((ws (stK k i)).set m (.int .u32 (x : Int)) = ws (stK k (i + 1))) := zH (by rw [ws_set, ← hx, ← hm.out]; rfl)
    clear hx
    have hlen := zH (stK_len k i)
    go_wp2_with (refine wpl_cellG rfl _ _ _ rfl g7 m (.int .u32 (x : Int)) rfl rfl _ k7 zKr (by rw [ws_len, hlen.out]; omega) rfl (fun w6 k7 hg hsz => ?_))
    rw [hset.out] at k7
    have q3 := k3.kept hg zOm
    have q5 := k5.kept hg zOm
    have q6 := k6.kept hg zOm
    have qb := below_gr kb hg (by rw [hg3.out]; omega) kb.size
    go_wp2_with fail
    exact ⟨⟨i + 1, by omega, by go_num, q3, q5, q6, k7, qb⟩, by simp [intOf]; omega⟩
  · obtain rfl : i = 8 := by omega
    have hset : Hid ((ws (stK k 8)).set 12 (.int .u32 (c : Int)) = ws (stN ((stK k 8).set 12 c) n 0)) := zH (by rw [ws_set]; rfl)
    have hlen := zH (stK_len k 8)
    go_upto_region 8 with (refine wpl_cellG rfl _ _ _ rfl g7 12 (.int .u32 (c : Int)) rfl rfl _ k7 zKr (by rw [ws_len, hlen.out]; omega) rfl (fun w6 k7 hg hsz => ?_))
    rw [hset.out] at k7
    replace k3 := k3.kept hg zOm
    replace k5 := k5.kept hg zOm
    replace k6 := k6.kept hg zOm
    replace kb := below_gr kb hg (by rw [hg3.out]; omega) kb.size
    have hl0 : Hid (((stK k 8).set 12 c).length = 16) := zH (by rw [List.length_set]; exact stK_len k 8)
    obtain ⟨l0, hl⟩ : ∃ l, (stK k 8).set 12 c = l := ⟨_, rfl⟩
    rw [hl] at k7 hl0
    replace hl := zH hl
    clear hg hsz hset hlen hin hi hi0
    go_wp2_with fail
    go_loopw [24] (fun iv wr => ∃ i : Nat, i ≤ 3 ∧ iv = .int .i64 i ∧ Arr wr (g3 + 1) (bytn 12 n) ∧ Arr wr (g3 + 1 + 1) (List.replicate 16 (.int .u32 0)) ∧ Arr wr g7 (ws (stN l0 n i)) ∧ Below w.heap.size w wr) (fun iv _ => 3 - (intOf iv).toNat)
    case atStart => exact ⟨0, by omega, rfl, k5, k6, k7, kb⟩
    case round =>
     clear k3 k5 k6 k7 kb
     obtain ⟨i, hi, rfl, k5, k6, k7, kb⟩ := hrel
     have hi0 : (0 : Int) ≤ (i : Int) := by omega
     by_cases hin : i < 3
     · have hi1 : (i : Int) < 3 := by omega
       obtain ⟨j, hj⟩ : ∃ j, 4 * i = j := ⟨_, rfl⟩
       obtain ⟨m, hm⟩ : ∃ m, 13 + i = m := ⟨_, rfl⟩
       have e4 : 4 * (i : Int) = (j : Int) := by omega
       have em : 13 + (i : Int) = (m : Int) := by omega
       have hj0 : (0 : Int) ≤ (j : Int) := by omega
       have hj1 : (j : Int) ≤ 12 := by omega
       have hj2 : ¬ 12 = j := by omega
       have hm0 : (0 : Int) ≤ (m : Int) := by omega
       have hm1 : (m : Int) < 16 := by omega
       replace hj := zH hj
       replace hm := zH hm
       go_wp2_with fail
       refine (show Calls Tryz.prog 216 #[.slice (some ⟨g3 + 1, j, none⟩) (12 - j) (12 - j)] wr fun e w' => e = .returned (.int .u32 ((kw n i : Nat) : Int)) ∧ Below wr.heap.size wr w' from by rw [← hj.out]; exact word_of k5 zOm zOm).mono ?_
       rintro e w5 ⟨rfl, hb⟩
       replace k5 := k5.below hb
       replace k6 := k6.below hb
       replace k7 := k7.below hb
       replace kb := bel kb hb
       clear hb
       obtain ⟨x, hx⟩ : ∃ x, kw n i = x := ⟨_, rfl⟩
       rw [hx]
       have hset : Hid ((ws (stN l0 n i)).set m (.int .u32 (x : Int)) = ws (stN l0 n (i + 1))) := zH (by rw [ws_set, ← hx, ← hm.out]; rfl)
       clear hx
       have hlen := zH (stN_len hl0.out n i)
       go_wp2_with (refine wpl_cellG rfl _ _ _ rfl g7 m (.int .u32 (x : Int)) rfl rfl _ k7 zKr (by rw [ws_len, hlen.out]; omega) rfl (fun w6 k7 hg hsz => ?_))
       rw [hset.out] at k7
       have q5 := k5.kept hg zOm
       have q6 := k6.kept hg zOm
       have qb := below_gr kb hg (by rw [hg3.out]; omega) kb.size
       go_wp2_with fail
       exact ⟨⟨i + 1, by omega, by go_num, q5, q6, k7, qb⟩, by simp [intOf]; omega⟩
     · obtain rfl : i = 3 := by omega
       have hres : Hid (stN l0 n 3 = begL k c n) := zH (by rw [← hl.out]; rfl)
       rw [hres.out] at k7
       have hlen := zH (begL_len k c n)
       go_wp2_with (first | (refine wpList_load_arr2 rfl _ _ rfl _ rfl zDk _ k7 (by rw [ws_len, hlen.out]; kernel_rfl) ?_) | (refine wpl_storeG rfl _ _ _ rfl _ (ws (begL k c n)) rfl rfl _ k6 (by rw [ws_len, hlen.out]; kernel_rfl) (by rw [ws_len, hlen.out]; rfl) (ws_one _) (fun w7 k6 hg hsz => ?_)))
       have qb := below_gr kb hg (by rw [hg3.out]; omega) kb.size
       exact bodyPost_ret (results_arr2 Tryz.results196 _ _ _ rfl zKr _ k6 (by rw [ws_len, hlen.out]; kernel_rfl)) rfl ⟨rfl, qb⟩
theorem u8_mod (a : Nat) : IntKind.u8.wrap (a : Int) = ((a % 256 : Nat) : Int) := by
 simp [IntKind.wrap, IntKind.bits, IntKind.signed]
theorem zip_get {A B : List Nat} {q : Nat} (ha : q < A.length) (hb : q < B.length) : (List.zipWith (fun a b => (a + b) % 4294967296) A B).getD q 0 = (A.getD q 0 + B.getD q 0) % 4294967296 := by
 rw [List.getD_eq_getElem?_getD, List.getElem?_zipWith]
 simp [ha, hb]
theorem blk_set {k c n j z e : Nat} {f : Int} (hb : blkB k c n j = z / 256 ^ (j % 4) % 256) (he : j % 4 = e) (hf : f = ((z / 256 ^ e : Nat) : Int)) :
 (bytn 64 (blkT k c n j)).set j (.int .u8 (IntKind.u8.wrap f)) = bytn 64 (blkT k c n (j + 1)) := by
 rw [hf, u8_mod, bytn_snoc (blkT_lt k c n j) (Nat.mod_lt _ zDc), blkT, hb, he]
theorem below_fresh {w w' : World} {o : Obj} (hg : (w.alloc o).grownBy w' (some w.heap.size)) : Below w.heap.size w w' :=
 below_gr (below_alloc w o) hg (Nat.le_refl _) (by simp)
theorem cblock_any (k n c : Nat) (hc : c < 4294967296) (w : World) :
 Calls Tryz.prog 165 #[.agg (bytn 32 k).toArray, .int .i64 (c : Int), .agg (bytn 12 n).toArray] w fun e w' => e = .returned (.agg (bytn 64 (blkT k c n 64)).toArray) ∧ Below w.heap.size w w' := by
 have uc := u32_in hc
 go_enter Tryz.func165, Tryz.ntmps165
 go_upto_region 1 with fail
 refine wp_new3 (fun W hsz k3 k5 k6 kb => ?_)
 have k3 : Arr W w.heap.size (bytn 32 k) := k3
 have k5 : Arr W (w.heap.size + 1) (bytn 12 n) := k5
 have k6 : Arr W (w.heap.size + 1 + 1) (bytn 64 0) := k6
 clear hsz
 go_wp2_with (first | (refine wpList_load_arr2 rfl _ _ rfl _ rfl zDk _ k3 (by rw [bytn_len]; kernel_rfl) ?_) | (refine wpList_load_arr2 rfl _ _ rfl _ rfl zDk _ k5 (by rw [bytn_len]; kernel_rfl) ?_))
 refine (cbegin_any k n c _).mono ?_
 rintro e w1 ⟨rfl, hb⟩
 replace k3 := k3.below hb
 replace k5 := k5.below hb
 replace k6 := k6.below hb
 replace kb := bel kb hb
 clear hb
 have hs : Hid ((begL k c n).length = 16 ∧ W32 (begL k c n)) := zH ⟨begL_len k c n, begL_32 k n hc⟩
 obtain ⟨s, hse⟩ : ∃ s, begL k c n = s := ⟨_, rfl⟩
 rw [hse] at hs ⊢
 replace hse := zH hse
 go_upto_region 2 with (refine wpl_storeG rfl _ _ _ rfl _ (ws s) rfl rfl _ (Arr.new _ _ _) (by rw [ws_len, hs.out.1]; kernel_rfl) (by rw [ws_len, hs.out.1]; rfl) (ws_one _) (fun w2 k7 hg hsz => ?_))
 have hb := below_fresh hg
 have h37 := k3.lt
 have h57 := k5.lt
 have h67 := k6.lt
 replace k3 := k3.below hb
 replace k5 := k5.below hb
 replace k6 := k6.below hb
 replace kb := bel kb hb
 obtain ⟨g7, hg7⟩ : ∃ g, w1.heap.size = g := ⟨_, rfl⟩
 rw [hg7] at k7 h37 h57 h67 ⊢
 clear hb hsz hg7 hg
 go_upto_region 3 with (first | (refine wpList_load_arr2 rfl _ _ rfl _ rfl zDk _ k7 (by rw [ws_len, hs.out.1]; kernel_rfl) ?_) | (refine wpl_storeG rfl _ _ _ rfl _ (ws s) rfl rfl _ (Arr.new _ _ _) (by rw [ws_len, hs.out.1]; kernel_rfl) (by rw [ws_len, hs.out.1]; rfl) (ws_one _) (fun w3 k8 hg hsz => ?_)))
 have hb := below_fresh hg
 have h78 := k7.lt
 replace k6 := k6.below hb
 replace k7 := k7.below hb
 replace kb := bel kb hb
 obtain ⟨g8, hg8⟩ : ∃ g, w2.heap.size = g := ⟨_, rfl⟩
 rw [hg8] at k8 h78 ⊢
 clear hb hsz hg8 hg k3 k5 h37 h57
 obtain ⟨g6, hg6⟩ : ∃ g, w.heap.size + 1 + 1 = g := ⟨_, rfl⟩
 rw [hg6] at k6 h67 ⊢
 have hw6 : w.heap.size < g6 := by omega
 clear hg6
 go_wp2_with fail
 go_loopw [19] (fun iv wr => ∃ r : Nat, r ≤ 10 ∧ iv = .int .i64 r ∧ Arr wr g6 (bytn 64 0) ∧ Arr wr g7 (ws s) ∧ Arr wr g8 (ws (dblT s r)) ∧ Below w.heap.size w wr) (fun iv _ => 10 - (intOf iv).toNat)
 case atStart => exact ⟨0, by omega, rfl, k6, k7, k8, kb⟩
 case round =>
  clear k6 k7 k8 kb
  obtain ⟨r, hr, rfl, k6, k7, k8, kb⟩ := hrel
  have hr0 : (0 : Int) ≤ (r : Int) := by omega
  by_cases hrn : r < 10
  · have hr1 : (r : Int) < 10 := by omega
    have ok0 := zH (dblT_ok hs.out r)
    obtain ⟨t, ht⟩ : ∃ t, dblT s r = t := ⟨_, rfl⟩
    rw [ht] at ok0 k8
    replace ht := zH ht
    go_wp2_with fail
    go_loopw [21] (fun iv wr => ∃ i : Nat, i ≤ 4 ∧ iv = .int .i64 i ∧ Arr wr g6 (bytn 64 0) ∧ Arr wr g7 (ws s) ∧ Arr wr g8 (ws (colT t i)) ∧ Below w.heap.size w wr) (fun iv _ => 4 - (intOf iv).toNat)
    case atStart => exact ⟨0, by omega, rfl, k6, k7, k8, kb⟩
    case round =>
     clear k6 k7 k8 kb
     obtain ⟨i, hi, rfl, k6, k7, k8, kb⟩ := hrel
     have hi0 : (0 : Int) ≤ (i : Int) := by omega
     by_cases hin : i < 4
     · have hi1 : (i : Int) < 4 := by omega
       have ok1 := zH (colT_ok ok0.out i)
       obtain ⟨b, hb⟩ : ∃ b, 4 + i = b := ⟨_, rfl⟩
       obtain ⟨d, hd⟩ : ∃ d, 8 + i = d := ⟨_, rfl⟩
       obtain ⟨f, hf⟩ : ∃ f, 12 + i = f := ⟨_, rfl⟩
       have eb : 4 + (i : Int) = (b : Int) := by omega
       have ed : 8 + (i : Int) = (d : Int) := by omega
       have ef : 12 + (i : Int) = (f : Int) := by omega
       have hst : Hid (qr (colT t i) i b d f = colT t (i + 1)) := zH (by rw [← hb, ← hd, ← hf]; rfl)
       have lb : b < 16 := by omega
       have ld : d < 16 := by omega
       have lf : f < 16 := by omega
       replace hb := zH hb
       replace hd := zH hd
       replace hf := zH hf
       go_wp2_with fail
       refine (quarter_any (g := g8) (a := i) (b := b) (c := d) (d := f) _ ok1.out.1 ok1.out.2 zOm lb ld lf k8).mono ?_
       rintro e w9 ⟨rfl, k8, hg⟩
       rw [hst.out] at k8
       replace k6 := k6.kept hg zOm
       replace k7 := k7.kept hg zOm
       replace kb := below_gr kb hg zOm kb.size
       go_wp2_with fail
       exact ⟨⟨i + 1, by omega, by go_num, k6, k7, k8, kb⟩, by simp [intOf]; omega⟩
     · have dj : decide ((i : Int) < 4) = false := decide_eq_false zOm
       have hie : Hid (i = 4) := zH zOm
       rw [hie.out] at k8
       have ok1 := zH (colT_ok ok0.out 4)
       obtain ⟨u, hu⟩ : ∃ u, colT t 4 = u := ⟨_, rfl⟩
       rw [hu] at ok1 k8
       replace hu := zH hu
       clear hi hin hi0
       obtain ⟨ic, hic⟩ : ∃ ic : Int, (i : Int) = ic := ⟨_, rfl⟩
       rw [hic] at dj ⊢
       clear hic
       go_wp2_with fail
       clear dj
       go_loopw [33] (fun iv wr => ∃ i : Nat, i ≤ 4 ∧ iv = .int .i64 i ∧ Arr wr g6 (bytn 64 0) ∧ Arr wr g7 (ws s) ∧ Arr wr g8 (ws (diaT u i)) ∧ Below w.heap.size w wr) (fun iv _ => 4 - (intOf iv).toNat)
       case atStart => exact ⟨0, by omega, rfl, k6, k7, k8, kb⟩
       case round =>
        clear k6 k7 k8 kb
        obtain ⟨i, hi, rfl, k6, k7, k8, kb⟩ := hrel
        by_cases hin : i < 4
        · have hi0 : (0 : Int) ≤ (i : Int) := by omega
          have hi1 : (i : Int) < 4 := by omega
          have ok2 := zH (diaT_ok ok1.out i)
          obtain ⟨p, hp⟩ : ∃ p, (i + 1) % 4 = p := ⟨_, rfl⟩
          obtain ⟨q, hq⟩ : ∃ q, (i + 2) % 4 = q := ⟨_, rfl⟩
          obtain ⟨x, hx⟩ : ∃ x, (i + 3) % 4 = x := ⟨_, rfl⟩
          have m1 : Int.tmod ((i : Int) + 1) 4 = (p : Int) := by rw [Int.tmod_eq_emod_of_nonneg zOm]; omega
          have m2 : Int.tmod ((i : Int) + 2) 4 = (q : Int) := by rw [Int.tmod_eq_emod_of_nonneg zOm]; omega
          have m3 : Int.tmod ((i : Int) + 3) 4 = (x : Int) := by rw [Int.tmod_eq_emod_of_nonneg zOm]; omega
          have n1 : IntKind.i64.wrap (p : Int) = (p : Int) := i64_in zOm
          have n2 : IntKind.i64.wrap (q : Int) = (q : Int) := i64_in zOm
          have n3 : IntKind.i64.wrap (x : Int) = (x : Int) := i64_in zOm
          obtain ⟨b, hb⟩ : ∃ b, 4 + p = b := ⟨_, rfl⟩
          obtain ⟨d, hd⟩ : ∃ d, 8 + q = d := ⟨_, rfl⟩
          obtain ⟨f, hf⟩ : ∃ f, 12 + x = f := ⟨_, rfl⟩
          have eb : 4 + (p : Int) = (b : Int) := by omega
          have ed : 8 + (q : Int) = (d : Int) := by omega
          have ef : 12 + (x : Int) = (f : Int) := by omega
          have hst : Hid (qr (diaT u i) i b d f = diaT u (i + 1)) := zH (by rw [← hb, ← hd, ← hf, ← hp, ← hq, ← hx]; rfl)
          have lb : b < 16 := by omega
          have ld : d < 16 := by omega
          have lf : f < 16 := by omega
          replace hb := zH hb
          replace hd := zH hd
          replace hf := zH hf
          replace hp := zH hp
          replace hq := zH hq
          replace hx := zH hx
          go_wp2_with fail
          refine (quarter_any (g := g8) (a := i) (b := b) (c := d) (d := f) _ ok2.out.1 ok2.out.2 zOm lb ld lf k8).mono ?_
          rintro e w9 ⟨rfl, k8, hg⟩
          rw [hst.out] at k8
          replace k6 := k6.kept hg zOm
          replace k7 := k7.kept hg zOm
          replace kb := below_gr kb hg zOm kb.size
          go_wp2_with fail
          exact ⟨⟨i + 1, by omega, by go_num, k6, k7, k8, kb⟩, by simp [intOf]; omega⟩
        · have dj : decide ((i : Int) < 4) = false := decide_eq_false zOm
          have hie : Hid (i = 4) := zH zOm
          rw [hie.out] at k8
          have hst : Hid (diaT u 4 = dblT s (r + 1)) := zH (by rw [← hu.out, ← ht.out]; rfl)
          rw [hst.out] at k8
          clear hi hin
          go_wp2_with fail
          exact ⟨⟨r + 1, by omega, by go_num, k6, k7, k8, kb⟩, by simp [intOf]; omega⟩
  · have dj : decide ((r : Int) < 10) = false := decide_eq_false zOm
    have hie : Hid (r = 10) := zH zOm
    rw [hie.out] at k8
    clear hr hrn hr0
    obtain ⟨ic, hic⟩ : ∃ ic : Int, (r : Int) = ic := ⟨_, rfl⟩
    rw [hic] at dj ⊢
    clear hic
    go_upto_region 17 with fail
    clear dj
    refine wp_new1 (fun w4 hsz k11 hb => ?_)
    replace k11 : Arr w4 wr.heap.size (bytn 64 0) := k11
    have h6l := k6.lt
    have h7l := k7.lt
    have h8l := k8.lt
    replace k6 := k6.below hb
    replace k7 := k7.below hb
    replace k8 := k8.below hb
    replace kb := bel kb hb
    obtain ⟨g11, hg11⟩ : ∃ g, wr.heap.size = g := ⟨_, rfl⟩
    rw [hg11] at k11 h6l h7l h8l ⊢
    clear hb hsz hg11
    obtain ⟨v, hv⟩ : ∃ v, dblT s 10 = v := ⟨_, rfl⟩
    have hvk := zH (show v.length = 16 ∧ W32 v by rw [← hv]; exact dblT_ok hs.out 10)
    rw [hv] at k8
    replace hv := zH hv
    go_wp2_with fail
    go_loopw [52] (fun iv wr => ∃ j : Nat, j ≤ 64 ∧ iv = .int .i64 j ∧ Arr wr g6 (bytn 64 0) ∧ Arr wr g7 (ws s) ∧ Arr wr g8 (ws v) ∧ Arr wr g11 (bytn 64 (blkT k c n j)) ∧ Below w.heap.size w wr) (fun iv _ => 64 - (intOf iv).toNat)
    case atStart => exact ⟨0, by omega, rfl, k6, k7, k8, k11, kb⟩
    case round =>
     clear k6 k7 k8 k11 kb
     obtain ⟨j, hj, rfl, k6, k7, k8, k11, kb⟩ := hrel
     have hj0 : (0 : Int) ≤ (j : Int) := by omega
     by_cases hjn : j < 64
     · have hj1 : (j : Int) < 64 := by omega
       obtain ⟨q, hq⟩ : ∃ q, j / 4 = q := ⟨_, rfl⟩
       have hq1 : q < 16 := by omega
       have fq : Int.tdiv (j : Int) 4 = (q : Int) := by rw [Int.tdiv_eq_ediv_of_nonneg hj0]; omega
       have fw : IntKind.i64.wrap (q : Int) = (q : Int) := i64_in zOm
       have hq2 : (0 : Int) ≤ (q : Int) := by omega
       have hq3 : (q : Int) < 16 := by omega
       have hcx := ws_get (l := v) (j := q) (by rw [hvk.out.1]; exact hq1)
       have hcy := ws_get (l := s) (j := q) (by rw [hs.out.1]; exact hq1)
       have lx := hvk.out.2.get q
       have ly := hs.out.2.get q
       obtain ⟨x, hx⟩ : ∃ x, v.getD q 0 = x := ⟨_, rfl⟩
       obtain ⟨y, hy⟩ : ∃ y, s.getD q 0 = y := ⟨_, rfl⟩
       rw [hx] at hcx lx
       rw [hy] at hcy ly
       obtain ⟨z, hz⟩ : ∃ z, (x + y) % 4294967296 = z := ⟨_, rfl⟩
       have fz : IntKind.u32.wrap ((x : Int) + (y : Int)) = (z : Int) := by rw [show ((x : Int) + (y : Int)) = ((x + y : Nat) : Int) by omega, u32_mod, hz]
       have hbl : Hid (blkB k c n j = z / 256 ^ (j % 4) % 256) := zH (by rw [blkB, blkL, hq, hse.out, hv.out, zip_get (by rw [hvk.out.1]; exact hq1) (by rw [hs.out.1]; exact hq1), hx, hy, hz])
       replace hcx := zH hcx
       replace hcy := zH hcy
       have he4 : j % 4 = 0 ∨ j % 4 = 1 ∨ j % 4 = 2 ∨ j % 4 = 3 := by omega
       rcases he4 with he | he | he | he
       · have ft : Int.tmod (j : Int) 4 = 0 := by rw [Int.tmod_eq_emod_of_nonneg hj0]; omega
         replace he := zH he
         have fs : IntKind.i64.wrap 0 = 0 := by decide
         have hset : Hid ((bytn 64 (blkT k c n j)).set j (.int .u8 (IntKind.u8.wrap (z : Int))) = bytn 64 (blkT k c n (j + 1))) := zH (blk_set (e := 0) hbl.out he.out zOm)
         go_upto_region 20 with fail
         obtain ⟨wq, rfl⟩ : ∃ wq : World, wq = wr := ⟨_, rfl⟩
         refine Tx.start (fun w' => Below (wq).heap.size (wq) w') 16 17 rfl zKr ?_
         have hS_1 : Below (wq).heap.size (wq) (World.drew wq) := (Below.refl _ _).drew
         refine Tx.seg2 (A := ?_) 1 65535 zKr (by exact hS_1) [0, 1, 2, 3, 4, 5, 6, 7, 8, 9, 10, 11, 12, 13, 14, 15] zKr ?_ ?_
         rotate_left
         · intro w' hB
           have e1 := (k8.below hB).cell hcx.out
           have e2 := (k7.below hB).cell hcy.out
           exact zRd
         refine Tx.bar 131071 rfl zDk (fun K hK => ?_)
         replace k6 := k6.below hS_1
         replace k7 := k7.below hS_1
         replace k8 := k8.below hS_1
         replace k11 := k11.below hS_1
         replace kb := bel kb hS_1
         clear hS_1
         refine step_cellG rfl _ _ _ rfl g11 j (.int .u8 (IntKind.u8.wrap (z : Int))) rfl rfl _ k11 zKr (by rw [bytn_len]; omega) rfl (fun w5 k11 hg hsz => ?_)
         rw [hset.out] at k11
         replace k6 := k6.kept hg zOm
         replace k7 := k7.kept hg zOm
         replace k8 := k8.kept hg zOm
         replace kb := below_gr kb hg zOm kb.size
         refine hK (fun _ => True) 9999 _ _ ?_
         clear hK K
         try simp only [Act.put]
         try simp only [zSa, zSz, zSs]
         refine Tx.done zKr ?_
         go_wp2_with fail
         exact ⟨⟨j + 1, by omega, by go_num, k6, k7, k8, k11, kb⟩, by simp [intOf]; omega⟩
       · have ft : Int.tmod (j : Int) 4 = 1 := by rw [Int.tmod_eq_emod_of_nonneg hj0]; omega
         replace he := zH he
         have fs : IntKind.i64.wrap 8 = 8 := by decide
         have hset : Hid ((bytn 64 (blkT k c n j)).set j (.int .u8 (IntKind.u8.wrap ((z : Int) / 256))) = bytn 64 (blkT k c n (j + 1))) := zH (blk_set (e := 1) hbl.out he.out zOm)
         go_upto_region 20 with fail
         obtain ⟨wq, rfl⟩ : ∃ wq : World, wq = wr := ⟨_, rfl⟩
         refine Tx.start (fun w' => Below (wq).heap.size (wq) w') 16 17 rfl zKr ?_
         have hS_2 : Below (wq).heap.size (wq) (World.drew wq) := (Below.refl _ _).drew
         refine Tx.seg2 (A := ?_) 1 65535 zKr (by exact hS_2) [0, 1, 2, 3, 4, 5, 6, 7, 8, 9, 10, 11, 12, 13, 14, 15] zKr ?_ ?_
         rotate_left
         · intro w' hB
           have e1 := (k8.below hB).cell hcx.out
           have e2 := (k7.below hB).cell hcy.out
           exact zRd
         refine Tx.bar 131071 rfl zDk (fun K hK => ?_)
         replace k6 := k6.below hS_2
         replace k7 := k7.below hS_2
         replace k8 := k8.below hS_2
         replace k11 := k11.below hS_2
         replace kb := bel kb hS_2
         clear hS_2
         refine step_cellG rfl _ _ _ rfl g11 j (.int .u8 (IntKind.u8.wrap ((z : Int) / 256))) rfl rfl _ k11 zKr (by rw [bytn_len]; omega) rfl (fun w5 k11 hg hsz => ?_)
         rw [hset.out] at k11
         replace k6 := k6.kept hg zOm
         replace k7 := k7.kept hg zOm
         replace k8 := k8.kept hg zOm
         replace kb := below_gr kb hg zOm kb.size
         refine hK (fun _ => True) 9999 _ _ ?_
         clear hK K
         try simp only [Act.put]
         try simp only [zSa, zSz, zSs]
         refine Tx.done zKr ?_
         go_wp2_with fail
         exact ⟨⟨j + 1, by omega, by go_num, k6, k7, k8, k11, kb⟩, by simp [intOf]; omega⟩
       · have ft : Int.tmod (j : Int) 4 = 2 := by rw [Int.tmod_eq_emod_of_nonneg hj0]; omega
         replace he := zH he
         have fs : IntKind.i64.wrap 16 = 16 := by decide
         have hset : Hid ((bytn 64 (blkT k c n j)).set j (.int .u8 (IntKind.u8.wrap ((z : Int) / 65536))) = bytn 64 (blkT k c n (j + 1))) := zH (blk_set (e := 2) hbl.out he.out zOm)
         go_upto_region 20 with fail
         obtain ⟨wq, rfl⟩ : ∃ wq : World, wq = wr := ⟨_, rfl⟩
         refine Tx.start (fun w' => Below (wq).heap.size (wq) w') 16 17 rfl zKr ?_
         have hS_3 : Below (wq).heap.size (wq) (World.drew wq) := (Below.refl _ _).drew
         refine Tx.seg2 (A := ?_) 1 65535 zKr (by exact hS_3) [0, 1, 2, 3, 4, 5, 6, 7, 8, 9, 10, 11, 12, 13, 14, 15] zKr ?_ ?_
         rotate_left
         · intro w' hB
           have e1 := (k8.below hB).cell hcx.out
           have e2 := (k7.below hB).cell hcy.out
           exact zRd
         refine Tx.bar 131071 rfl zDk (fun K hK => ?_)
         replace k6 := k6.below hS_3
         replace k7 := k7.below hS_3
         replace k8 := k8.below hS_3
         replace k11 := k11.below hS_3
         replace kb := bel kb hS_3
         clear hS_3
         refine step_cellG rfl _ _ _ rfl g11 j (.int .u8 (IntKind.u8.wrap ((z : Int) / 65536))) rfl rfl _ k11 zKr (by rw [bytn_len]; omega) rfl (fun w5 k11 hg hsz => ?_)
         rw [hset.out] at k11
         replace k6 := k6.kept hg zOm
         replace k7 := k7.kept hg zOm
         replace k8 := k8.kept hg zOm
         replace kb := below_gr kb hg zOm kb.size
         refine hK (fun _ => True) 9999 _ _ ?_
         clear hK K
         try simp only [Act.put]
         try simp only [zSa, zSz, zSs]
         refine Tx.done zKr ?_
         go_wp2_with fail
         exact ⟨⟨j + 1, by omega, by go_num, k6, k7, k8, k11, kb⟩, by simp [intOf]; omega⟩
       · have ft : Int.tmod (j : Int) 4 = 3 := by rw [Int.tmod_eq_emod_of_nonneg hj0]; omega
         replace he := zH he
         have fs : IntKind.i64.wrap 24 = 24 := by decide
         have hset : Hid ((bytn 64 (blkT k c n j)).set j (.int .u8 (IntKind.u8.wrap ((z : Int) / 16777216))) = bytn 64 (blkT k c n (j + 1))) := zH (blk_set (e := 3) hbl.out he.out zOm)
         go_upto_region 20 with fail
         obtain ⟨wq, rfl⟩ : ∃ wq : World, wq = wr := ⟨_, rfl⟩
         refine Tx.start (fun w' => Below (wq).heap.size (wq) w') 16 17 rfl zKr ?_
         have hS_4 : Below (wq).heap.size (wq) (World.drew wq) := (Below.refl _ _).drew
         refine Tx.seg2 (A := ?_) 1 65535 zKr (by exact hS_4) [0, 1, 2, 3, 4, 5, 6, 7, 8, 9, 10, 11, 12, 13, 14, 15] zKr ?_ ?_
         rotate_left
         · intro w' hB
           have e1 := (k8.below hB).cell hcx.out
           have e2 := (k7.below hB).cell hcy.out
           exact zRd
         refine Tx.bar 131071 rfl zDk (fun K hK => ?_)
         replace k6 := k6.below hS_4
         replace k7 := k7.below hS_4
         replace k8 := k8.below hS_4
         replace k11 := k11.below hS_4
         replace kb := bel kb hS_4
         clear hS_4
         refine step_cellG rfl _ _ _ rfl g11 j (.int .u8 (IntKind.u8.wrap ((z : Int) / 16777216))) rfl rfl _ k11 zKr (by rw [bytn_len]; omega) rfl (fun w5 k11 hg hsz => ?_)
         rw [hset.out] at k11
         replace k6 := k6.kept hg zOm
         replace k7 := k7.kept hg zOm
         replace k8 := k8.kept hg zOm
         replace kb := below_gr kb hg zOm kb.size
         refine hK (fun _ => True) 9999 _ _ ?_
         clear hK K
         try simp only [Act.put]
         try simp only [zSa, zSz, zSs]
         refine Tx.done zKr ?_
         go_wp2_with fail
         exact ⟨⟨j + 1, by omega, by go_num, k6, k7, k8, k11, kb⟩, by simp [intOf]; omega⟩
     · have dj : decide ((j : Int) < 64) = false := decide_eq_false zOm
       have hie : Hid (j = 64) := zH zOm
       rw [hie.out] at k11
       go_wp2_with (first | (refine wpList_load_arr2 rfl _ _ rfl _ rfl zDk _ k11 (by rw [bytn_len]; kernel_rfl) ?_) | (refine wpl_storeG rfl _ _ _ rfl _ (bytn 64 (blkT k c n 64)) rfl rfl _ k6 (by rw [bytn_len]; kernel_rfl) (by rw [bytn_len, bytn_len]) (bytn_one _ _) (fun w7 k6 hg hsz => ?_)))
       have qb := below_gr kb hg zOm kb.size
       exact bodyPost_ret (results_arr2 Tryz.results165 _ _ _ rfl zKr _ k6 (by rw [bytn_len]; kernel_rfl)) rfl ⟨rfl, qb⟩
end Go.Proofs.YtncnlfpiondpnaaGreat
