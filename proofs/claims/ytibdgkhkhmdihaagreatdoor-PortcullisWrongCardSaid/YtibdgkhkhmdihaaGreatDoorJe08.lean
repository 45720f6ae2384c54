/- PortcullisWrong: part 8 of its proof: lemmas and contracts, each with its conditions in its own statement; the last part holds the law itself. -/
import Derived.Test.YtibdgkhkhmdihaaGreatDoorJe07
import Derived.Test.YtibdgkhkhmdihaaGreatDoorJe04

set_option maxHeartbeats 4000000
set_option maxRecDepth 100000
namespace Go.Proofs.YtibdgkhkhmdihaaGreatDoor
open Go.RowKit
def PSt (w : World) (g R : Nat) (L : List UInt8) : Prop := ∃ h bs, PolySt R L h ∧ bs.length = 16 ∧ bs.take (L.length % 16) = rest16 L ∧ Arr w g (stv h R bs (L.length % 16))
theorem PSt.below {w w' : World} {g R : Nat} {L : List UInt8} (h : PSt w g R L) (hb : Below w.heap.size w w') : PSt w' g R L := by
 obtain ⟨h, bs, h1, h2, h3, h4⟩ := h
 exact ⟨h, bs, h1, h2, h3, h4.below hb⟩
theorem PSt.lt {w : World} {g R : Nat} {L : List UInt8} (h : PSt w g R L) : g < w.heap.size := by
 obtain ⟨h, bs, -, -, -, h4⟩ := h
 exact h4.lt
theorem PSt.start {w : World} {g R : Nat} (h : Arr w g (stv 0 R (List.replicate 16 0) 0)) : PSt w g R [] := ⟨0, _, PolySt.nil R, by simp, rfl, h⟩
theorem ptake_st (g R : Nat) (L : List UInt8) (x : UInt8) (w : World) (k0 : PSt w g R L) (hR : R < 2 ^ 124) :
 Calls Tryz.prog 287 #[.pointer (some ⟨g, 0, none⟩), .int .u8 (x.toNat : Int)] w fun e w' => e = .returned (.tuple #[]) ∧ PSt w' g R (L ++ [x]) ∧ w.grownBy w' (some g) := by
 obtain ⟨h, bs, h1, h2, h3, h4⟩ := k0
 refine (ptake_any g h R (L.length % 16) bs x w h4 h2 (Nat.mod_lt _ zDc) h1.2 hR).mono ?_
 rintro e w' ⟨rfl, k1, kg⟩
 refine ⟨rfl, ?_, kg⟩
 have hl : (L ++ [x]).length = L.length + 1 := by simp
 have e2 : (bs.set (L.length % 16) x).take (L.length % 16 + 1) = rest16 L ++ [x] := by
  rw [List.take_succ_eq_append_getElem (by simp; omega), List.take_set_of_le (Nat.le_refl _), h3]; simp
 by_cases h15 : L.length % 16 = 15
 · rw [if_pos h15] at k1
   have e3 : bs.set (L.length % 16) x = rest16 L ++ [x] := by
    rw [← e2, List.take_of_length_le (by rw [List.length_set]; omega)]
   rw [e3] at k1
   refine ⟨_, rest16 L ++ [x], h1.full hR x h15, by rw [← e3, List.length_set]; exact h2, ?_, ?_⟩
   · rw [rest16_full L x h15, hl, show (L.length + 1) % 16 = 0 by omega]; rfl
   · rw [hl, show (L.length + 1) % 16 = 0 by omega]; exact k1
 · rw [if_neg h15] at k1
   refine ⟨_, bs.set (L.length % 16) x, h1.snoc x h15, by rw [List.length_set]; exact h2, ?_, ?_⟩
   · rw [rest16_snoc L x h15, hl, show (L.length + 1) % 16 = L.length % 16 + 1 by omega, e2]
   · rw [hl, show (L.length + 1) % 16 = L.length % 16 + 1 by omega]; exact k1
theorem flat_take_succ {ls : List (List UInt8)} {i : Nat} (h : i < ls.length) : (ls.take (i + 1)).flatten = (ls.take i).flatten ++ ls[i] := by
 rw [List.take_succ_eq_append_getElem h, List.flatten_append]; simp
theorem bytn_low (n : Nat) : bytn 16 n = bytn 16 (n % 2 ^ 128) := by
 apply List.ext_getElem?
 intro j
 by_cases hj : j < 16
 · rw [bytn_get _ _ _ hj, bytn_get _ _ _ hj]
   have e : (2 : Nat) ^ 128 = 256 ^ j * (256 * 256 ^ (15 - j)) := by
    rw [← Nat.mul_assoc, ← Nat.pow_succ, ← Nat.pow_add, show j + 1 + (15 - j) = 16 by omega]
   rw [e, Nat.mod_mul_right_div_self, Nat.mod_mul_right_mod]
 · rw [List.getElem?_eq_none (by rw [bytn_len]; omega), List.getElem?_eq_none (by rw [bytn_len]; omega)]
theorem byts_16 (n : Nat) : ∀ j, j < (bytn 16 n).length → (byts n)[0 + j]? = (bytn 16 n)[j]? := by
 intro j hj
 rw [bytn_len] at hj
 rw [Nat.zero_add, byts_get _ _ zOm, bytn_get _ _ _ hj]
theorem limbs_hi (K : Nat) (hK : K < 256 ^ 32) : lims 4 (K / 2 ^ 128) = [.int .u64 ((K / 18446744073709551616 ^ 2 % 18446744073709551616 : Nat) : Int), .int .u64 ((K / 18446744073709551616 ^ 3 % 18446744073709551616 : Nat) : Int), .int .u64 0, .int .u64 0] := by
 have e := lims_mk (x0 := K / 18446744073709551616 ^ 2 % 18446744073709551616) (x1 := K / 18446744073709551616 ^ 3 % 18446744073709551616) (x2 := 0) (x3 := 0) (Nat.mod_lt _ zDc) (Nat.mod_lt _ zDc) zDc zDc
 rw [← show K / 2 ^ 128 = K / 18446744073709551616 ^ 2 % 18446744073709551616 + 18446744073709551616 * (K / 18446744073709551616 ^ 3 % 18446744073709551616) + 18446744073709551616 ^ 2 * 0 + 18446744073709551616 ^ 3 * 0 by omega] at e
 exact e
theorem psum_any (K : Nat) (hK : K < 256 ^ 32) (d : Option Addr) (cap : Nat) (ls : List (List UInt8)) (w : World) (hs : Sls w (.slice d ls.length cap) ls) :
 Calls Tryz.prog 242 #[.agg (byts K).toArray, .slice d ls.length cap] w fun e w' => e = .returned (.agg (bytn 16 (polyT (polyR K) (K / 2 ^ 128) ls.flatten)).toArray) ∧ Below w.heap.size w w' := by
 have hlen := hs.len
 obtain ⟨-, hlc, hcm⟩ := hlen
 unfold maxLen at hcm
 have hRl := polyR_lt K
 have c1 := fun w => pclamped_any K hK w
 obtain ⟨R, hR⟩ : ∃ R, polyR K = R := ⟨_, rfl⟩
 rw [hR] at hRl c1 ⊢
 have c2 := fun g L x w k => ptake_st g R L x w k hRl
 obtain ⟨X, hX⟩ : ∃ X, Ending.returned (.agg (bytn 16 (polyT R (K / 2 ^ 128) ls.flatten)).toArray) = X := ⟨_, rfl⟩
 rw [hX]
 replace hX := zH hX
 replace hs := zH hs
 replace c1 := zH c1
 replace c2 := zH c2
 replace hK := zH hK
 replace hRl := zH hRl
 clear hR
 go_enter Tryz.func242, Tryz.ntmps242
 go_upto_region 1 with fail
 refine wp_new2 (fun W hsz k0 k4 kb => ?_)
 have k4 : Arr W (w.heap.size + 1) (bytn 16 0) := k4
 clear hsz
 go_wp2_with (refine zLd ?_)
 refine (c1.out _).mono ?_
 rintro e w_1 ⟨rfl, hb_1⟩
 have k0 := k0.below hb_1
 have k4 := k4.below hb_1
 have kb := bel kb hb_1
 clear hb_1
 have hl4 := lims_len 4 R
 go_upto_region 2 with fail
 clear hl4
 refine wp_new1 (fun w3 hsz3 k5 hb3 => ?_)
 have k5 : Arr w3 w_1.heap.size (stv 0 R (List.replicate 16 0) 0) := (congrArg (Arr w3 w_1.heap.size) zKr).mp k5
 have k5 := PSt.start k5
 have lt0 := k0.lt
 have lt4 := k4.lt
 have k0 := k0.below hb3
 have k4 := k4.below hb3
 have kb := bel kb hb3
 generalize Value.agg (List.foldl _ _ (lims 4 R).zipIdx) = vz
 generalize w_1.heap.size = g5 at k5 lt0 lt4 ⊢
 clear hsz3 hb3
 try simp only [Act.put, zSa, zSz, zSs]
 have ib : (ls.length : Int) ≤ 9223372036854775807 := by omega
 go_wp2_with fail
 go_loopw [21] (fun iv wr => ∃ i : Nat, i ≤ ls.length ∧ iv = .int .i64 i ∧ Arr wr w.heap.size (byts K) ∧ Arr wr (w.heap.size + 1) (bytn 16 0) ∧ PSt wr g5 R (ls.take i).flatten ∧ Below w.heap.size w wr) (fun iv _ => ls.length - (intOf iv).toNat)
 case atStart => exact ⟨0, Nat.zero_le _, rfl, k0, k4, k5, kb⟩
 case round =>
  clear k0 k4 k5 kb
  obtain ⟨i, hi, rfl, k0, k4, k5, kb⟩ := hrel
  by_cases hlt : i < ls.length
  · obtain ⟨b, o, x, c, rfl, hcel0, hsl⟩ := hs.out.at hlt
    have hcel : wr.cell? ⟨b, o + i, none⟩ = some (.slice x ls[i].length c) := by rw [kb.cell (World.block_lt_of_cell? w _ hcel0)]; exact hcel0
    have hsucc := flat_take_succ hlt
    obtain ⟨l, hl⟩ : ∃ l, ls[i] = l := ⟨_, rfl⟩
    rw [hl] at hsucc hcel hsl
    obtain ⟨pre, hpre⟩ : ∃ pre, (ls.take i).flatten = pre := ⟨_, rfl⟩
    rw [hpre] at k5 hsucc
    have hll := hsl.len
    rw [u8s_len] at hll
    obtain ⟨-, hlc2, hcm2⟩ := hll
    unfold maxLen at hcm2
    clear hpre hl hcel0
    replace hsucc := zH hsucc
    replace hsl := zH hsl
    have ilt : (i : Int) < (ls.length : Int) := by omega
    go_wp2_with fail
    clear hcel
    go_loopw [27] (fun jv wr => ∃ j : Nat, j ≤ l.length ∧ jv = .int .i64 j ∧ Arr wr w.heap.size (byts K) ∧ Arr wr (w.heap.size + 1) (bytn 16 0) ∧ PSt wr g5 R (pre ++ l.take j) ∧ Below w.heap.size w wr) (fun jv _ => l.length - (intOf jv).toNat)
    case atStart => exact ⟨0, Nat.zero_le _, rfl, k0, k4, by rw [List.take_zero, List.append_nil]; exact k5, kb⟩
    case round =>
     clear k0 k4 k5 kb
     obtain ⟨j, hj, rfl, k0, k4, k5, kb⟩ := hrel
     by_cases hltj : j < l.length
     · obtain ⟨b2, o2, rfl, -, -, -, hcc⟩ := hsl.out.at (by rw [u8s_len]; omega)
       have hcel := hcc j _ (u8s_get l j hltj)
       have hcel2 : wr.cell? ⟨b2, o2 + j, none⟩ = some (.int .u8 (l[j].toNat : Int)) := by rw [kb.cell (World.block_lt_of_cell? w _ hcel)]; exact hcel
       have hts : pre ++ l.take (j + 1) = pre ++ l.take j ++ [l[j]] := by rw [List.take_succ_eq_append_getElem hltj, List.append_assoc]
       have hyl : l[j].toNat < 256 := l[j].toNat_lt
       have c3 := zH (c2.out g5 (pre ++ l.take j) l[j] wr k5)
       generalize l[j] = y at *
       rw [← hts] at c3
       clear hcc hcel hts
       have jlt : (j : Int) < (l.length : Int) := by omega
       go_wp2_with fail
       clear hcel2
       refine c3.out.mono ?_
       rintro e w4 ⟨rfl, k5', hg⟩
       have lt5 := k5.lt
       have lt0 := k0.lt
       have k0 := k0.kept hg zOm
       have k4 := k4.kept hg zOm
       have kb := below_gr kb hg zOm zOm
       clear c3 hg
       go_wp2_with fail
       exact ⟨⟨j + 1, by omega, by go_num, k0, k4, k5', kb⟩, by simp [intOf]; omega⟩
     · obtain rfl : j = l.length := by omega
       rw [List.take_of_length_le (Nat.le_refl _), ← hsucc.out] at k5
       go_wp2_with fail
       exact ⟨⟨i + 1, by omega, by go_num, k0, k4, k5, kb⟩, by simp [intOf]; omega⟩
  · obtain rfl : i = ls.length := by omega
    rw [List.take_of_length_le (Nat.le_refl _)] at k5
    obtain ⟨L, hL⟩ : ∃ L, ls.flatten = L := ⟨_, rfl⟩
    rw [hL] at k5
    have hX := hX.out
    rw [hL] at hX
    obtain ⟨h, bs, hps, hb16, htk, k5⟩ := k5
    obtain ⟨hl1, hl2⟩ := hps.last hRl.out
    obtain ⟨H, hH⟩ : ∃ H, lastH R h L = H := ⟨_, rfl⟩
    rw [hH] at hl1 hl2
    obtain ⟨w3, hw3, hw3l, hw3k⟩ := final13 hl1 hl2
    obtain ⟨kk, hkk⟩ : ∃ kk, polyK R L ((L.length + 15) / 16) = kk := ⟨_, rfl⟩
    have hkl : kk < p13 := hkk ▸ polyK_lt _ _ _
    rw [polyT] at hX
    rw [hkk] at hw3k hX
    have hKl := hK.out
    obtain ⟨T0, hT0⟩ : ∃ T, kk + K / 2 ^ 128 = T := ⟨_, rfl⟩
    rw [hT0, ← bytn_low] at hX
    have s1 := fun w => limOf_any K hKl w
    have s2 := fun w => limAdd_any kk (K / 2 ^ 128) w
    rw [limbs_hi K hKl, hT0] at s2
    have s3 := fun w => limNum_any T0 w
    have s4 := byts_16 T0
    have s5 := lims_get 4 K 2 zDc
    have s6 := lims_get 4 K 3 zDc
    obtain ⟨x2, hx2⟩ : ∃ x, K / 18446744073709551616 ^ 2 % 18446744073709551616 = x := ⟨_, rfl⟩
    obtain ⟨x3, hx3⟩ : ∃ x, K / 18446744073709551616 ^ 3 % 18446744073709551616 = x := ⟨_, rfl⟩
    rw [hx2] at s2 s5
    rw [hx3] at s2 s6
    obtain ⟨cy, hcy⟩ : ∃ c, carry 18446744073709551616 4 kk (K / 2 ^ 128) = c := ⟨_, rfl⟩
    rw [hcy] at s2
    have f1 := fun w => pfold_any H (Nat.lt_trans hl2 zDc) w
    obtain ⟨F1, hF1⟩ : ∃ F, fold13 H = F := ⟨_, rfl⟩
    have lF1 : F1 ≤ H := hF1 ▸ fold13_le H
    rw [hF1] at f1 hw3
    have f2 := fun w => pfold_any F1 (Nat.lt_of_le_of_lt lF1 (Nat.lt_trans hl2 zDc)) w
    obtain ⟨F2, hF2⟩ : ∃ F, fold13 F1 = F := ⟨_, rfl⟩
    have lF2 : F2 ≤ F1 := hF2 ▸ fold13_le F1
    rw [hF2] at f2 hw3
    have f3 := fun w => pfold_any F2 (Nat.lt_of_le_of_lt lF2 (Nat.lt_of_le_of_lt lF1 (Nat.lt_trans hl2 zDc))) w
    rw [hw3] at f3
    have hpl : p13 < 18446744073709551616 ^ 4 := by decide
    have hw4 : w3 < 18446744073709551616 ^ 4 := Nat.lt_trans hw3l zDc
    have f4 := fun w => limSub_any w3 p13 zOm w
    have hbo := borrow_all hw4 hpl
    have hDm : ¬ w3 < p13 → lims 4 (w3 + 18446744073709551616 ^ 4 - p13) = lims 4 (w3 - p13) := fun hge => lims_mod _ _ ⟨1, by omega⟩
    obtain ⟨D, hD⟩ : ∃ D, w3 + 18446744073709551616 ^ 4 - p13 = D := ⟨_, rfl⟩
    obtain ⟨cb, hcb⟩ : ∃ c, borrow 18446744073709551616 4 w3 p13 = c := ⟨_, rfl⟩
    rw [hD, hcb] at f4
    rw [hcb] at hbo
    rw [hD] at hDm
    have hcase : (cb = 1 ∧ w3 = kk) ∨ (cb = 0 ∧ lims 4 D = lims 4 kk) := by
     by_cases hlq : w3 < p13
     · rw [if_pos hlq] at hbo hw3k
       exact .inl ⟨hbo, hw3k⟩
     · rw [if_neg hlq] at hbo hw3k
       exact .inr ⟨hbo, by rw [hDm hlq, hw3k]⟩
    obtain ⟨n, hn⟩ : ∃ n, L.length % 16 = n := ⟨_, rfl⟩
    have hn16 : n < 16 := hn ▸ Nat.mod_lt _ zDc
    rw [hn] at k5 htk
    have hcn := stv_n (h := h) (r := R) (n := n) hb16
    have hH0 : n = 0 → h = H := by rintro rfl; rw [← hH, lastH, if_pos hn]
    have hH1 : n ≠ 0 → fold13 ((h + blkV (bs.take n)) * R) = H := by intro hne; rw [← hH, lastH, if_neg zOm, htk]
    have tt := fun w k => pturn_any g5 h R n bs w k hb16 zOm hps.2 hRl.out
    clear hs c1 c2 hl1 hl2 hH hw3l hw3k hkk hkl hKl hT0 hx2 hx3 hcy hF1 lF1 hF2 lF2 hw3 hpl hw4 hbo hDm hD hcb hps htk hK hRl hn hL
    replace hX := zH hX
    replace s1 := zH s1
    replace s2 := zH s2
    replace s3 := zH s3
    replace s4 := zH s4
    replace s5 := zH s5
    replace s6 := zH s6
    replace f1 := zH f1
    replace f2 := zH f2
    replace f3 := zH f3
    replace f4 := zH f4
    replace hcase := zH hcase
    replace hH0 := zH hH0
    replace hH1 := zH hH1
    replace tt := zH tt
    replace hb16 := zH hb16
    have hce := k5.cell hcn
    replace hcn := zH hcn
    by_cases hn0 : n = 0
    · have hHe := hH0.out hn0
      rw [hHe] at k5
      clear hH0 hH1 tt hHe
      subst hn0
      go_upto_region 13 with fail
      clear hce
      have hrh := k5.range (o := 0) (cs := lims 4 H) (fun j hj => stv_h hj)
      go_upto_region 13 with fail
      go_wp2_with (refine wpList_load_mid2 rfl _ _ rfl _ _ rfl zKr _ hrh zLn ?_)
      clear hrh
      refine (f1.out _).mono ?_
      rintro e w_2 ⟨rfl, hb_2⟩
      have k0 := k0.below hb_2
      have k4 := k4.below hb_2
      have kb := bel kb hb_2
      clear hb_2
      go_wp2_with (first | (refine zLd ?_) | (refine zSt ?_))
      refine (f2.out _).mono ?_
      rintro e w_3 ⟨rfl, hb_3⟩
      have k0 := k0.below hb_3
      have k4 := k4.below hb_3
      have kb := bel kb hb_3
      clear hb_3
      go_wp2_with (first | (refine zLd ?_) | (refine zSt ?_))
      refine (f3.out _).mono ?_
      rintro e w_4 ⟨rfl, hb_4⟩
      have k0 := k0.below hb_4
      have k4 := k4.below hb_4
      have kb := bel kb hb_4
      clear hb_4
      go_upto_region 14 with (first | (refine zLd ?_) | (refine zSt ?_))
      have hg_k10_k0 := k0.lt
      have hg_k10_k4 := k4.lt
      refine code_new (fun w_5 k10 hnew => ?_)
      have k0 := k0.below hnew
      have k4 := k4.below hnew
      have kb := bel kb hnew
      clear hnew
      generalize (w_4).heap.size = g_k10 at k10 hg_k10_k0 hg_k10_k4 ⊢
      have hsz10 := kb.size
      refine Tx.start (fun w' => Below (w_5).heap.size (w_5) w') 7 9 rfl zKr ?_
      have hS_6 : Below (w_5).heap.size (w_5) (World.drew w_5) := (Below.refl _ _).drew
      refine Tx.seg (A := ?_) 8 1 zKr (by exact hS_6) [0] zKr ?_ ?_
      rotate_left
      · intro w' hB
        have e1 := k10.below hB
        exact zRd
      refine Tx.poolB 2 127 [(1, 52), (2, 53), (3, 50), (4, 54), (5, 55), (6, 11)] [(false, []), (false, [(1, 52)]), (true, [(2, 53)]), (true, [(3, 50)]), (true, [(3, 50)]), (false, [])] [(1, Ph.is (.agg (lims 4 p13).toArray)), (2, Ph.is (.tuple #[.agg (lims 4 D).toArray, .int .u64 (cb : Int)])), (3, Ph.is (.tuple #[.agg (lims 4 D).toArray, .int .u64 (cb : Int)])), (4, Ph.is (.agg (lims 4 D).toArray)), (5, Ph.is (.int .u64 (cb : Int))), (6, Ph.arr (w_5).heap.size (lims 4 0))] zKr zKr (by first | assumption | exact (Below.refl _ _).drew) ?_ ?_
      · refine ⟨⟨_, rfl, ?_⟩, ⟨_, rfl, ?_⟩, ⟨_, rfl, ?_⟩, ⟨_, rfl, ?_⟩, ⟨_, rfl, ?_⟩, ⟨_, rfl, ?_⟩, trivial⟩
        · intro vs w1 hS hE hD K hK
          clear hD
          simp only [fillL, Act.put, zSa, zSz, zSs] at hK ⊢
          go_simp
          refine (pprime_any _).mono ?_
          rintro e w2 ⟨rfl, hb2⟩
          exact hK _ _ rfl hb2 nofun
        · intro vs w1 hS hE hD K hK
          obtain ⟨q1, -⟩ := hD
          simp only [fillL, Act.put, zSa, zSz, zSs] at hK ⊢
          rw [show vs 1 = _ from q1] at hK ⊢
          clear q1
          go_simp
          refine (f4.out _).mono ?_
          rintro e w2 ⟨rfl, hb2⟩
          exact hK _ _ rfl hb2 nofun
        · intro vs w1 hS hE hD
          obtain ⟨q2, -⟩ := hD
          simp only [fillL, Act.put, zSa, zSz, zSs] at ⊢
          rw [show vs 2 = _ from q2] at ⊢
          clear q2
          refine ⟨_, rfl, fun w' => (by first | (go_simp; done) | (go_simp; rfl)), rfl, nofun⟩
        · intro vs w1 hS hE hD
          obtain ⟨q3, -⟩ := hD
          simp only [fillL, Act.put, zSa, zSz, zSs] at ⊢
          rw [show vs 3 = _ from q3] at ⊢
          clear q3
          refine ⟨_, rfl, fun w' => (by first | (go_simp; done) | (go_simp; rfl)), rfl, nofun⟩
        · intro vs w1 hS hE hD
          obtain ⟨q3, -⟩ := hD
          simp only [fillL, Act.put, zSa, zSz, zSs] at ⊢
          rw [show vs 3 = _ from q3] at ⊢
          clear q3
          refine ⟨_, rfl, fun w' => (by first | (go_simp; done) | (go_simp; rfl)), rfl, nofun⟩
        · intro vs w1 hS hE hD K hK
          clear hD
          simp only [fillL, Act.put, zSa, zSz, zSs] at hK ⊢
          go_simp
          exact hK _ _ ⟨_, rfl, Nat.le_trans zLe hE.size, Arr.new _ _ _⟩ (below_alloc _ _) (fun _ => ⟨_, rfl, Nat.le_refl _⟩)
      intro vs w_paa hS_paa hE_paa hP hD
      obtain ⟨q1, q2, q3, q4, q5, q6, -⟩ := hP
      simp only [fillL, Act.put, zSa, zSz, zSs]
      rw [show vs 1 = _ from q1]
      clear q1
      rw [show vs 2 = _ from q2]
      clear q2
      rw [show vs 3 = _ from q3]
      clear q3
      rw [show vs 4 = _ from q4]
      clear q4
      rw [show vs 5 = _ from q5]
      clear q5
      obtain ⟨g6, e6, hg6, ha6⟩ := q6
      rw [e6]
      clear e6 hD vs
      have ltk0 := Nat.lt_of_lt_of_le k0.lt hg6
      have ltk4 := Nat.lt_of_lt_of_le k4.lt hg6
      have ltk10 := Nat.lt_of_lt_of_le k10.lt hg6
      have k0 := k0.below hS_paa
      have k4 := k4.below hS_paa
      have k10 := k10.below hS_paa
      have kb := bel kb hS_paa
      refine Tx.bar 255 rfl zDk (fun K hK => ?_)
      refine step_store_arr rfl _ _ _ rfl _ _ rfl rfl _ zAm zLn zLm zOn ?_
      refine hK (fun _ => True) 9999 _ _ ?_
      clear hK K
      try simp only [Act.put]
      try simp only [zSa, zSz, zSs]
      refine Tx.seg (A := ?_) 0 511 zKr (by exact trivial) [8] zKr ?_ ?_
      rotate_left
      · intro w' hB
        exact zRd
      refine Tx.done zKr ?_
      refine then_row ha6 (fun w_7 ha6 hoth hbel => ?_)
      have k0 := hoth _ _ zOm k0
      have k4 := hoth _ _ zOm k4
      have k10 := hoth _ _ zOm k10
      have kb := hbel _ _ zOm kb
      clear hoth hbel
      have k11 := ha6
      clear ha6
      generalize g6 = g11 at *
      rcases hcase.out with ⟨hcb, hkk⟩ | ⟨hcb, hkk⟩
      · subst hcb
        rw [hkk] at k10
        clear hkk
        have k10 : Arr w_7 g_k10 (lims 4 kk) := k10
        go_upto_region 17 with fail
        go_wp2_with (refine zLd ?_)
        refine (s1.out _).mono ?_
        rintro e w_8 ⟨rfl, hb_8⟩
        have k0 := k0.below hb_8
        have k4 := k4.below hb_8
        have k10 := k10.below hb_8
        have kb := bel kb hb_8
        clear hb_8
        go_upto_region 18 with (first | (refine zLd ?_) | (refine zSt ?_))
        have hg_k13_k4 := k4.lt
        have hg_k13_k10 := k10.lt
        refine code_new (fun w_9 k13 hnew => ?_)
        have k4 := k4.below hnew
        have k10 := k10.below hnew
        have kb := bel kb hnew
        clear hnew
        generalize (w_8).heap.size = g_k13 at k13 hg_k13_k4 hg_k13_k10 ⊢
        have e2 := k13.cell s5.out
        have e3 := k13.cell s6.out
        go_wp2_with (refine zLd ?_)
        clear e2 e3
        refine (s2.out _).mono ?_
        rintro e w_10 ⟨rfl, hb_10⟩
        have k4 := k4.below hb_10
        have k10 := k10.below hb_10
        have kb := bel kb hb_10
        clear hb_10
        go_upto_region 19 with (refine zSt ?_)
        refine code_row k10 (fun w_11 k10 hoth hbel => ?_)
        have k4 := hoth _ _ zOm k4
        have kb := hbel _ _ zOm kb
        clear hoth hbel
        go_wp2_with (first | (refine zLd ?_) | (refine zSt ?_))
        refine (s3.out _).mono ?_
        rintro e w_12 ⟨rfl, hb_12⟩
        have k4 := k4.below hb_12
        have kb := bel kb hb_12
        clear hb_12
        go_upto_region 20 with (first | (refine zLd ?_) | (refine zSt ?_))
        have hg_k14_k4 := k4.lt
        refine code_new (fun w_13 k14 hnew => ?_)
        have k4 := k4.below hnew
        have kb := bel kb hnew
        clear hnew
        generalize (w_12).heap.size = g_k14 at k14 hg_k14_k4 ⊢
        have hat : ∀ w, (Instr.arrayAt 264 (.slice (some ⟨g_k14, 0, none⟩) 16 32)).run Tryz.prog w = .ok (.pointer (some ⟨g_k14, 0, none⟩)) w := fun w => run_arrayAt w 264 5 16 _ 16 32 Tryz.underlying264 zDc
        have hr14 : World.rangeAt w_13 g_k14 0 (bytn 16 T0) := k14.range s4.out
        go_wp2_with (first | (refine wpList_load_mid2 rfl _ _ rfl _ _ rfl zKr _ hr14 zLn ?_) | (refine zSt ?_))
        exact bodyPost_ret (results_arr2 Tryz.results242 _ _ _ rfl zKr _ (by first | assumption | exact Arr.setRow zAm _) zLn) rfl ⟨hX.out, below_setRow kb zOm _⟩
      · subst hcb
        go_upto_region 17 with (first | (refine zLd ?_) | (refine zSt ?_))
        refine code_row k10 (fun w_14 k10 hoth hbel => ?_)
        have k0 := hoth _ _ zOm k0
        have k4 := hoth _ _ zOm k4
        have kb := hbel _ _ zOm kb
        clear hoth hbel
        rw [hkk] at k10
        clear hkk
        have k10 : Arr w_14 g_k10 (lims 4 kk) := k10
        go_upto_region 17 with fail
        go_wp2_with (refine zLd ?_)
        refine (s1.out _).mono ?_
        rintro e w_15 ⟨rfl, hb_15⟩
        have k0 := k0.below hb_15
        have k4 := k4.below hb_15
        have k10 := k10.below hb_15
        have kb := bel kb hb_15
        clear hb_15
        go_upto_region 18 with (first | (refine zLd ?_) | (refine zSt ?_))
        have hg_k13_k4 := k4.lt
        have hg_k13_k10 := k10.lt
        refine code_new (fun w_16 k13 hnew => ?_)
        have k4 := k4.below hnew
        have k10 := k10.below hnew
        have kb := bel kb hnew
        clear hnew
        generalize (w_15).heap.size = g_k13 at k13 hg_k13_k4 hg_k13_k10 ⊢
        have e2 := k13.cell s5.out
        have e3 := k13.cell s6.out
        go_wp2_with (refine zLd ?_)
        clear e2 e3
        refine (s2.out _).mono ?_
        rintro e w_17 ⟨rfl, hb_17⟩
        have k4 := k4.below hb_17
        have k10 := k10.below hb_17
        have kb := bel kb hb_17
        clear hb_17
        go_upto_region 19 with (refine zSt ?_)
        refine code_row k10 (fun w_18 k10 hoth hbel => ?_)
        have k4 := hoth _ _ zOm k4
        have kb := hbel _ _ zOm kb
        clear hoth hbel
        go_wp2_with (first | (refine zLd ?_) | (refine zSt ?_))
        refine (s3.out _).mono ?_
        rintro e w_19 ⟨rfl, hb_19⟩
        have k4 := k4.below hb_19
        have kb := bel kb hb_19
        clear hb_19
        go_upto_region 20 with (first | (refine zLd ?_) | (refine zSt ?_))
        have hg_k14_k4 := k4.lt
        refine code_new (fun w_20 k14 hnew => ?_)
        have k4 := k4.below hnew
        have kb := bel kb hnew
        clear hnew
        generalize (w_19).heap.size = g_k14 at k14 hg_k14_k4 ⊢
        have hat : ∀ w, (Instr.arrayAt 264 (.slice (some ⟨g_k14, 0, none⟩) 16 32)).run Tryz.prog w = .ok (.pointer (some ⟨g_k14, 0, none⟩)) w := fun w => run_arrayAt w 264 5 16 _ 16 32 Tryz.underlying264 zDc
        have hr14 : World.rangeAt w_20 g_k14 0 (bytn 16 T0) := k14.range s4.out
        go_wp2_with (first | (refine wpList_load_mid2 rfl _ _ rfl _ _ rfl zKr _ hr14 zLn ?_) | (refine zSt ?_))
        exact bodyPost_ret (results_arr2 Tryz.results242 _ _ _ rfl zKr _ (by first | assumption | exact Arr.setRow zAm _) zLn) rfl ⟨hX.out, below_setRow kb zOm _⟩
    · have hHe := hH1.out hn0
      have tt := tt.out wr k5
      rw [hHe] at tt
      replace tt := zH tt
      clear hH0 hH1 hHe
      have hn1 : (0 : Int) < (n : Int) := by omega
      go_upto_region 12 with fail
      go_wp2_with fail
      clear hce
      refine tt.out.mono ?_
      rintro e w9 ⟨rfl, k5', hg⟩
      have lt5 := k5.lt
      have lt0 := k0.lt
      have k0 := k0.kept hg zOm
      have k4 := k4.kept hg zOm
      have kb := below_gr kb hg zOm zOm
      have k5 := k5'
      clear tt hg k5' hcn
      have hrh := k5.range (o := 0) (cs := lims 4 H) (fun j hj => stv_h hj)
      go_upto_region 13 with fail
      go_wp2_with (refine wpList_load_mid2 rfl _ _ rfl _ _ rfl zKr _ hrh zLn ?_)
      clear hrh
      refine (f1.out _).mono ?_
      rintro e w_21 ⟨rfl, hb_21⟩
      have k0 := k0.below hb_21
      have k4 := k4.below hb_21
      have kb := bel kb hb_21
      clear hb_21
      go_wp2_with (first | (refine zLd ?_) | (refine zSt ?_))
      refine (f2.out _).mono ?_
      rintro e w_22 ⟨rfl, hb_22⟩
      have k0 := k0.below hb_22
      have k4 := k4.below hb_22
      have kb := bel kb hb_22
      clear hb_22
      go_wp2_with (first | (refine zLd ?_) | (refine zSt ?_))
      refine (f3.out _).mono ?_
      rintro e w_23 ⟨rfl, hb_23⟩
      have k0 := k0.below hb_23
      have k4 := k4.below hb_23
      have kb := bel kb hb_23
      clear hb_23
      go_upto_region 14 with (first | (refine zLd ?_) | (refine zSt ?_))
      have hg_k10_k0 := k0.lt
      have hg_k10_k4 := k4.lt
      refine code_new (fun w_24 k10 hnew => ?_)
      have k0 := k0.below hnew
      have k4 := k4.below hnew
      have kb := bel kb hnew
      clear hnew
      generalize (w_23).heap.size = g_k10 at k10 hg_k10_k0 hg_k10_k4 ⊢
      have hsz10 := kb.size
      refine Tx.start (fun w' => Below (w_24).heap.size (w_24) w') 7 9 rfl zKr ?_
      have hS_25 : Below (w_24).heap.size (w_24) (World.drew w_24) := (Below.refl _ _).drew
      refine Tx.seg (A := ?_) 8 1 zKr (by exact hS_25) [0] zKr ?_ ?_
      rotate_left
      · intro w' hB
        have e1 := k10.below hB
        exact zRd
      refine Tx.poolB 2 127 [(1, 52), (2, 53), (3, 50), (4, 54), (5, 55), (6, 11)] [(false, []), (false, [(1, 52)]), (true, [(2, 53)]), (true, [(3, 50)]), (true, [(3, 50)]), (false, [])] [(1, Ph.is (.agg (lims 4 p13).toArray)), (2, Ph.is (.tuple #[.agg (lims 4 D).toArray, .int .u64 (cb : Int)])), (3, Ph.is (.tuple #[.agg (lims 4 D).toArray, .int .u64 (cb : Int)])), (4, Ph.is (.agg (lims 4 D).toArray)), (5, Ph.is (.int .u64 (cb : Int))), (6, Ph.arr (w_24).heap.size (lims 4 0))] zKr zKr (by first | assumption | exact (Below.refl _ _).drew) ?_ ?_
      · refine ⟨⟨_, rfl, ?_⟩, ⟨_, rfl, ?_⟩, ⟨_, rfl, ?_⟩, ⟨_, rfl, ?_⟩, ⟨_, rfl, ?_⟩, ⟨_, rfl, ?_⟩, trivial⟩
        · intro vs w1 hS hE hD K hK
          clear hD
          simp only [fillL, Act.put, zSa, zSz, zSs] at hK ⊢
          go_simp
          refine (pprime_any _).mono ?_
          rintro e w2 ⟨rfl, hb2⟩
          exact hK _ _ rfl hb2 nofun
        · intro vs w1 hS hE hD K hK
          obtain ⟨q1, -⟩ := hD
          simp only [fillL, Act.put, zSa, zSz, zSs] at hK ⊢
          rw [show vs 1 = _ from q1] at hK ⊢
          clear q1
          go_simp
          refine (f4.out _).mono ?_
          rintro e w2 ⟨rfl, hb2⟩
          exact hK _ _ rfl hb2 nofun
        · intro vs w1 hS hE hD
          obtain ⟨q2, -⟩ := hD
          simp only [fillL, Act.put, zSa, zSz, zSs] at ⊢
          rw [show vs 2 = _ from q2] at ⊢
          clear q2
          refine ⟨_, rfl, fun w' => (by first | (go_simp; done) | (go_simp; rfl)), rfl, nofun⟩
        · intro vs w1 hS hE hD
          obtain ⟨q3, -⟩ := hD
          simp only [fillL, Act.put, zSa, zSz, zSs] at ⊢
          rw [show vs 3 = _ from q3] at ⊢
          clear q3
          refine ⟨_, rfl, fun w' => (by first | (go_simp; done) | (go_simp; rfl)), rfl, nofun⟩
        · intro vs w1 hS hE hD
          obtain ⟨q3, -⟩ := hD
          simp only [fillL, Act.put, zSa, zSz, zSs] at ⊢
          rw [show vs 3 = _ from q3] at ⊢
          clear q3
          refine ⟨_, rfl, fun w' => (by first | (go_simp; done) | (go_simp; rfl)), rfl, nofun⟩
        · intro vs w1 hS hE hD K hK
          clear hD
          simp only [fillL, Act.put, zSa, zSz, zSs] at hK ⊢
          go_simp
          exact hK _ _ ⟨_, rfl, Nat.le_trans zLe hE.size, Arr.new _ _ _⟩ (below_alloc _ _) (fun _ => ⟨_, rfl, Nat.le_refl _⟩)
      intro vs w_pab hS_pab hE_pab hP hD
      obtain ⟨q1, q2, q3, q4, q5, q6, -⟩ := hP
      simp only [fillL, Act.put, zSa, zSz, zSs]
      rw [show vs 1 = _ from q1]
      clear q1
      rw [show vs 2 = _ from q2]
      clear q2
      rw [show vs 3 = _ from q3]
      clear q3
      rw [show vs 4 = _ from q4]
      clear q4
      rw [show vs 5 = _ from q5]
      clear q5
      obtain ⟨g6, e6, hg6, ha6⟩ := q6
      rw [e6]
      clear e6 hD vs
      have ltk0 := Nat.lt_of_lt_of_le k0.lt hg6
      have ltk4 := Nat.lt_of_lt_of_le k4.lt hg6
      have ltk10 := Nat.lt_of_lt_of_le k10.lt hg6
      have k0 := k0.below hS_pab
      have k4 := k4.below hS_pab
      have k10 := k10.below hS_pab
      have kb := bel kb hS_pab
      refine Tx.bar 255 rfl zDk (fun K hK => ?_)
      refine step_store_arr rfl _ _ _ rfl _ _ rfl rfl _ zAm zLn zLm zOn ?_
      refine hK (fun _ => True) 9999 _ _ ?_
      clear hK K
      try simp only [Act.put]
      try simp only [zSa, zSz, zSs]
      refine Tx.seg (A := ?_) 0 511 zKr (by exact trivial) [8] zKr ?_ ?_
      rotate_left
      · intro w' hB
        exact zRd
      refine Tx.done zKr ?_
      refine then_row ha6 (fun w_26 ha6 hoth hbel => ?_)
      have k0 := hoth _ _ zOm k0
      have k4 := hoth _ _ zOm k4
      have k10 := hoth _ _ zOm k10
      have kb := hbel _ _ zOm kb
      clear hoth hbel
      have k11 := ha6
      clear ha6
      generalize g6 = g11 at *
      rcases hcase.out with ⟨hcb, hkk⟩ | ⟨hcb, hkk⟩
      · subst hcb
        rw [hkk] at k10
        clear hkk
        have k10 : Arr w_26 g_k10 (lims 4 kk) := k10
        go_upto_region 17 with fail
        go_wp2_with (refine zLd ?_)
        refine (s1.out _).mono ?_
        rintro e w_27 ⟨rfl, hb_27⟩
        have k0 := k0.below hb_27
        have k4 := k4.below hb_27
        have k10 := k10.below hb_27
        have kb := bel kb hb_27
        clear hb_27
        go_upto_region 18 with (first | (refine zLd ?_) | (refine zSt ?_))
        have hg_k13_k4 := k4.lt
        have hg_k13_k10 := k10.lt
        refine code_new (fun w_28 k13 hnew => ?_)
        have k4 := k4.below hnew
        have k10 := k10.below hnew
        have kb := bel kb hnew
        clear hnew
        generalize (w_27).heap.size = g_k13 at k13 hg_k13_k4 hg_k13_k10 ⊢
        have e2 := k13.cell s5.out
        have e3 := k13.cell s6.out
        go_wp2_with (refine zLd ?_)
        clear e2 e3
        refine (s2.out _).mono ?_
        rintro e w_29 ⟨rfl, hb_29⟩
        have k4 := k4.below hb_29
        have k10 := k10.below hb_29
        have kb := bel kb hb_29
        clear hb_29
        go_upto_region 19 with (refine zSt ?_)
        refine code_row k10 (fun w_30 k10 hoth hbel => ?_)
        have k4 := hoth _ _ zOm k4
        have kb := hbel _ _ zOm kb
        clear hoth hbel
        go_wp2_with (first | (refine zLd ?_) | (refine zSt ?_))
        refine (s3.out _).mono ?_
        rintro e w_31 ⟨rfl, hb_31⟩
        have k4 := k4.below hb_31
        have kb := bel kb hb_31
        clear hb_31
        go_upto_region 20 with (first | (refine zLd ?_) | (refine zSt ?_))
        have hg_k14_k4 := k4.lt
        refine code_new (fun w_32 k14 hnew => ?_)
        have k4 := k4.below hnew
        have kb := bel kb hnew
        clear hnew
        generalize (w_31).heap.size = g_k14 at k14 hg_k14_k4 ⊢
        have hat : ∀ w, (Instr.arrayAt 264 (.slice (some ⟨g_k14, 0, none⟩) 16 32)).run Tryz.prog w = .ok (.pointer (some ⟨g_k14, 0, none⟩)) w := fun w => run_arrayAt w 264 5 16 _ 16 32 Tryz.underlying264 zDc
        have hr14 : World.rangeAt w_32 g_k14 0 (bytn 16 T0) := k14.range s4.out
        go_wp2_with (first | (refine wpList_load_mid2 rfl _ _ rfl _ _ rfl zKr _ hr14 zLn ?_) | (refine zSt ?_))
        exact bodyPost_ret (results_arr2 Tryz.results242 _ _ _ rfl zKr _ (by first | assumption | exact Arr.setRow zAm _) zLn) rfl ⟨hX.out, below_setRow kb zOm _⟩
      · subst hcb
        go_upto_region 17 with (first | (refine zLd ?_) | (refine zSt ?_))
        refine code_row k10 (fun w_33 k10 hoth hbel => ?_)
        have k0 := hoth _ _ zOm k0
        have k4 := hoth _ _ zOm k4
        have kb := hbel _ _ zOm kb
        clear hoth hbel
        rw [hkk] at k10
        clear hkk
        have k10 : Arr w_33 g_k10 (lims 4 kk) := k10
        go_upto_region 17 with fail
        go_wp2_with (refine zLd ?_)
        refine (s1.out _).mono ?_
        rintro e w_34 ⟨rfl, hb_34⟩
        have k0 := k0.below hb_34
        have k4 := k4.below hb_34
        have k10 := k10.below hb_34
        have kb := bel kb hb_34
        clear hb_34
        go_upto_region 18 with (first | (refine zLd ?_) | (refine zSt ?_))
        have hg_k13_k4 := k4.lt
        have hg_k13_k10 := k10.lt
        refine code_new (fun w_35 k13 hnew => ?_)
        have k4 := k4.below hnew
        have k10 := k10.below hnew
        have kb := bel kb hnew
        clear hnew
        generalize (w_34).heap.size = g_k13 at k13 hg_k13_k4 hg_k13_k10 ⊢
        have e2 := k13.cell s5.out
        have e3 := k13.cell s6.out
        go_wp2_with (refine zLd ?_)
        clear e2 e3
        refine (s2.out _).mono ?_
        rintro e w_36 ⟨rfl, hb_36⟩
        have k4 := k4.below hb_36
        have k10 := k10.below hb_36
        have kb := bel kb hb_36
        clear hb_36
        go_upto_region 19 with (refine zSt ?_)
        refine code_row k10 (fun w_37 k10 hoth hbel => ?_)
        have k4 := hoth _ _ zOm k4
        have kb := hbel _ _ zOm kb
        clear hoth hbel
        go_wp2_with (first | (refine zLd ?_) | (refine zSt ?_))
        refine (s3.out _).mono ?_
        rintro e w_38 ⟨rfl, hb_38⟩
        have k4 := k4.below hb_38
        have kb := bel kb hb_38
        clear hb_38
        go_upto_region 20 with (first | (refine zLd ?_) | (refine zSt ?_))
        have hg_k14_k4 := k4.lt
        refine code_new (fun w_39 k14 hnew => ?_)
        have k4 := k4.below hnew
        have kb := bel kb hnew
        clear hnew
        generalize (w_38).heap.size = g_k14 at k14 hg_k14_k4 ⊢
        have hat : ∀ w, (Instr.arrayAt 264 (.slice (some ⟨g_k14, 0, none⟩) 16 32)).run Tryz.prog w = .ok (.pointer (some ⟨g_k14, 0, none⟩)) w := fun w => run_arrayAt w 264 5 16 _ 16 32 Tryz.underlying264 zDc
        have hr14 : World.rangeAt w_39 g_k14 0 (bytn 16 T0) := k14.range s4.out
        go_wp2_with (first | (refine wpList_load_mid2 rfl _ _ rfl _ _ rfl zKr _ hr14 zLn ?_) | (refine zSt ?_))
        exact bodyPost_ret (results_arr2 Tryz.results242 _ _ _ rfl zKr _ (by first | assumption | exact Arr.setRow zAm _) zLn) rfl ⟨hX.out, below_setRow kb zOm _⟩
def shZa (n : Nat) : Nat := (119 - n % 64) % 64
def shXa (L : List UInt8) : List UInt8 := L ++ [128] ++ List.replicate (shZa L.length) 0
def shMa (L : List UInt8) : List UInt8 := shXa L ++ be8 (8 * L.length : Int)
def shBa (h : List Nat) (i : Nat) : Nat := h.getD (i / 4) 0 / 2 ^ (24 - 8 * (i % 4)) % 256
def shOa (h : List Nat) : Nat → Nat
 | 0 => 0
 | i + 1 => shOa h i + 256 ^ i * shBa h i
theorem shOa_lt (h : List Nat) : ∀ i, shOa h i < 256 ^ i
 | 0 => by rw [shOa]; decide
 | i + 1 => by
  have h1 := shOa_lt h i
  have h2 : shBa h i < 256 := Nat.mod_lt _ zDc
  have h3 : 256 ^ i * shBa h i ≤ 256 ^ i * 255 := Nat.mul_le_mul_left _ zOm
  rw [shOa, Nat.pow_succ]
  omega
def shaa (L : List UInt8) : Nat := shOa (shHa (shMa L) ((shMa L).length / 64)) 32
theorem shaa_lt (L : List UInt8) : shaa L < 256 ^ 32 := shOa_lt _ _
theorem shsuma_any (d : Option Addr) (cap : Nat) (ls : List (List UInt8)) (w : World) (hs : Sls w (.slice d ls.length cap) ls) :
 Calls Tryz.prog 20 #[.slice d ls.length cap] w fun e w' => e = .returned (.agg (bytn 32 (shaa ls.flatten)).toArray) ∧ Below w.heap.size w w' := by
 have hlen := hs.len
 obtain ⟨-, hlc, hcm⟩ := hlen
 unfold maxLen at hcm
 obtain ⟨X, hX⟩ : ∃ X, Ending.returned (.agg (bytn 32 (shaa ls.flatten)).toArray) = X := ⟨_, rfl⟩
 rw [hX]
 replace hX := zH hX
 replace hs := zH hs
 go_enter Tryz.func20, Tryz.ntmps20
 go_upto_region 1 with fail
 refine wp_new1 (fun W hsz k2 kb => ?_)
 replace k2 : Arr W w.heap.size (bytn 32 0) := k2
 clear hsz
 go_wp2_with fail
 refine (begina_any _).mono ?_
 rintro e w1 ⟨g, rfl, hg, k0, hb⟩
 have k0 := SSta.start k0
 have lt2 := k2.lt
 replace k2 := k2.below hb
 replace kb := bel kb hb
 obtain ⟨g2, hg2⟩ : ∃ g2, w.heap.size = g2 := ⟨_, rfl⟩
 rw [hg2] at k2 lt2 ⊢
 have h2g : g2 < g := by omega
 have hw2 : w.heap.size ≤ g2 := by omega
 clear hb hg lt2 hg2
 have ib : (ls.length : Int) ≤ 9223372036854775807 := by omega
 go_wp2_with fail
 go_loopw [14] (fun iv wr => ∃ i : Nat, i ≤ ls.length ∧ iv = .int .i64 i ∧ Arr wr g2 (bytn 32 0) ∧ SSta wr g ((ls.take i).flatten.length % 18446744073709551616) (ls.take i).flatten ∧ Below w.heap.size w wr) (fun iv _ => ls.length - (intOf iv).toNat)
 case atStart => exact ⟨0, Nat.zero_le _, rfl, k2, k0, kb⟩
 case round =>
  clear k2 k0 kb
  obtain ⟨i, hi, rfl, k2, k0, kb⟩ := hrel
  by_cases hlt : i < ls.length
  · obtain ⟨b, o, x, c, rfl, hcel0, hsl⟩ := hs.out.at hlt
    have hcel : wr.cell? ⟨b, o + i, none⟩ = some (.slice x ls[i].length c) := by rw [kb.cell (World.block_lt_of_cell? w _ hcel0)]; exact hcel0
    have hsucc := flat_take_succ hlt
    obtain ⟨l, hl⟩ : ∃ l, ls[i] = l := ⟨_, rfl⟩
    rw [hl] at hsucc hcel hsl
    obtain ⟨pre, hpre⟩ : ∃ pre, (ls.take i).flatten = pre := ⟨_, rfl⟩
    rw [hpre] at k0 hsucc
    have hll := hsl.len
    rw [u8s_len] at hll
    obtain ⟨-, hlc2, hcm2⟩ := hll
    unfold maxLen at hcm2
    clear hpre hl hcel0
    replace hsucc := zH hsucc
    replace hsl := zH hsl
    have ilt : (i : Int) < (ls.length : Int) := by omega
    obtain ⟨lg, hlg⟩ : ∃ lg, pre.length % 18446744073709551616 = lg := ⟨_, rfl⟩
    rw [hlg] at k0
    have lgl : lg < 18446744073709551616 := by omega
    have hlg2 : Hid ((pre ++ l).length % 18446744073709551616 = (lg + l.length) % 18446744073709551616) := zH (by rw [List.length_append]; omega)
    clear hlg
    go_wp2_with fail
    clear hcel
    go_loopw [20] (fun jv wr => ∃ j : Nat, j ≤ l.length ∧ jv = .int .i64 j ∧ Arr wr g2 (bytn 32 0) ∧ SSta wr g lg (pre ++ l.take j) ∧ Below w.heap.size w wr) (fun jv _ => l.length - (intOf jv).toNat)
    case atStart => exact ⟨0, Nat.zero_le _, rfl, k2, by rw [List.take_zero, List.append_nil]; exact k0, kb⟩
    case round =>
     clear k2 k0 kb
     obtain ⟨j, hj, rfl, k2, k0, kb⟩ := hrel
     by_cases hltj : j < l.length
     · obtain ⟨b2, o2, rfl, -, -, -, hcc⟩ := hsl.out.at (by rw [u8s_len]; omega)
       have hcel := hcc j _ (u8s_get l j hltj)
       have hcel2 : wr.cell? ⟨b2, o2 + j, none⟩ = some (.int .u8 (l[j].toNat : Int)) := by rw [kb.cell (World.block_lt_of_cell? w _ hcel)]; exact hcel
       have hts : pre ++ l.take (j + 1) = pre ++ l.take j ++ [l[j]] := by rw [List.take_succ_eq_append_getElem hltj, List.append_assoc]
       have hyl : l[j].toNat < 256 := l[j].toNat_lt
       have c3 := zH (takea_st g lg (pre ++ l.take j) l[j] wr k0)
       generalize l[j] = y at *
       rw [← hts] at c3
       clear hcc hcel hts
       have jlt : (j : Int) < (l.length : Int) := by omega
       go_wp2_with fail
       clear hcel2
       refine c3.out.mono ?_
       rintro e w4 ⟨rfl, k0', hg⟩
       have k2 := k2.kept hg zOm
       have kb := below_gr kb hg zOm kb.size
       clear c3 hg k0
       go_wp2_with fail
       exact ⟨⟨j + 1, by omega, by go_num, k2, k0', kb⟩, by simp [intOf]; omega⟩
     · obtain rfl : j = l.length := by omega
       rw [List.take_of_length_le (Nat.le_refl _), ← hsucc.out] at k0
       obtain ⟨lg2, hl2⟩ : ∃ n, (lg + l.length) % 18446744073709551616 = n := ⟨_, rfl⟩
       have fl : IntKind.u64.wrap ((lg : Int) + (l.length : Int)) = (lg2 : Int) := by rw [wrap_u64_mod]; omega
       have hl3 : Hid (((ls.take (i + 1)).flatten).length % 18446744073709551616 = lg2) := zH (by rw [hsucc.out, hlg2.out, hl2])
       have ll0 : (0 : Int) ≤ (l.length : Int) := by omega
       have ll1 : (l.length : Int) ≤ 9223372036854775807 := by omega
       have fu : IntKind.u64.wrap (l.length : Int) = (l.length : Int) := by rw [wrap_u64_mod]; omega
       obtain ⟨hce, hfr⟩ := k0.l
       clear hl2
       go_wp2_with fail
       replace k2 := k2.other (a := ⟨g, 137, none⟩) (by simp; omega) (.int .u64 (lg2 : Int))
       replace k0 := k0.set (m := lg2)
       exact ⟨⟨i + 1, by omega, by go_num, k2, by rw [hl3.out]; exact k0, kb.setCell (by simp; omega) _⟩, by simp [intOf]; omega⟩
  · obtain rfl : i = ls.length := by omega
    rw [List.take_of_length_le (Nat.le_refl _)] at k0
    obtain ⟨L, hL⟩ : ∃ L, ls.flatten = L := ⟨_, rfl⟩
    have hX2 := hX.out
    rw [hL] at hX2 k0
    replace hX := zH hX2
    obtain ⟨N, hN⟩ : ∃ N, L.length = N := ⟨_, rfl⟩
    obtain ⟨lg, hlg⟩ : ∃ lg, N % 18446744073709551616 = lg := ⟨_, rfl⟩
    rw [hN, hlg] at k0
    have c1 : Hid (Calls Tryz.prog 44 #[.pointer (some ⟨g, 0, none⟩), .int .u8 128] wr fun e w' => e = .returned (.tuple #[]) ∧ SSta w' g lg (L ++ [128]) ∧ wr.grownBy w' (some g)) := zH (takea_st g lg L 128 wr k0)
    have c2 : Hid (∀ wr M, SSta wr g lg M → Calls Tryz.prog 44 #[.pointer (some ⟨g, 0, none⟩), .int .u8 0] wr fun e w' => e = .returned (.tuple #[]) ∧ SSta w' g lg (M ++ [0]) ∧ wr.grownBy w' (some g)) := zH (fun wr M k => takea_st g lg M 0 wr k)
    replace hN := zH hN
    have hlg2 := zH hlg
    clear hL hX2 hs hlg
    go_wp2_with fail
    refine c1.out.mono ?_
    rintro e w4 ⟨rfl, k0', hg⟩
    replace k2 := k2.kept hg zOm
    replace kb := below_gr kb hg zOm kb.size
    replace k0 : SSta w4 g lg (L ++ [128] ++ List.replicate 0 0) := by rw [List.replicate_zero, List.append_nil]; exact k0'
    clear c1 hg k0'
    go_wp2_with fail
    go_loopw [44] (fun _ wr => ∃ z : Nat, z ≤ shZa N ∧ Arr wr g2 (bytn 32 0) ∧ SSta wr g lg (L ++ [128] ++ List.replicate z 0) ∧ Below w.heap.size w wr) (fun _ wr => ((56 + 64 - (intOf ((wr.cell? ⟨g, 136, none⟩).getD undef)).toNat) % 64))
    case atStart => exact ⟨0, Nat.zero_le _, k2, k0, kb⟩
    case round =>
    clear k2 k0 kb
    obtain ⟨z, hz, k2, k0, kb⟩ := hrel
    have hce := k0.n
    obtain ⟨m, hm⟩ : ∃ m, (L ++ [128] ++ List.replicate z 0).length % 64 = m := ⟨_, rfl⟩
    rw [hm] at hce
    have hm2 : m = (N + 1 + z) % 64 := by
     rw [← hm, ← hN.out]
     simp
     omega
    have hzz : shZa N = (119 - N % 64) % 64 := rfl
    by_cases hmn : m = 56
    · have dn : ((m : Int) != 56) = false := by rw [hmn]; rfl
      have hze : Hid (z = shZa N) := zH (by rw [hzz] at hz ⊢; omega)
      rw [hze.out] at k0
      have hXe : Hid (L ++ [128] ++ List.replicate (shZa N) 0 = shXa L) := zH (by rw [← hN.out]; rfl)
      clear hm hm2 hzz hz hze hmn
      rw [hXe.out] at k0
      clear c2
      obtain ⟨P, hP⟩ : ∃ P, shXa L = P := ⟨_, rfl⟩
      rw [hP] at k0
      replace hP := zH hP
      clear hXe
      have hn8 : Hid (IntKind.u64.wrap ((lg : Int) * 8) = IntKind.u64.wrap (8 * L.length : Int)) := zH (by rw [wrap_u64_mod, wrap_u64_mod, ← hlg2.out, ← hN.out]; omega)
      obtain ⟨E, hE⟩ : ∃ E, be8 (8 * L.length : Int) = E := ⟨_, rfl⟩
      have hat : Hid (∀ k, k < 8 → ∃ c : UInt8, E.take (k + 1) = E.take k ++ [c] ∧ IntKind.u64.wrap ((lg : Int) * 8) / 2 ^ (8 * (7 - k)) % 256 = (c.toNat : Int)) := zH (fun k hk => by rw [hn8.out, ← hE]; exact be8_at _ k hk)
      have hEl : Hid (E.length = 8) := zH (by rw [← hE, be8_len])
      replace hE := zH hE
      clear hn8
      go_wp2_with fail
      clear dn hce
      go_loopw [8] (fun kv wr => ∃ k : Nat, k ≤ 8 ∧ kv = .int .i64 (7 - (k : Int)) ∧ Arr wr g2 (bytn 32 0) ∧ SSta wr g lg (P ++ E.take k) ∧ Below w.heap.size w wr) (fun kv _ => (intOf kv + 1).toNat)
      case atStart => exact ⟨0, Nat.zero_le _, rfl, k2, by rw [List.take_zero, List.append_nil]; exact k0, kb⟩
      case round =>
      clear k2 k0 kb
      obtain ⟨k, hk, rfl, k2, k0, kb⟩ := hrel
      by_cases hkn : k < 8
      · obtain ⟨c, hc1, hc2⟩ := hat.out k hkn
        have c3 := zH (takea_st g lg (P ++ E.take k) c wr k0)
        have hes : P ++ E.take (k + 1) = P ++ E.take k ++ [c] := by rw [hc1, List.append_assoc]
        rw [← hes] at c3
        obtain ⟨q, hq⟩ : ∃ q, 7 - k = q := ⟨_, rfl⟩
        have hq7 : 7 - (k : Int) = (q : Int) := by omega
        have hq0 : (0 : Int) ≤ (q : Int) := by omega
        have hq1 : (q : Int) ≤ 7 := by omega
        obtain ⟨s, hs⟩ : ∃ s, 8 * q = s := ⟨_, rfl⟩
        have hs8 : 8 * (q : Int) = (s : Int) := by omega
        have hs0 : (0 : Int) ≤ (s : Int) := by omega
        have hs1 : (s : Int) < 64 := by omega
        rw [hq, hs] at hc2
        obtain ⟨y, hy⟩ : ∃ y, c.toNat = y := ⟨_, rfl⟩
        rw [hy] at hc2 c3
        have ly : y < 256 := by rw [← hy]; exact c.toNat_lt
        obtain ⟨hce, -⟩ := k0.l
        clear hc1 hes hy
        replace hq := zH hq
        replace hs := zH hs
        go_wp2_with fail
        refine c3.out.mono ?_
        rintro e w5 ⟨rfl, k0', hg⟩
        replace k2 := k2.kept hg zOm
        replace kb := below_gr kb hg zOm kb.size
        clear c3 hg k0 hc2 hce
        go_wp2_with fail
        exact ⟨⟨k + 1, by omega, by congr 1; omega, k2, k0', kb⟩, by simp [intOf]; omega⟩
      · have hk8 : Hid (k = 8) := zH zOm
        have hM : Hid (P ++ E.take 8 = shMa L) := zH (by rw [List.take_of_length_le (by rw [hEl.out]; exact Nat.le_refl _), ← hP.out, ← hE.out]; rfl)
        rw [hk8.out, hM.out] at k0
        have dk : decide ((0 : Int) ≤ 7 - (k : Int)) = false := decide_eq_false zOm
        have dk2 : ¬ (0 : Int) ≤ 7 - (k : Int) := by omega
        obtain ⟨kc, hkc⟩ : ∃ kc, 7 - (k : Int) = kc := ⟨_, rfl⟩
        rw [hkc] at dk dk2 ⊢
        clear hkc hk hkn hat hM hEl
        obtain ⟨h, hh⟩ : ∃ h, shHa (shMa L) ((shMa L).length / 64) = h := ⟨_, rfl⟩
        have ok := shHa_ok (shMa L) ((shMa L).length / 64)
        obtain ⟨bs, -, -, k0⟩ := k0
        rw [hh] at k0 ok
        have hX2 := hX.out
        rw [shaa, hh] at hX2
        replace hX := zH hX2
        obtain ⟨nn, hnn⟩ : ∃ nn, (shMa L).length % 64 = nn := ⟨_, rfl⟩
        rw [hnn] at k0
        replace ok := zH ok
        clear hnn hh hX2
        go_upto_region 20 with fail
        refine wp_new1 (fun w8 hsz k9 hb8 => ?_)
        replace k9 : Arr w8 wr.heap.size (bytn 32 (shOa h 0)) := by rw [shOa]; exact k9
        have h09 := k0.lt
        replace k0 := k0.below hb8
        replace k2 := k2.below hb8
        replace kb := bel kb hb8
        obtain ⟨g9, hg9⟩ : ∃ g, wr.heap.size = g := ⟨_, rfl⟩
        rw [hg9] at k9 h09 ⊢
        clear hb8 hsz hg9 dk dk2
        go_wp2_with fail
        go_loopw [63] (fun iv wr => ∃ i : Nat, i ≤ 32 ∧ iv = .int .i64 i ∧ Arr wr g2 (bytn 32 0) ∧ Arr wr g (stva h bs nn lg) ∧ Arr wr g9 (bytn 32 (shOa h i)) ∧ Below w.heap.size w wr) (fun iv _ => 32 - (intOf iv).toNat)
        case atStart => exact ⟨0, Nat.zero_le _, rfl, k2, k0, k9, kb⟩
        case round =>
        clear k2 k0 k9 kb
        obtain ⟨i, hi, rfl, k2, k0, k9, kb⟩ := hrel
        have hi0 : (0 : Int) ≤ (i : Int) := by omega
        by_cases hin : i < 32
        · have hi1 : (i : Int) < 32 := by omega
          obtain ⟨q, hq⟩ : ∃ q, i / 4 = q := ⟨_, rfl⟩
          have hq8 : q < 8 := by omega
          have cq := stva_hj (bs := bs) (n := nn) (lg := lg) ok.out.1 hq8
          have cq := k0.cell cq
          have fq : (i : Int) / 4 = (q : Int) := by omega
          have hq0 : (0 : Int) ≤ (q : Int) := by omega
          have hq1 : (q : Int) < 8 := by omega
          have fw : IntKind.i64.wrap (q : Int) = (q : Int) := i64_in zOm
          obtain ⟨r, hr⟩ : ∃ r, i % 4 = r := ⟨_, rfl⟩
          have fr : (i : Int) % 4 = (r : Int) := by omega
          have fr2 : Int.tmod (i : Int) 4 = (r : Int) := by rw [Int.tmod_eq_emod_of_nonneg hi0]; omega
          have hr0 : (0 : Int) ≤ (r : Int) := by omega
          have hr1 : (r : Int) < 4 := by omega
          obtain ⟨s, hs⟩ : ∃ s, 24 - 8 * r = s := ⟨_, rfl⟩
          have f8 : IntKind.i64.wrap (8 * (r : Int)) = 8 * (r : Int) := i64_in zOm
          have fs : IntKind.i64.wrap (24 - 8 * (r : Int)) = (s : Int) := by rw [i64_in zOm]; omega
          have fs2 : 24 - 8 * (r : Int) = (s : Int) := by omega
          have hs0 : (0 : Int) ≤ (s : Int) := by omega
          have hs1 : (s : Int) < 32 := by omega
          obtain ⟨x, hx⟩ : ∃ x, h.getD q 0 = x := ⟨_, rfl⟩
          rw [hx] at cq
          have hB : Hid (shBa h i = x / 2 ^ s % 256) := zH (by rw [shBa, hq, hr, hs, hx])
          have hset : Hid ((bytn 32 (shOa h i)).set i (.int .u8 ((x / 2 ^ s % 256 : Nat) : Int)) = bytn 32 (shOa h (i + 1))) := zH (by rw [bytn_snoc (shOa_lt h i) (Nat.mod_lt _ zDc), shOa, hB.out])
          have hlen9 : Hid ((bytn 32 (shOa h i)).length = 32) := zH (bytn_len _ _)
          have c9 := k9.cell (bytn_get 32 (shOa h i) i hin)
          have z9 := k9.frozen i
          generalize shOa h i / 256 ^ i % 256 = y at c9
          replace hq := zH hq
          replace hr := zH hr
          replace hs := zH hs
          clear hx hB
          go_wp2_with fail
          have e8 : ((x / 2 ^ s % 256 : Nat) : Int) = (x : Int) / 2 ^ s % 256 := by simp
          rw [← e8]
          replace k2 := k2.other (a := ⟨g9, i, none⟩) (by simp; omega) (.int .u8 ((x / 2 ^ s % 256 : Nat) : Int))
          replace k0 := k0.other (a := ⟨g9, i, none⟩) (by simp; omega) (.int .u8 ((x / 2 ^ s % 256 : Nat) : Int))
          replace k9 := k9.set i (.int .u8 ((x / 2 ^ s % 256 : Nat) : Int))
          rw [hset.out] at k9
          exact ⟨⟨i + 1, by omega, by go_num, k2, k0, k9, kb.setCell (by simp; omega) _⟩, by simp [intOf]; omega⟩
        · have dj : decide ((i : Int) < 32) = false := decide_eq_false zOm
          have hie : Hid (i = 32) := zH zOm
          rw [hie.out] at k9
          go_wp2_with (first | (refine wpList_load_arr2 rfl _ _ rfl _ rfl zDk _ k9 (by rw [bytn_len]; kernel_rfl) ?_) | (refine wpl_storeG rfl _ _ _ rfl _ (bytn 32 (shOa h 32)) rfl rfl _ k2 (by rw [bytn_len]; kernel_rfl) (by rw [bytn_len, bytn_len]) (bytn_one _ _) (fun w9 k2 hg hsz => ?_)))
          have qb := below_gr kb hg zOm kb.size
          exact bodyPost_ret (results_arr2 Tryz.results20 _ _ _ rfl zKr _ k2 (by rw [bytn_len]; kernel_rfl)) rfl ⟨hX.out, qb⟩
    · have dn : ((m : Int) == 56) = false := by simp; omega
      have hz2 : z + 1 ≤ shZa N := by rw [hzz] at hz ⊢; omega
      have c3 := zH (c2.out wr _ k0)
      have hes : L ++ [128] ++ List.replicate z 0 ++ [0] = L ++ [128] ++ List.replicate (z + 1) 0 := by rw [List.replicate_succ', List.append_assoc]
      rw [hes] at c3
      clear hes hm hzz
      replace hm2 := zH hm2
      have hmne : (m : Int) ≠ 56 := by omega
      go_wp2_with fail
      refine c3.out.mono ?_
      rintro e w5 ⟨rfl, k0', hg⟩
      replace k2 := k2.kept hg zOm
      replace kb := below_gr kb hg zOm kb.size
      clear c3 hg k0
      have hce2 := k0'.n
      obtain ⟨m', hm'⟩ : ∃ m, (L ++ [128] ++ List.replicate (z + 1) 0).length % 64 = m := ⟨_, rfl⟩
      rw [hm'] at hce2
      have hm3 : m' = (m + 1) % 64 := by
       rw [← hm', hm2.out, ← hN.out]
       simp
       omega
      have hml : m < 64 := by rw [hm2.out]; exact Nat.mod_lt _ zDc
      replace hce := zH hce
      replace hce2 := zH hce2
      clear hm'
      replace hm3 := zH hm3
      go_wp2_with fail
      refine ⟨⟨z + 1, hz2, k2, k0', kb⟩, ?_⟩
      rw [hce.out, hce2.out]
      simp only [Option.getD_some, intOf, Int.toNat_natCast]
      have := hm3.out
      omega
def ksB (k c n i : Nat) : Nat := blkB k ((c + i / 64) % 4294967296) n (i % 64)
theorem ksB_lt (k c n i : Nat) : ksB k c n i < 256 := blkB_lt _ _ _ _
def trT (k c n : Nat) (bs : List UInt8) : Nat → List UInt8
 | 0 => List.replicate bs.length 0
 | i + 1 => (trT k c n bs i).set i (UInt8.ofNat ((bs.getD i 0).toNat ^^^ ksB k c n i))
def trB (k c n : Nat) (bs : List UInt8) : List UInt8 := trT k c n bs bs.length
theorem trT_len (k c n : Nat) (bs : List UInt8) : ∀ i, (trT k c n bs i).length = bs.length
 | 0 => by simp [trT]
 | i + 1 => by rw [trT, List.length_set, trT_len k c n bs i]
theorem trB_len (k c n : Nat) (bs : List UInt8) : (trB k c n bs).length = bs.length := trT_len k c n bs _
theorem xor_256 {x y : Nat} (hx : x < 256) (hy : y < 256) : x ^^^ y < 256 := Nat.xor_lt_two_pow (n := 8) hx hy
theorem blkT_get (k c n : Nat) : ∀ m j, j < m → blkT k c n m / 256 ^ j % 256 = blkB k c n j
 | 0, j, h => absurd h zOm
 | m + 1, j, h => by
  rw [blkT]
  by_cases e : j = m
  · subst e
    rw [Nat.add_mul_div_left _ _ (Nat.pow_pos zDc), Nat.div_eq_of_lt (blkT_lt k c n j), Nat.zero_add, Nat.mod_eq_of_lt (blkB_lt k c n j)]
  · have e2 : 256 ^ m = 256 ^ j * (256 * 256 ^ (m - j - 1)) := by rw [← Nat.mul_assoc, ← Nat.pow_succ, ← Nat.pow_add, show j + 1 + (m - j - 1) = m by omega]
    rw [e2, Nat.mul_assoc, Nat.add_mul_div_left _ _ (Nat.pow_pos zDc), Nat.mul_assoc, Nat.add_mul_mod_self_left]
    exact blkT_get k c n m j zOm
end Go.Proofs.YtibdgkhkhmdihaaGreatDoor
