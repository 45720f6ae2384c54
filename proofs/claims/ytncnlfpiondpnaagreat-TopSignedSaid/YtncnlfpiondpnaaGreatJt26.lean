/- TopSigned: part 26 of its proof: lemmas and contracts, each with its conditions in its own statement; the last part holds the law itself. -/
import Derived.Test.YtncnlfpiondpnaaGreatJt23
import Derived.Test.YtncnlfpiondpnaaGreatJt25

set_option maxHeartbeats 4000000
set_option maxRecDepth 100000
namespace Go.Proofs.YtncnlfpiondpnaaGreat
open Go.RowKit
def shZb (n : Nat) : Nat := (239 - n % 128) % 128
def shXb (L : List UInt8) : List UInt8 := L ++ [128] ++ List.replicate (shZb L.length) 0 ++ List.replicate 8 0
def shMb (L : List UInt8) : List UInt8 := shXb L ++ be8 (8 * L.length : Int)
def shBb (h : List Nat) (i : Nat) : Nat := h.getD (i / 8) 0 / 2 ^ (56 - 8 * (i % 8)) % 256
def shOb (h : List Nat) : Nat → Nat
 | 0 => 0
 | i + 1 => shOb h i + 256 ^ i * shBb h i
theorem shOb_lt (h : List Nat) : ∀ i, shOb h i < 256 ^ i
 | 0 => by rw [shOb]; decide
 | i + 1 => by
  have h1 := shOb_lt h i
  have h2 : shBb h i < 256 := Nat.mod_lt _ zDc
  have h3 : 256 ^ i * shBb h i ≤ 256 ^ i * 255 := Nat.mul_le_mul_left _ zOm
  rw [shOb, Nat.pow_succ]
  omega
def shab (L : List UInt8) : Nat := shOb (shHb (shMb L) ((shMb L).length / 128)) 64
theorem shab_lt (L : List UInt8) : shab L < 256 ^ 64 := shOb_lt _ _
theorem shsumb_any (d : Option Addr) (cap : Nat) (ls : List (List UInt8)) (w : World) (hs : Sls w (.slice d ls.length cap) ls) :
 Calls Tryz.prog 74 #[.slice d ls.length cap] w fun e w' => e = .returned (.agg (bytn 64 (shab ls.flatten)).toArray) ∧ Below w.heap.size w w' := by
 have hlen := hs.len
 obtain ⟨-, hlc, hcm⟩ := hlen
 unfold maxLen at hcm
 obtain ⟨X, hX⟩ : ∃ X, Ending.returned (.agg (bytn 64 (shab ls.flatten)).toArray) = X := ⟨_, rfl⟩
 rw [hX]
 replace hX := zH hX
 replace hs := zH hs
 go_enter Tryz.func74, Tryz.ntmps74
 go_upto_region 1 with fail
 refine wp_new1 (fun W hsz k2 kb => ?_)
 replace k2 : Arr W w.heap.size (bytn 64 0) := k2
 clear hsz
 go_wp2_with fail
 refine (beginb_any _).mono ?_
 rintro e w1 ⟨g, rfl, hg, k0, hb⟩
 have k0 := SStb.start k0
 have lt2 := k2.lt
 replace k2 := k2.below hb
 replace kb := bel kb hb
 obtain ⟨g2, hg2⟩ : ∃ g2, w.heap.size = g2 := ⟨_, rfl⟩
 rw [hg2] at k2 lt2 ⊢
 have h2g : g2 < g := by omega
 have hw2 : w.heap.size ≤ g2 := by omega
 clear hb hg lt2 hg2
 have ib : (ls.length : Int) ≤ 9223372036854775807 := by omega
 go_wp2_with fail
 go_loopw [14] (fun iv wr => ∃ i : Nat, i ≤ ls.length ∧ iv = .int .i64 i ∧ Arr wr g2 (bytn 64 0) ∧ SStb wr g ((ls.take i).flatten.length % 18446744073709551616) (ls.take i).flatten ∧ Below w.heap.size w wr) (fun iv _ => ls.length - (intOf iv).toNat)
 case atStart => exact ⟨0, Nat.zero_le _, rfl, k2, k0, kb⟩
 case round =>
  clear k2 k0 kb
  obtain ⟨i, hi, rfl, k2, k0, kb⟩ := hrel
  by_cases hlt : i < ls.length
  · obtain ⟨b, o, x, c, rfl, hcel0, hsl⟩ := hs.out.at hlt
    have hcel : wr.cell? ⟨b, o + i, none⟩ = some (.slice x ls[i].length c) := by rw [kb.cell (World.block_lt_of_cell? w _ hcel0)]; exact hcel0
    have hsucc := flat_take_succ hlt
    obtain ⟨l, hl⟩ : ∃ l, ls[i] = l := ⟨_, rfl⟩
    rw [hl] at hsucc hcel hsl
    obtain ⟨pre, hpre⟩ : ∃ pre, (ls.take i).flatten = pre := ⟨_, rfl⟩
    rw [hpre] at k0 hsucc
    have hll := hsl.len
    rw [u8s_len] at hll
    obtain ⟨-, hlc2, hcm2⟩ := hll
    unfold maxLen at hcm2
    clear hpre hl hcel0
    replace hsucc := zH hsucc
    replace hsl := zH hsl
    have ilt : (i : Int) < (ls.length : Int) := by omega
    obtain ⟨lg, hlg⟩ : ∃ lg, pre.length % 18446744073709551616 = lg := ⟨_, rfl⟩
    rw [hlg] at k0
    have lgl : lg < 18446744073709551616 := by omega
    have hlg2 : Hid ((pre ++ l).length % 18446744073709551616 = (lg + l.length) % 18446744073709551616) := zH (by rw [List.length_append]; omega)
    clear hlg
    go_wp2_with fail
    clear hcel
    go_loopw [20] (fun jv wr => ∃ j : Nat, j ≤ l.length ∧ jv = .int .i64 j ∧ Arr wr g2 (bytn 64 0) ∧ SStb wr g lg (pre ++ l.take j) ∧ Below w.heap.size w wr) (fun jv _ => l.length - (intOf jv).toNat)
    case atStart => exact ⟨0, Nat.zero_le _, rfl, k2, by rw [List.take_zero, List.append_nil]; exact k0, kb⟩
    case round =>
     clear k2 k0 kb
     obtain ⟨j, hj, rfl, k2, k0, kb⟩ := hrel
     by_cases hltj : j < l.length
     · obtain ⟨b2, o2, rfl, -, -, -, hcc⟩ := hsl.out.at (by rw [u8s_len]; omega)
       have hcel := hcc j _ (u8s_get l j hltj)
       have hcel2 : wr.cell? ⟨b2, o2 + j, none⟩ = some (.int .u8 (l[j].toNat : Int)) := by rw [kb.cell (World.block_lt_of_cell? w _ hcel)]; exact hcel
       have hts : pre ++ l.take (j + 1) = pre ++ l.take j ++ [l[j]] := by rw [List.take_succ_eq_append_getElem hltj, List.append_assoc]
       have hyl : l[j].toNat < 256 := l[j].toNat_lt
       have c3 := zH (takeb_st g lg (pre ++ l.take j) l[j] wr k0)
       generalize l[j] = y at *
       rw [← hts] at c3
       clear hcc hcel hts
       have jlt : (j : Int) < (l.length : Int) := by omega
       go_wp2_with fail
       clear hcel2
       refine c3.out.mono ?_
       rintro e w4 ⟨rfl, k0', hg⟩
       have k2 := k2.kept hg zOm
       have kb := below_gr kb hg zOm kb.size
       clear c3 hg k0
       go_wp2_with fail
       exact ⟨⟨j + 1, by omega, by go_num, k2, k0', kb⟩, by simp [intOf]; omega⟩
     · obtain rfl : j = l.length := by omega
       rw [List.take_of_length_le (Nat.le_refl _), ← hsucc.out] at k0
       obtain ⟨lg2, hl2⟩ : ∃ n, (lg + l.length) % 18446744073709551616 = n := ⟨_, rfl⟩
       have fl : IntKind.u64.wrap ((lg : Int) + (l.length : Int)) = (lg2 : Int) := by rw [wrap_u64_mod]; omega
       have hl3 : Hid (((ls.take (i + 1)).flatten).length % 18446744073709551616 = lg2) := zH (by rw [hsucc.out, hlg2.out, hl2])
       have ll0 : (0 : Int) ≤ (l.length : Int) := by omega
       have ll1 : (l.length : Int) ≤ 9223372036854775807 := by omega
       have fu : IntKind.u64.wrap (l.length : Int) = (l.length : Int) := by rw [wrap_u64_mod]; omega
       obtain ⟨hce, hfr⟩ := k0.l
       clear hl2
       go_wp2_with fail
       replace k2 := k2.other (a := ⟨g, 217, none⟩) (by simp; omega) (.int .u64 (lg2 : Int))
       replace k0 := k0.set (m := lg2)
       exact ⟨⟨i + 1, by omega, by go_num, k2, by rw [hl3.out]; exact k0, kb.setCell (by simp; omega) _⟩, by simp [intOf]; omega⟩
  · obtain rfl : i = ls.length := by omega
    rw [List.take_of_length_le (Nat.le_refl _)] at k0
    obtain ⟨L, hL⟩ : ∃ L, ls.flatten = L := ⟨_, rfl⟩
    have hX2 := hX.out
    rw [hL] at hX2 k0
    replace hX := zH hX2
    obtain ⟨N, hN⟩ : ∃ N, L.length = N := ⟨_, rfl⟩
    obtain ⟨lg, hlg⟩ : ∃ lg, N % 18446744073709551616 = lg := ⟨_, rfl⟩
    rw [hN, hlg] at k0
    have c1 : Hid (Calls Tryz.prog 120 #[.pointer (some ⟨g, 0, none⟩), .int .u8 128] wr fun e w' => e = .returned (.tuple #[]) ∧ SStb w' g lg (L ++ [128]) ∧ wr.grownBy w' (some g)) := zH (takeb_st g lg L 128 wr k0)
    have c2 : Hid (∀ wr M, SStb wr g lg M → Calls Tryz.prog 120 #[.pointer (some ⟨g, 0, none⟩), .int .u8 0] wr fun e w' => e = .returned (.tuple #[]) ∧ SStb w' g lg (M ++ [0]) ∧ wr.grownBy w' (some g)) := zH (fun wr M k => takeb_st g lg M 0 wr k)
    replace hN := zH hN
    have hlg2 := zH hlg
    clear hL hX2 hs hlg
    go_wp2_with fail
    refine c1.out.mono ?_
    rintro e w4 ⟨rfl, k0', hg⟩
    replace k2 := k2.kept hg zOm
    replace kb := below_gr kb hg zOm kb.size
    replace k0 : SStb w4 g lg (L ++ [128] ++ List.replicate 0 0) := by rw [List.replicate_zero, List.append_nil]; exact k0'
    clear c1 hg k0'
    go_wp2_with fail
    go_loopw [44] (fun _ wr => ∃ z : Nat, z ≤ shZb N ∧ Arr wr g2 (bytn 64 0) ∧ SStb wr g lg (L ++ [128] ++ List.replicate z 0) ∧ Below w.heap.size w wr) (fun _ wr => ((112 + 128 - (intOf ((wr.cell? ⟨g, 216, none⟩).getD undef)).toNat) % 128))
    case atStart => exact ⟨0, Nat.zero_le _, k2, k0, kb⟩
    case round =>
    clear k2 k0 kb
    obtain ⟨z, hz, k2, k0, kb⟩ := hrel
    have hce := k0.n
    obtain ⟨m, hm⟩ : ∃ m, (L ++ [128] ++ List.replicate z 0).length % 128 = m := ⟨_, rfl⟩
    rw [hm] at hce
    have hm2 : m = (N + 1 + z) % 128 := by
     rw [← hm, ← hN.out]
     simp
     omega
    have hzz : shZb N = (239 - N % 128) % 128 := rfl
    by_cases hmn : m = 112
    · have dn : ((m : Int) != 112) = false := by rw [hmn]; rfl
      have hze : Hid (z = shZb N) := zH (by rw [hzz] at hz ⊢; omega)
      rw [hze.out] at k0
      have hXe : Hid (L ++ [128] ++ List.replicate (shZb N) 0 ++ List.replicate 8 0 = shXb L) := zH (by rw [← hN.out]; rfl)
      clear hm hm2 hzz hz hze hmn
      obtain ⟨Q, hQ⟩ : ∃ Q, L ++ [128] ++ List.replicate (shZb N) 0 = Q := ⟨_, rfl⟩
      rw [hQ] at k0
      replace hXe : Hid (Q ++ List.replicate 8 0 = shXb L) := zH (by rw [← hQ]; exact hXe.out)
      replace hQ := zH hQ
      go_wp2_with fail
      clear dn hce
      go_loopw [48] (fun jv wr => ∃ j : Nat, j ≤ 8 ∧ jv = .int .i64 j ∧ Arr wr g2 (bytn 64 0) ∧ SStb wr g lg (Q ++ List.replicate j 0) ∧ Below w.heap.size w wr) (fun jv _ => 8 - (intOf jv).toNat)
      case atStart => exact ⟨0, by omega, rfl, k2, by rw [List.replicate_zero, List.append_nil]; exact k0, kb⟩
      case round =>
      clear k2 k0 kb
      obtain ⟨j, hj, rfl, k2, k0, kb⟩ := hrel
      have j0 : (0 : Int) ≤ (j : Int) := by omega
      by_cases hj8 : j < 8
      · have j1 : (j : Int) < 8 := by omega
        have c3 := zH (c2.out wr _ k0)
        have hes : Q ++ List.replicate j 0 ++ [0] = Q ++ List.replicate (j + 1) 0 := by rw [List.replicate_succ', List.append_assoc]
        rw [hes] at c3
        clear hes
        go_wp2_with fail
        refine c3.out.mono ?_
        rintro e w5 ⟨rfl, k0', hg⟩
        replace k2 := k2.kept hg zOm
        replace kb := below_gr kb hg zOm kb.size
        clear c3 hg k0
        go_wp2_with fail
        exact ⟨⟨j + 1, by omega, by go_num, k2, k0', kb⟩, by simp [intOf]; omega⟩
      have hj8e : Hid (j = 8) := zH zOm
      have dj : decide ((j : Int) < 8) = false := decide_eq_false zOm
      rw [hj8e.out] at k0
      obtain ⟨jc, hjc⟩ : ∃ jc : Int, (j : Int) = jc := ⟨_, rfl⟩
      rw [hjc] at dj ⊢
      clear hjc hj8 hj j0 hj8e
      rw [hXe.out] at k0
      clear c2
      obtain ⟨P, hP⟩ : ∃ P, shXb L = P := ⟨_, rfl⟩
      rw [hP] at k0
      replace hP := zH hP
      clear hXe
      have hn8 : Hid (IntKind.u64.wrap ((lg : Int) * 8) = IntKind.u64.wrap (8 * L.length : Int)) := zH (by rw [wrap_u64_mod, wrap_u64_mod, ← hlg2.out, ← hN.out]; omega)
      obtain ⟨E, hE⟩ : ∃ E, be8 (8 * L.length : Int) = E := ⟨_, rfl⟩
      have hat : Hid (∀ k, k < 8 → ∃ c : UInt8, E.take (k + 1) = E.take k ++ [c] ∧ IntKind.u64.wrap ((lg : Int) * 8) / 2 ^ (8 * (7 - k)) % 256 = (c.toNat : Int)) := zH (fun k hk => by rw [hn8.out, ← hE]; exact be8_at _ k hk)
      have hEl : Hid (E.length = 8) := zH (by rw [← hE, be8_len])
      replace hE := zH hE
      clear hn8
      go_wp2_with fail
      clear dj
      go_loopw [8] (fun kv wr => ∃ k : Nat, k ≤ 8 ∧ kv = .int .i64 (7 - (k : Int)) ∧ Arr wr g2 (bytn 64 0) ∧ SStb wr g lg (P ++ E.take k) ∧ Below w.heap.size w wr) (fun kv _ => (intOf kv + 1).toNat)
      case atStart => exact ⟨0, Nat.zero_le _, rfl, k2, by rw [List.take_zero, List.append_nil]; exact k0, kb⟩
      case round =>
      clear k2 k0 kb
      obtain ⟨k, hk, rfl, k2, k0, kb⟩ := hrel
      by_cases hkn : k < 8
      · obtain ⟨c, hc1, hc2⟩ := hat.out k hkn
        have c3 := zH (takeb_st g lg (P ++ E.take k) c wr k0)
        have hes : P ++ E.take (k + 1) = P ++ E.take k ++ [c] := by rw [hc1, List.append_assoc]
        rw [← hes] at c3
        obtain ⟨q, hq⟩ : ∃ q, 7 - k = q := ⟨_, rfl⟩
        have hq7 : 7 - (k : Int) = (q : Int) := by omega
        have hq0 : (0 : Int) ≤ (q : Int) := by omega
        have hq1 : (q : Int) ≤ 7 := by omega
        obtain ⟨s, hs⟩ : ∃ s, 8 * q = s := ⟨_, rfl⟩
        have hs8 : 8 * (q : Int) = (s : Int) := by omega
        have hs0 : (0 : Int) ≤ (s : Int) := by omega
        have hs1 : (s : Int) < 64 := by omega
        rw [hq, hs] at hc2
        obtain ⟨y, hy⟩ : ∃ y, c.toNat = y := ⟨_, rfl⟩
        rw [hy] at hc2 c3
        have ly : y < 256 := by rw [← hy]; exact c.toNat_lt
        obtain ⟨hce, -⟩ := k0.l
        clear hc1 hes hy
        replace hq := zH hq
        replace hs := zH hs
        go_wp2_with fail
        refine c3.out.mono ?_
        rintro e w5 ⟨rfl, k0', hg⟩
        replace k2 := k2.kept hg zOm
        replace kb := below_gr kb hg zOm kb.size
        clear c3 hg k0 hc2 hce
        go_wp2_with fail
        exact ⟨⟨k + 1, by omega, by congr 1; omega, k2, k0', kb⟩, by simp [intOf]; omega⟩
      · have hk8 : Hid (k = 8) := zH zOm
        have hM : Hid (P ++ E.take 8 = shMb L) := zH (by rw [List.take_of_length_le (by rw [hEl.out]; exact Nat.le_refl _), ← hP.out, ← hE.out]; rfl)
        rw [hk8.out, hM.out] at k0
        have dk : decide ((0 : Int) ≤ 7 - (k : Int)) = false := decide_eq_false zOm
        have dk2 : ¬ (0 : Int) ≤ 7 - (k : Int) := by omega
        obtain ⟨kc, hkc⟩ : ∃ kc, 7 - (k : Int) = kc := ⟨_, rfl⟩
        rw [hkc] at dk dk2 ⊢
        clear hkc hk hkn hat hM hEl
        obtain ⟨h, hh⟩ : ∃ h, shHb (shMb L) ((shMb L).length / 128) = h := ⟨_, rfl⟩
        have ok := shHb_ok (shMb L) ((shMb L).length / 128)
        obtain ⟨bs, -, -, k0⟩ := k0
        rw [hh] at k0 ok
        have hX2 := hX.out
        rw [shab, hh] at hX2
        replace hX := zH hX2
        obtain ⟨nn, hnn⟩ : ∃ nn, (shMb L).length % 128 = nn := ⟨_, rfl⟩
        rw [hnn] at k0
        replace ok := zH ok
        clear hnn hh hX2
        go_upto_region 24 with fail
        refine wp_new1 (fun w8 hsz k9 hb8 => ?_)
        replace k9 : Arr w8 wr.heap.size (bytn 64 (shOb h 0)) := by rw [shOb]; exact k9
        have h09 := k0.lt
        replace k0 := k0.below hb8
        replace k2 := k2.below hb8
        replace kb := bel kb hb8
        obtain ⟨g9, hg9⟩ : ∃ g, wr.heap.size = g := ⟨_, rfl⟩
        rw [hg9] at k9 h09 ⊢
        clear hb8 hsz hg9 dk dk2
        go_wp2_with fail
        go_loopw [68] (fun iv wr => ∃ i : Nat, i ≤ 64 ∧ iv = .int .i64 i ∧ Arr wr g2 (bytn 64 0) ∧ Arr wr g (stvb h bs nn lg) ∧ Arr wr g9 (bytn 64 (shOb h i)) ∧ Below w.heap.size w wr) (fun iv _ => 64 - (intOf iv).toNat)
        case atStart => exact ⟨0, Nat.zero_le _, rfl, k2, k0, k9, kb⟩
        case round =>
        clear k2 k0 k9 kb
        obtain ⟨i, hi, rfl, k2, k0, k9, kb⟩ := hrel
        have hi0 : (0 : Int) ≤ (i : Int) := by omega
        by_cases hin : i < 64
        · have hi1 : (i : Int) < 64 := by omega
          obtain ⟨q, hq⟩ : ∃ q, i / 8 = q := ⟨_, rfl⟩
          have hq8 : q < 8 := by omega
          have cq := stvb_hj (bs := bs) (n := nn) (lg := lg) ok.out.1 hq8
          have cq := k0.cell cq
          have fq : (i : Int) / 8 = (q : Int) := by omega
          have hq0 : (0 : Int) ≤ (q : Int) := by omega
          have hq1 : (q : Int) < 8 := by omega
          have fw : IntKind.i64.wrap (q : Int) = (q : Int) := i64_in zOm
          obtain ⟨r, hr⟩ : ∃ r, i % 8 = r := ⟨_, rfl⟩
          have fr : (i : Int) % 8 = (r : Int) := by omega
          have fr2 : Int.tmod (i : Int) 8 = (r : Int) := by rw [Int.tmod_eq_emod_of_nonneg hi0]; omega
          have hr0 : (0 : Int) ≤ (r : Int) := by omega
          have hr1 : (r : Int) < 8 := by omega
          obtain ⟨s, hs⟩ : ∃ s, 56 - 8 * r = s := ⟨_, rfl⟩
          have f8 : IntKind.i64.wrap (8 * (r : Int)) = 8 * (r : Int) := i64_in zOm
          have fs : IntKind.i64.wrap (56 - 8 * (r : Int)) = (s : Int) := by rw [i64_in zOm]; omega
          have fs2 : 56 - 8 * (r : Int) = (s : Int) := by omega
          have hs0 : (0 : Int) ≤ (s : Int) := by omega
          have hs1 : (s : Int) < 64 := by omega
          obtain ⟨x, hx⟩ : ∃ x, h.getD q 0 = x := ⟨_, rfl⟩
          rw [hx] at cq
          have hB : Hid (shBb h i = x / 2 ^ s % 256) := zH (by rw [shBb, hq, hr, hs, hx])
          have hset : Hid ((bytn 64 (shOb h i)).set i (.int .u8 ((x / 2 ^ s % 256 : Nat) : Int)) = bytn 64 (shOb h (i + 1))) := zH (by rw [bytn_snoc (shOb_lt h i) (Nat.mod_lt _ zDc), shOb, hB.out])
          have hlen9 : Hid ((bytn 64 (shOb h i)).length = 64) := zH (bytn_len _ _)
          have c9 := k9.cell (bytn_get 64 (shOb h i) i hin)
          have z9 := k9.frozen i
          generalize shOb h i / 256 ^ i % 256 = y at c9
          replace hq := zH hq
          replace hr := zH hr
          replace hs := zH hs
          clear hx hB
          go_wp2_with fail
          have e8 : ((x / 2 ^ s % 256 : Nat) : Int) = (x : Int) / 2 ^ s % 256 := by simp
          rw [← e8]
          replace k2 := k2.other (a := ⟨g9, i, none⟩) (by simp; omega) (.int .u8 ((x / 2 ^ s % 256 : Nat) : Int))
          replace k0 := k0.other (a := ⟨g9, i, none⟩) (by simp; omega) (.int .u8 ((x / 2 ^ s % 256 : Nat) : Int))
          replace k9 := k9.set i (.int .u8 ((x / 2 ^ s % 256 : Nat) : Int))
          rw [hset.out] at k9
          exact ⟨⟨i + 1, by omega, by go_num, k2, k0, k9, kb.setCell (by simp; omega) _⟩, by simp [intOf]; omega⟩
        · have dj : decide ((i : Int) < 64) = false := decide_eq_false zOm
          have hie : Hid (i = 64) := zH zOm
          rw [hie.out] at k9
          go_wp2_with (first | (refine wpList_load_arr2 rfl _ _ rfl _ rfl zDk _ k9 (by rw [bytn_len]; kernel_rfl) ?_) | (refine wpl_storeG rfl _ _ _ rfl _ (bytn 64 (shOb h 64)) rfl rfl _ k2 (by rw [bytn_len]; kernel_rfl) (by rw [bytn_len, bytn_len]) (bytn_one _ _) (fun w9 k2 hg hsz => ?_)))
          have qb := below_gr kb hg zOm kb.size
          exact bodyPost_ret (results_arr2 Tryz.results74 _ _ _ rfl zKr _ k2 (by rw [bytn_len]; kernel_rfl)) rfl ⟨hX.out, qb⟩
    · have dn : ((m : Int) == 112) = false := by simp; omega
      have hz2 : z + 1 ≤ shZb N := by rw [hzz] at hz ⊢; omega
      have c3 := zH (c2.out wr _ k0)
      have hes : L ++ [128] ++ List.replicate z 0 ++ [0] = L ++ [128] ++ List.replicate (z + 1) 0 := by rw [List.replicate_succ', List.append_assoc]
      rw [hes] at c3
      clear hes hm hzz
      replace hm2 := zH hm2
      have hmne : (m : Int) ≠ 112 := by omega
      go_wp2_with fail
      refine c3.out.mono ?_
      rintro e w5 ⟨rfl, k0', hg⟩
      replace k2 := k2.kept hg zOm
      replace kb := below_gr kb hg zOm kb.size
      clear c3 hg k0
      have hce2 := k0'.n
      obtain ⟨m', hm'⟩ : ∃ m, (L ++ [128] ++ List.replicate (z + 1) 0).length % 128 = m := ⟨_, rfl⟩
      rw [hm'] at hce2
      have hm3 : m' = (m + 1) % 128 := by
       rw [← hm', hm2.out, ← hN.out]
       simp
       omega
      have hml : m < 128 := by rw [hm2.out]; exact Nat.mod_lt _ zDc
      replace hce := zH hce
      replace hce2 := zH hce2
      clear hm'
      replace hm3 := zH hm3
      go_wp2_with fail
      refine ⟨⟨z + 1, hz2, k2, k0', kb⟩, ?_⟩
      rw [hce.out, hce2.out]
      simp only [Option.getD_some, intOf, Int.toNat_natCast]
      have := hm3.out
      omega
def shZa (n : Nat) : Nat := (119 - n % 64) % 64
def shXa (L : List UInt8) : List UInt8 := L ++ [128] ++ List.replicate (shZa L.length) 0
def shMa (L : List UInt8) : List UInt8 := shXa L ++ be8 (8 * L.length : Int)
def shBa (h : List Nat) (i : Nat) : Nat := h.getD (i / 4) 0 / 2 ^ (24 - 8 * (i % 4)) % 256
def shOa (h : List Nat) : Nat → Nat
 | 0 => 0
 | i + 1 => shOa h i + 256 ^ i * shBa h i
theorem shOa_lt (h : List Nat) : ∀ i, shOa h i < 256 ^ i
 | 0 => by rw [shOa]; decide
 | i + 1 => by
  have h1 := shOa_lt h i
  have h2 : shBa h i < 256 := Nat.mod_lt _ zDc
  have h3 : 256 ^ i * shBa h i ≤ 256 ^ i * 255 := Nat.mul_le_mul_left _ zOm
  rw [shOa, Nat.pow_succ]
  omega
def shaa (L : List UInt8) : Nat := shOa (shHa (shMa L) ((shMa L).length / 64)) 32
theorem shaa_lt (L : List UInt8) : shaa L < 256 ^ 32 := shOa_lt _ _
theorem shsuma_any (d : Option Addr) (cap : Nat) (ls : List (List UInt8)) (w : World) (hs : Sls w (.slice d ls.length cap) ls) :
 Calls Tryz.prog 19 #[.slice d ls.length cap] w fun e w' => e = .returned (.agg (bytn 32 (shaa ls.flatten)).toArray) ∧ Below w.heap.size w w' := by
 have hlen := hs.len
 obtain ⟨-, hlc, hcm⟩ := hlen
 unfold maxLen at hcm
 obtain ⟨X, hX⟩ : ∃ X, Ending.returned (.agg (bytn 32 (shaa ls.flatten)).toArray) = X := ⟨_, rfl⟩
 rw [hX]
 replace hX := zH hX
 replace hs := zH hs
 go_enter Tryz.func19, Tryz.ntmps19
 go_upto_region 1 with fail
 refine wp_new1 (fun W hsz k2 kb => ?_)
 replace k2 : Arr W w.heap.size (bytn 32 0) := k2
 clear hsz
 go_wp2_with fail
 refine (begina_any _).mono ?_
 rintro e w1 ⟨g, rfl, hg, k0, hb⟩
 have k0 := SSta.start k0
 have lt2 := k2.lt
 replace k2 := k2.below hb
 replace kb := bel kb hb
 obtain ⟨g2, hg2⟩ : ∃ g2, w.heap.size = g2 := ⟨_, rfl⟩
 rw [hg2] at k2 lt2 ⊢
 have h2g : g2 < g := by omega
 have hw2 : w.heap.size ≤ g2 := by omega
 clear hb hg lt2 hg2
 have ib : (ls.length : Int) ≤ 9223372036854775807 := by omega
 go_wp2_with fail
 go_loopw [14] (fun iv wr => ∃ i : Nat, i ≤ ls.length ∧ iv = .int .i64 i ∧ Arr wr g2 (bytn 32 0) ∧ SSta wr g ((ls.take i).flatten.length % 18446744073709551616) (ls.take i).flatten ∧ Below w.heap.size w wr) (fun iv _ => ls.length - (intOf iv).toNat)
 case atStart => exact ⟨0, Nat.zero_le _, rfl, k2, k0, kb⟩
 case round =>
  clear k2 k0 kb
  obtain ⟨i, hi, rfl, k2, k0, kb⟩ := hrel
  by_cases hlt : i < ls.length
  · obtain ⟨b, o, x, c, rfl, hcel0, hsl⟩ := hs.out.at hlt
    have hcel : wr.cell? ⟨b, o + i, none⟩ = some (.slice x ls[i].length c) := by rw [kb.cell (World.block_lt_of_cell? w _ hcel0)]; exact hcel0
    have hsucc := flat_take_succ hlt
    obtain ⟨l, hl⟩ : ∃ l, ls[i] = l := ⟨_, rfl⟩
    rw [hl] at hsucc hcel hsl
    obtain ⟨pre, hpre⟩ : ∃ pre, (ls.take i).flatten = pre := ⟨_, rfl⟩
    rw [hpre] at k0 hsucc
    have hll := hsl.len
    rw [u8s_len] at hll
    obtain ⟨-, hlc2, hcm2⟩ := hll
    unfold maxLen at hcm2
    clear hpre hl hcel0
    replace hsucc := zH hsucc
    replace hsl := zH hsl
    have ilt : (i : Int) < (ls.length : Int) := by omega
    obtain ⟨lg, hlg⟩ : ∃ lg, pre.length % 18446744073709551616 = lg := ⟨_, rfl⟩
    rw [hlg] at k0
    have lgl : lg < 18446744073709551616 := by omega
    have hlg2 : Hid ((pre ++ l).length % 18446744073709551616 = (lg + l.length) % 18446744073709551616) := zH (by rw [List.length_append]; omega)
    clear hlg
    go_wp2_with fail
    clear hcel
    go_loopw [20] (fun jv wr => ∃ j : Nat, j ≤ l.length ∧ jv = .int .i64 j ∧ Arr wr g2 (bytn 32 0) ∧ SSta wr g lg (pre ++ l.take j) ∧ Below w.heap.size w wr) (fun jv _ => l.length - (intOf jv).toNat)
    case atStart => exact ⟨0, Nat.zero_le _, rfl, k2, by rw [List.take_zero, List.append_nil]; exact k0, kb⟩
    case round =>
     clear k2 k0 kb
     obtain ⟨j, hj, rfl, k2, k0, kb⟩ := hrel
     by_cases hltj : j < l.length
     · obtain ⟨b2, o2, rfl, -, -, -, hcc⟩ := hsl.out.at (by rw [u8s_len]; omega)
       have hcel := hcc j _ (u8s_get l j hltj)
       have hcel2 : wr.cell? ⟨b2, o2 + j, none⟩ = some (.int .u8 (l[j].toNat : Int)) := by rw [kb.cell (World.block_lt_of_cell? w _ hcel)]; exact hcel
       have hts : pre ++ l.take (j + 1) = pre ++ l.take j ++ [l[j]] := by rw [List.take_succ_eq_append_getElem hltj, List.append_assoc]
       have hyl : l[j].toNat < 256 := l[j].toNat_lt
       have c3 := zH (takea_st g lg (pre ++ l.take j) l[j] wr k0)
       generalize l[j] = y at *
       rw [← hts] at c3
       clear hcc hcel hts
       have jlt : (j : Int) < (l.length : Int) := by omega
       go_wp2_with fail
       clear hcel2
       refine c3.out.mono ?_
       rintro e w4 ⟨rfl, k0', hg⟩
       have k2 := k2.kept hg zOm
       have kb := below_gr kb hg zOm kb.size
       clear c3 hg k0
       go_wp2_with fail
       exact ⟨⟨j + 1, by omega, by go_num, k2, k0', kb⟩, by simp [intOf]; omega⟩
     · obtain rfl : j = l.length := by omega
       rw [List.take_of_length_le (Nat.le_refl _), ← hsucc.out] at k0
       obtain ⟨lg2, hl2⟩ : ∃ n, (lg + l.length) % 18446744073709551616 = n := ⟨_, rfl⟩
       have fl : IntKind.u64.wrap ((lg : Int) + (l.length : Int)) = (lg2 : Int) := by rw [wrap_u64_mod]; omega
       have hl3 : Hid (((ls.take (i + 1)).flatten).length % 18446744073709551616 = lg2) := zH (by rw [hsucc.out, hlg2.out, hl2])
       have ll0 : (0 : Int) ≤ (l.length : Int) := by omega
       have ll1 : (l.length : Int) ≤ 9223372036854775807 := by omega
       have fu : IntKind.u64.wrap (l.length : Int) = (l.length : Int) := by rw [wrap_u64_mod]; omega
       obtain ⟨hce, hfr⟩ := k0.l
       clear hl2
       go_wp2_with fail
       replace k2 := k2.other (a := ⟨g, 137, none⟩) (by simp; omega) (.int .u64 (lg2 : Int))
       replace k0 := k0.set (m := lg2)
       exact ⟨⟨i + 1, by omega, by go_num, k2, by rw [hl3.out]; exact k0, kb.setCell (by simp; omega) _⟩, by simp [intOf]; omega⟩
  · obtain rfl : i = ls.length := by omega
    rw [List.take_of_length_le (Nat.le_refl _)] at k0
    obtain ⟨L, hL⟩ : ∃ L, ls.flatten = L := ⟨_, rfl⟩
    have hX2 := hX.out
    rw [hL] at hX2 k0
    replace hX := zH hX2
    obtain ⟨N, hN⟩ : ∃ N, L.length = N := ⟨_, rfl⟩
    obtain ⟨lg, hlg⟩ : ∃ lg, N % 18446744073709551616 = lg := ⟨_, rfl⟩
    rw [hN, hlg] at k0
    have c1 : Hid (Calls Tryz.prog 57 #[.pointer (some ⟨g, 0, none⟩), .int .u8 128] wr fun e w' => e = .returned (.tuple #[]) ∧ SSta w' g lg (L ++ [128]) ∧ wr.grownBy w' (some g)) := zH (takea_st g lg L 128 wr k0)
    have c2 : Hid (∀ wr M, SSta wr g lg M → Calls Tryz.prog 57 #[.pointer (some ⟨g, 0, none⟩), .int .u8 0] wr fun e w' => e = .returned (.tuple #[]) ∧ SSta w' g lg (M ++ [0]) ∧ wr.grownBy w' (some g)) := zH (fun wr M k => takea_st g lg M 0 wr k)
    replace hN := zH hN
    have hlg2 := zH hlg
    clear hL hX2 hs hlg
    go_wp2_with fail
    refine c1.out.mono ?_
    rintro e w4 ⟨rfl, k0', hg⟩
    replace k2 := k2.kept hg zOm
    replace kb := below_gr kb hg zOm kb.size
    replace k0 : SSta w4 g lg (L ++ [128] ++ List.replicate 0 0) := by rw [List.replicate_zero, List.append_nil]; exact k0'
    clear c1 hg k0'
    go_wp2_with fail
    go_loopw [44] (fun _ wr => ∃ z : Nat, z ≤ shZa N ∧ Arr wr g2 (bytn 32 0) ∧ SSta wr g lg (L ++ [128] ++ List.replicate z 0) ∧ Below w.heap.size w wr) (fun _ wr => ((56 + 64 - (intOf ((wr.cell? ⟨g, 136, none⟩).getD undef)).toNat) % 64))
    case atStart => exact ⟨0, Nat.zero_le _, k2, k0, kb⟩
    case round =>
    clear k2 k0 kb
    obtain ⟨z, hz, k2, k0, kb⟩ := hrel
    have hce := k0.n
    obtain ⟨m, hm⟩ : ∃ m, (L ++ [128] ++ List.replicate z 0).length % 64 = m := ⟨_, rfl⟩
    rw [hm] at hce
    have hm2 : m = (N + 1 + z) % 64 := by
     rw [← hm, ← hN.out]
     simp
     omega
    have hzz : shZa N = (119 - N % 64) % 64 := rfl
    by_cases hmn : m = 56
    · have dn : ((m : Int) != 56) = false := by rw [hmn]; rfl
      have hze : Hid (z = shZa N) := zH (by rw [hzz] at hz ⊢; omega)
      rw [hze.out] at k0
      have hXe : Hid (L ++ [128] ++ List.replicate (shZa N) 0 = shXa L) := zH (by rw [← hN.out]; rfl)
      clear hm hm2 hzz hz hze hmn
      rw [hXe.out] at k0
      clear c2
      obtain ⟨P, hP⟩ : ∃ P, shXa L = P := ⟨_, rfl⟩
      rw [hP] at k0
      replace hP := zH hP
      clear hXe
      have hn8 : Hid (IntKind.u64.wrap ((lg : Int) * 8) = IntKind.u64.wrap (8 * L.length : Int)) := zH (by rw [wrap_u64_mod, wrap_u64_mod, ← hlg2.out, ← hN.out]; omega)
      obtain ⟨E, hE⟩ : ∃ E, be8 (8 * L.length : Int) = E := ⟨_, rfl⟩
      have hat : Hid (∀ k, k < 8 → ∃ c : UInt8, E.take (k + 1) = E.take k ++ [c] ∧ IntKind.u64.wrap ((lg : Int) * 8) / 2 ^ (8 * (7 - k)) % 256 = (c.toNat : Int)) := zH (fun k hk => by rw [hn8.out, ← hE]; exact be8_at _ k hk)
      have hEl : Hid (E.length = 8) := zH (by rw [← hE, be8_len])
      replace hE := zH hE
      clear hn8
      go_wp2_with fail
      clear dn hce
      go_loopw [8] (fun kv wr => ∃ k : Nat, k ≤ 8 ∧ kv = .int .i64 (7 - (k : Int)) ∧ Arr wr g2 (bytn 32 0) ∧ SSta wr g lg (P ++ E.take k) ∧ Below w.heap.size w wr) (fun kv _ => (intOf kv + 1).toNat)
      case atStart => exact ⟨0, Nat.zero_le _, rfl, k2, by rw [List.take_zero, List.append_nil]; exact k0, kb⟩
      case round =>
      clear k2 k0 kb
      obtain ⟨k, hk, rfl, k2, k0, kb⟩ := hrel
      by_cases hkn : k < 8
      · obtain ⟨c, hc1, hc2⟩ := hat.out k hkn
        have c3 := zH (takea_st g lg (P ++ E.take k) c wr k0)
        have hes : P ++ E.take (k + 1) = P ++ E.take k ++ [c] := by rw [hc1, List.append_assoc]
        rw [← hes] at c3
        obtain ⟨q, hq⟩ : ∃ q, 7 - k = q := ⟨_, rfl⟩
        have hq7 : 7 - (k : Int) = (q : Int) := by omega
        have hq0 : (0 : Int) ≤ (q : Int) := by omega
        have hq1 : (q : Int) ≤ 7 := by omega
        obtain ⟨s, hs⟩ : ∃ s, 8 * q = s := ⟨_, rfl⟩
        have hs8 : 8 * (q : Int) = (s : Int) := by omega
        have hs0 : (0 : Int) ≤ (s : Int) := by omega
        have hs1 : (s : Int) < 64 := by omega
        rw [hq, hs] at hc2
        obtain ⟨y, hy⟩ : ∃ y, c.toNat = y := ⟨_, rfl⟩
        rw [hy] at hc2 c3
        have ly : y < 256 := by rw [← hy]; exact c.toNat_lt
        obtain ⟨hce, -⟩ := k0.l
        clear hc1 hes hy
        replace hq := zH hq
        replace hs := zH hs
        go_wp2_with fail
        refine c3.out.mono ?_
        rintro e w5 ⟨rfl, k0', hg⟩
        replace k2 := k2.kept hg zOm
        replace kb := below_gr kb hg zOm kb.size
        clear c3 hg k0 hc2 hce
        go_wp2_with fail
        exact ⟨⟨k + 1, by omega, by congr 1; omega, k2, k0', kb⟩, by simp [intOf]; omega⟩
      · have hk8 : Hid (k = 8) := zH zOm
        have hM : Hid (P ++ E.take 8 = shMa L) := zH (by rw [List.take_of_length_le (by rw [hEl.out]; exact Nat.le_refl _), ← hP.out, ← hE.out]; rfl)
        rw [hk8.out, hM.out] at k0
        have dk : decide ((0 : Int) ≤ 7 - (k : Int)) = false := decide_eq_false zOm
        have dk2 : ¬ (0 : Int) ≤ 7 - (k : Int) := by omega
        obtain ⟨kc, hkc⟩ : ∃ kc, 7 - (k : Int) = kc := ⟨_, rfl⟩
        rw [hkc] at dk dk2 ⊢
        clear hkc hk hkn hat hM hEl
        obtain ⟨h, hh⟩ : ∃ h, shHa (shMa L) ((shMa L).length / 64) = h := ⟨_, rfl⟩
        have ok := shHa_ok (shMa L) ((shMa L).length / 64)
        obtain ⟨bs, -, -, k0⟩ := k0
        rw [hh] at k0 ok
        have hX2 := hX.out
        rw [shaa, hh] at hX2
        replace hX := zH hX2
        obtain ⟨nn, hnn⟩ : ∃ nn, (shMa L).length % 64 = nn := ⟨_, rfl⟩
        rw [hnn] at k0
        replace ok := zH ok
        clear hnn hh hX2
        go_upto_region 20 with fail
        refine wp_new1 (fun w8 hsz k9 hb8 => ?_)
        replace k9 : Arr w8 wr.heap.size (bytn 32 (shOa h 0)) := by rw [shOa]; exact k9
        have h09 := k0.lt
        replace k0 := k0.below hb8
        replace k2 := k2.below hb8
        replace kb := bel kb hb8
        obtain ⟨g9, hg9⟩ : ∃ g, wr.heap.size = g := ⟨_, rfl⟩
        rw [hg9] at k9 h09 ⊢
        clear hb8 hsz hg9 dk dk2
        go_wp2_with fail
        go_loopw [63] (fun iv wr => ∃ i : Nat, i ≤ 32 ∧ iv = .int .i64 i ∧ Arr wr g2 (bytn 32 0) ∧ Arr wr g (stva h bs nn lg) ∧ Arr wr g9 (bytn 32 (shOa h i)) ∧ Below w.heap.size w wr) (fun iv _ => 32 - (intOf iv).toNat)
        case atStart => exact ⟨0, Nat.zero_le _, rfl, k2, k0, k9, kb⟩
        case round =>
        clear k2 k0 k9 kb
        obtain ⟨i, hi, rfl, k2, k0, k9, kb⟩ := hrel
        have hi0 : (0 : Int) ≤ (i : Int) := by omega
        by_cases hin : i < 32
        · have hi1 : (i : Int) < 32 := by omega
          obtain ⟨q, hq⟩ : ∃ q, i / 4 = q := ⟨_, rfl⟩
          have hq8 : q < 8 := by omega
          have cq := stva_hj (bs := bs) (n := nn) (lg := lg) ok.out.1 hq8
          have cq := k0.cell cq
          have fq : (i : Int) / 4 = (q : Int) := by omega
          have hq0 : (0 : Int) ≤ (q : Int) := by omega
          have hq1 : (q : Int) < 8 := by omega
          have fw : IntKind.i64.wrap (q : Int) = (q : Int) := i64_in zOm
          obtain ⟨r, hr⟩ : ∃ r, i % 4 = r := ⟨_, rfl⟩
          have fr : (i : Int) % 4 = (r : Int) := by omega
          have fr2 : Int.tmod (i : Int) 4 = (r : Int) := by rw [Int.tmod_eq_emod_of_nonneg hi0]; omega
          have hr0 : (0 : Int) ≤ (r : Int) := by omega
          have hr1 : (r : Int) < 4 := by omega
          obtain ⟨s, hs⟩ : ∃ s, 24 - 8 * r = s := ⟨_, rfl⟩
          have f8 : IntKind.i64.wrap (8 * (r : Int)) = 8 * (r : Int) := i64_in zOm
          have fs : IntKind.i64.wrap (24 - 8 * (r : Int)) = (s : Int) := by rw [i64_in zOm]; omega
          have fs2 : 24 - 8 * (r : Int) = (s : Int) := by omega
          have hs0 : (0 : Int) ≤ (s : Int) := by omega
          have hs1 : (s : Int) < 32 := by omega
          obtain ⟨x, hx⟩ : ∃ x, h.getD q 0 = x := ⟨_, rfl⟩
          rw [hx] at cq
          have hB : Hid (shBa h i = x / 2 ^ s % 256) := zH (by rw [shBa, hq, hr, hs, hx])
          have hset : Hid ((bytn 32 (shOa h i)).set i (.int .u8 ((x / 2 ^ s % 256 : Nat) : Int)) = bytn 32 (shOa h (i + 1))) := zH (by rw [bytn_snoc (shOa_lt h i) (Nat.mod_lt _ zDc), shOa, hB.out])
          have hlen9 : Hid ((bytn 32 (shOa h i)).length = 32) := zH (bytn_len _ _)
          have c9 := k9.cell (bytn_get 32 (shOa h i) i hin)
          have z9 := k9.frozen i
          generalize shOa h i / 256 ^ i % 256 = y at c9
          replace hq := zH hq
          replace hr := zH hr
          replace hs := zH hs
          clear hx hB
          go_wp2_with fail
          have e8 : ((x / 2 ^ s % 256 : Nat) : Int) = (x : Int) / 2 ^ s % 256 := by simp
          rw [← e8]
          replace k2 := k2.other (a := ⟨g9, i, none⟩) (by simp; omega) (.int .u8 ((x / 2 ^ s % 256 : Nat) : Int))
          replace k0 := k0.other (a := ⟨g9, i, none⟩) (by simp; omega) (.int .u8 ((x / 2 ^ s % 256 : Nat) : Int))
          replace k9 := k9.set i (.int .u8 ((x / 2 ^ s % 256 : Nat) : Int))
          rw [hset.out] at k9
          exact ⟨⟨i + 1, by omega, by go_num, k2, k0, k9, kb.setCell (by simp; omega) _⟩, by simp [intOf]; omega⟩
        · have dj : decide ((i : Int) < 32) = false := decide_eq_false zOm
          have hie : Hid (i = 32) := zH zOm
          rw [hie.out] at k9
          go_wp2_with (first | (refine wpList_load_arr2 rfl _ _ rfl _ rfl zDk _ k9 (by rw [bytn_len]; kernel_rfl) ?_) | (refine wpl_storeG rfl _ _ _ rfl _ (bytn 32 (shOa h 32)) rfl rfl _ k2 (by rw [bytn_len]; kernel_rfl) (by rw [bytn_len, bytn_len]) (bytn_one _ _) (fun w9 k2 hg hsz => ?_)))
          have qb := below_gr kb hg zOm kb.size
          exact bodyPost_ret (results_arr2 Tryz.results19 _ _ _ rfl zKr _ k2 (by rw [bytn_len]; kernel_rfl)) rfl ⟨hX.out, qb⟩
    · have dn : ((m : Int) == 56) = false := by simp; omega
      have hz2 : z + 1 ≤ shZa N := by rw [hzz] at hz ⊢; omega
      have c3 := zH (c2.out wr _ k0)
      have hes : L ++ [128] ++ List.replicate z 0 ++ [0] = L ++ [128] ++ List.replicate (z + 1) 0 := by rw [List.replicate_succ', List.append_assoc]
      rw [hes] at c3
      clear hes hm hzz
      replace hm2 := zH hm2
      have hmne : (m : Int) ≠ 56 := by omega
      go_wp2_with fail
      refine c3.out.mono ?_
      rintro e w5 ⟨rfl, k0', hg⟩
      replace k2 := k2.kept hg zOm
      replace kb := below_gr kb hg zOm kb.size
      clear c3 hg k0
      have hce2 := k0'.n
      obtain ⟨m', hm'⟩ : ∃ m, (L ++ [128] ++ List.replicate (z + 1) 0).length % 64 = m := ⟨_, rfl⟩
      rw [hm'] at hce2
      have hm3 : m' = (m + 1) % 64 := by
       rw [← hm', hm2.out, ← hN.out]
       simp
       omega
      have hml : m < 64 := by rw [hm2.out]; exact Nat.mod_lt _ zDc
      replace hce := zH hce
      replace hce2 := zH hce2
      clear hm'
      replace hm3 := zH hm3
      go_wp2_with fail
      refine ⟨⟨z + 1, hz2, k2, k0', kb⟩, ?_⟩
      rw [hce.out, hce2.out]
      simp only [Option.getD_some, intOf, Int.toNat_natCast]
      have := hm3.out
      omega
def ksB (k c n i : Nat) : Nat := blkB k ((c + i / 64) % 4294967296) n (i % 64)
theorem ksB_lt (k c n i : Nat) : ksB k c n i < 256 := blkB_lt _ _ _ _
def trT (k c n : Nat) (bs : List UInt8) : Nat → List UInt8
 | 0 => List.replicate bs.length 0
 | i + 1 => (trT k c n bs i).set i (UInt8.ofNat ((bs.getD i 0).toNat ^^^ ksB k c n i))
def trB (k c n : Nat) (bs : List UInt8) : List UInt8 := trT k c n bs bs.length
theorem trT_len (k c n : Nat) (bs : List UInt8) : ∀ i, (trT k c n bs i).length = bs.length
 | 0 => by simp [trT]
 | i + 1 => by rw [trT, List.length_set, trT_len k c n bs i]
theorem trB_len (k c n : Nat) (bs : List UInt8) : (trB k c n bs).length = bs.length := trT_len k c n bs _
theorem xor_256 {x y : Nat} (hx : x < 256) (hy : y < 256) : x ^^^ y < 256 := Nat.xor_lt_two_pow (n := 8) hx hy
theorem blkT_get (k c n : Nat) : ∀ m j, j < m → blkT k c n m / 256 ^ j % 256 = blkB k c n j
 | 0, j, h => absurd h zOm
 | m + 1, j, h => by
  rw [blkT]
  by_cases e : j = m
  · subst e
    rw [Nat.add_mul_div_left _ _ (Nat.pow_pos zDc), Nat.div_eq_of_lt (blkT_lt k c n j), Nat.zero_add, Nat.mod_eq_of_lt (blkB_lt k c n j)]
  · have e2 : 256 ^ m = 256 ^ j * (256 * 256 ^ (m - j - 1)) := by rw [← Nat.mul_assoc, ← Nat.pow_succ, ← Nat.pow_add, show j + 1 + (m - j - 1) = m by omega]
    rw [e2, Nat.mul_assoc, Nat.add_mul_div_left _ _ (Nat.pow_pos zDc), Nat.mul_assoc, Nat.add_mul_mod_self_left]
    exact blkT_get k c n m j zOm
end Go.Proofs.YtncnlfpiondpnaaGreat
