import Derived.Test.YtibdgkhkhmdihaaGreatDoorJa20
import Derived.Test.YtibdgkhkhmdihaaGreatDoorJa07
import Derived.Test.YtibdgkhkhmdihaaGreatDoorJa08
import Derived.Test.YtibdgkhkhmdihaaGreatDoorJa04
import Derived.Test.YtibdgkhkhmdihaaGreatDoorJa18
import Derived.Test.YtibdgkhkhmdihaaGreatDoorJa14
import Derived.Test.YtibdgkhkhmdihaaGreatDoorJa09
import Derived.Laws.MakeOwn

namespace Go.Proofs.YtibdgkhkhmdihaaGreatDoor
open Go.RowKit
/-- What is put behind a message: 128, noughts, its length in bits. -/
def shZb (n : Nat) : Nat := (239 - n % 128) % 128
def shXb (L : List UInt8) : List UInt8 := L ++ [128] ++ List.replicate (shZb L.length) 0 ++ List.replicate 8 0
def shMb (L : List UInt8) : List UInt8 := shXb L ++ be8 (8 * L.length : Int)
/-- The bytes of a state's words, so many of them, as a number. -/
def shBb (h : List Nat) (i : Nat) : Nat := h.getD (i / 8) 0 / 2 ^ (56 - 8 * (i % 8)) % 256
def shOb (h : List Nat) : Nat → Nat
  | 0 => 0
  | i + 1 => shOb h i + 256 ^ i * shBb h i
theorem shOb_lt (h : List Nat) : ∀ i, shOb h i < 256 ^ i
  | 0 => by rw [shOb]; decide
  | i + 1 => by
    have h1 := shOb_lt h i
    have h2 : shBb h i < 256 := Nat.mod_lt _ (by decide)
    have h3 : 256 ^ i * shBb h i ≤ 256 ^ i * 255 := Nat.mul_le_mul_left _ (by omega)
    rw [shOb, Nat.pow_succ]
    omega
/-- SHA-2 of a list, as a number whose lowest byte comes first. -/
def shab (L : List UInt8) : Nat := shOb (shHb (shMb L) ((shMb L).length / 128)) 64
set_option maxHeartbeats 4000000 in
set_option maxRecDepth 100000 in
theorem shsumb_any (d : Option Addr) (cap : Nat) (ls : List (List UInt8)) (w : World) (hs : Sls w (.slice d ls.length cap) ls) :
    Calls Tryz.prog 117 #[.slice d ls.length cap] w fun e w' => e = .returned (.agg (bytn 64 (shab ls.flatten)).toArray) ∧ Below w.heap.size w w' := by
  have hlen := hs.len
  obtain ⟨-, hlc, hcm⟩ := hlen
  unfold maxLen at hcm
  obtain ⟨X, hX⟩ : ∃ X, Ending.returned (.agg (bytn 64 (shab ls.flatten)).toArray) = X := ⟨_, rfl⟩
  rw [hX]
  replace hX := Lib.hid hX
  replace hs := Lib.hid hs
  go_enter Tryz.func117, Tryz.ntmps117
  go_upto_region 1 with fail
  refine wp_new1 (fun W hsz k2 kb => ?_)
  replace k2 : Arr W w.heap.size (bytn 64 0) := k2
  clear hsz
  go_wp2_with fail
  refine (beginb_any _).mono ?_
  rintro e w1 ⟨g, rfl, hg, k0, hb⟩
  have k0 := SStb.start k0
  have lt2 := k2.lt
  replace k2 := k2.below hb
  replace kb := bel kb hb
  obtain ⟨g2, hg2⟩ : ∃ g2, w.heap.size = g2 := ⟨_, rfl⟩
  rw [hg2] at k2 lt2 ⊢
  have h2g : g2 < g := by omega
  have hw2 : w.heap.size ≤ g2 := by omega
  clear hb hg lt2 hg2
  have ib : (ls.length : Int) ≤ 9223372036854775807 := by omega
  go_wp2_with fail
  go_loopw [14] (fun iv wr => ∃ i : Nat, i ≤ ls.length ∧ iv = .int .i64 i ∧ Arr wr g2 (bytn 64 0) ∧ SStb wr g ((ls.take i).flatten.length % 18446744073709551616) (ls.take i).flatten ∧ Below w.heap.size w wr) (fun iv _ => ls.length - (intOf iv).toNat)
  case atStart => exact ⟨0, Nat.zero_le _, rfl, k2, k0, kb⟩
  case round =>
    clear k2 k0 kb
    obtain ⟨i, hi, rfl, k2, k0, kb⟩ := hrel
    by_cases hlt : i < ls.length
    · obtain ⟨b, o, x, c, rfl, hcel0, hsl⟩ := hs.out.at hlt
      have hcel : wr.cell? ⟨b, o + i, none⟩ = some (.slice x ls[i].length c) := by rw [kb.cell (World.block_lt_of_cell? w _ hcel0)]; exact hcel0
      have hsucc := flat_take_succ hlt
      obtain ⟨l, hl⟩ : ∃ l, ls[i] = l := ⟨_, rfl⟩
      rw [hl] at hsucc hcel hsl
      obtain ⟨pre, hpre⟩ : ∃ pre, (ls.take i).flatten = pre := ⟨_, rfl⟩
      rw [hpre] at k0 hsucc
      have hll := hsl.len
      rw [u8s_len] at hll
      obtain ⟨-, hlc2, hcm2⟩ := hll
      unfold maxLen at hcm2
      clear hpre hl hcel0
      replace hsucc := Lib.hid hsucc
      replace hsl := Lib.hid hsl
      have ilt : (i : Int) < (ls.length : Int) := by omega
      obtain ⟨lg, hlg⟩ : ∃ lg, pre.length % 18446744073709551616 = lg := ⟨_, rfl⟩
      rw [hlg] at k0
      have lgl : lg < 18446744073709551616 := by omega
      have hlg2 : Hid ((pre ++ l).length % 18446744073709551616 = (lg + l.length) % 18446744073709551616) := Lib.hid (by rw [List.length_append]; omega)
      clear hlg
      go_wp2_with fail
      clear hcel
      go_loopw [20] (fun jv wr => ∃ j : Nat, j ≤ l.length ∧ jv = .int .i64 j ∧ Arr wr g2 (bytn 64 0) ∧ SStb wr g lg (pre ++ l.take j) ∧ Below w.heap.size w wr) (fun jv _ => l.length - (intOf jv).toNat)
      case atStart => exact ⟨0, Nat.zero_le _, rfl, k2, by rw [List.take_zero, List.append_nil]; exact k0, kb⟩
      case round =>
        clear k2 k0 kb
        obtain ⟨j, hj, rfl, k2, k0, kb⟩ := hrel
        by_cases hltj : j < l.length
        · obtain ⟨b2, o2, rfl, -, -, -, hcc⟩ := hsl.out.at (by rw [u8s_len]; omega)
          have hcel := hcc j _ (u8s_get l j hltj)
          have hcel2 : wr.cell? ⟨b2, o2 + j, none⟩ = some (.int .u8 (l[j].toNat : Int)) := by rw [kb.cell (World.block_lt_of_cell? w _ hcel)]; exact hcel
          have hts : pre ++ l.take (j + 1) = pre ++ l.take j ++ [l[j]] := by rw [List.take_succ_eq_append_getElem hltj, List.append_assoc]
          have hyl : l[j].toNat < 256 := l[j].toNat_lt
          have c3 := Lib.hid (takeb_st g lg (pre ++ l.take j) l[j] wr k0)
          generalize l[j] = y at *
          rw [← hts] at c3
          clear hcc hcel hts
          have jlt : (j : Int) < (l.length : Int) := by omega
          go_wp2_with fail
          clear hcel2
          refine c3.out.mono ?_
          rintro e w4 ⟨rfl, k0', hg⟩
          have k2 := k2.kept hg (by omega)
          have kb := below_gr kb hg (by omega) kb.size
          clear c3 hg k0
          go_wp2_with fail
          exact ⟨⟨j + 1, by omega, by go_num, k2, k0', kb⟩, by simp [intOf]; omega⟩
        · obtain rfl : j = l.length := by omega
          rw [List.take_of_length_le (Nat.le_refl _), ← hsucc.out] at k0
          obtain ⟨lg2, hl2⟩ : ∃ n, (lg + l.length) % 18446744073709551616 = n := ⟨_, rfl⟩
          have fl : IntKind.u64.wrap ((lg : Int) + (l.length : Int)) = (lg2 : Int) := by rw [wrap_u64_mod]; omega
          have hl3 : Hid (((ls.take (i + 1)).flatten).length % 18446744073709551616 = lg2) := Lib.hid (by rw [hsucc.out, hlg2.out, hl2])
          have ll0 : (0 : Int) ≤ (l.length : Int) := by omega
          have ll1 : (l.length : Int) ≤ 9223372036854775807 := by omega
          have fu : IntKind.u64.wrap (l.length : Int) = (l.length : Int) := by rw [wrap_u64_mod]; omega
          obtain ⟨hce, hfr⟩ := k0.l
          clear hl2
          go_wp2_with fail
          replace k2 := k2.other (a := ⟨g, 217, none⟩) (by simp; omega) (.int .u64 (lg2 : Int))
          replace k0 := k0.set (m := lg2)
          exact ⟨⟨i + 1, by omega, by go_num, k2, by rw [hl3.out]; exact k0, kb.setCell (by simp; omega) _⟩, by simp [intOf]; omega⟩
    · obtain rfl : i = ls.length := by omega
      rw [List.take_of_length_le (Nat.le_refl _)] at k0
      obtain ⟨L, hL⟩ : ∃ L, ls.flatten = L := ⟨_, rfl⟩
      have hX2 := hX.out
      rw [hL] at hX2 k0
      replace hX := Lib.hid hX2
      obtain ⟨N, hN⟩ : ∃ N, L.length = N := ⟨_, rfl⟩
      obtain ⟨lg, hlg⟩ : ∃ lg, N % 18446744073709551616 = lg := ⟨_, rfl⟩
      rw [hN, hlg] at k0
      have c1 : Hid (Calls Tryz.prog 176 #[.pointer (some ⟨g, 0, none⟩), .int .u8 128] wr fun e w' => e = .returned (.tuple #[]) ∧ SStb w' g lg (L ++ [128]) ∧ wr.grownBy w' (some g)) := Lib.hid (takeb_st g lg L 128 wr k0)
      have c2 : Hid (∀ wr M, SStb wr g lg M → Calls Tryz.prog 176 #[.pointer (some ⟨g, 0, none⟩), .int .u8 0] wr fun e w' => e = .returned (.tuple #[]) ∧ SStb w' g lg (M ++ [0]) ∧ wr.grownBy w' (some g)) := Lib.hid (fun wr M k => takeb_st g lg M 0 wr k)
      replace hN := Lib.hid hN
      have hlg2 := Lib.hid hlg
      clear hL hX2 hs hlg
      go_wp2_with fail
      refine c1.out.mono ?_
      rintro e w4 ⟨rfl, k0', hg⟩
      replace k2 := k2.kept hg (by omega)
      replace kb := below_gr kb hg (by omega) kb.size
      replace k0 : SStb w4 g lg (L ++ [128] ++ List.replicate 0 0) := by rw [List.replicate_zero, List.append_nil]; exact k0'
      clear c1 hg k0'
      go_wp2_with fail
      go_loopw [44] (fun _ wr => ∃ z : Nat, z ≤ shZb N ∧ Arr wr g2 (bytn 64 0) ∧ SStb wr g lg (L ++ [128] ++ List.replicate z 0) ∧ Below w.heap.size w wr) (fun _ wr => ((112 + 128 - (intOf ((wr.cell? ⟨g, 216, none⟩).getD undef)).toNat) % 128))
      case atStart => exact ⟨0, Nat.zero_le _, k2, k0, kb⟩
      case round =>
      clear k2 k0 kb
      obtain ⟨z, hz, k2, k0, kb⟩ := hrel
      have hce := k0.n
      obtain ⟨m, hm⟩ : ∃ m, (L ++ [128] ++ List.replicate z 0).length % 128 = m := ⟨_, rfl⟩
      rw [hm] at hce
      have hm2 : m = (N + 1 + z) % 128 := by
        rw [← hm, ← hN.out]
        simp
        omega
      have hzz : shZb N = (239 - N % 128) % 128 := rfl
      by_cases hmn : m = 112
      · have dn : ((m : Int) != 112) = false := by rw [hmn]; rfl
        have hze : Hid (z = shZb N) := Lib.hid (by rw [hzz] at hz ⊢; omega)
        rw [hze.out] at k0
        have hXe : Hid (L ++ [128] ++ List.replicate (shZb N) 0 ++ List.replicate 8 0 = shXb L) := Lib.hid (by rw [← hN.out]; rfl)
        clear hm hm2 hzz hz hze hmn
        obtain ⟨Q, hQ⟩ : ∃ Q, L ++ [128] ++ List.replicate (shZb N) 0 = Q := ⟨_, rfl⟩
        rw [hQ] at k0
        replace hXe : Hid (Q ++ List.replicate 8 0 = shXb L) := Lib.hid (by rw [← hQ]; exact hXe.out)
        replace hQ := Lib.hid hQ
        go_wp2_with fail
        clear dn hce
        go_loopw [48] (fun jv wr => ∃ j : Nat, j ≤ 8 ∧ jv = .int .i64 j ∧ Arr wr g2 (bytn 64 0) ∧ SStb wr g lg (Q ++ List.replicate j 0) ∧ Below w.heap.size w wr) (fun jv _ => 8 - (intOf jv).toNat)
        case atStart => exact ⟨0, by omega, rfl, k2, by rw [List.replicate_zero, List.append_nil]; exact k0, kb⟩
        case round =>
        clear k2 k0 kb
        obtain ⟨j, hj, rfl, k2, k0, kb⟩ := hrel
        have j0 : (0 : Int) ≤ (j : Int) := by omega
        by_cases hj8 : j < 8
        · have j1 : (j : Int) < 8 := by omega
          have c3 := Lib.hid (c2.out wr _ k0)
          have hes : Q ++ List.replicate j 0 ++ [0] = Q ++ List.replicate (j + 1) 0 := by rw [List.replicate_succ', List.append_assoc]
          rw [hes] at c3
          clear hes
          go_wp2_with fail
          refine c3.out.mono ?_
          rintro e w5 ⟨rfl, k0', hg⟩
          replace k2 := k2.kept hg (by omega)
          replace kb := below_gr kb hg (by omega) kb.size
          clear c3 hg k0
          go_wp2_with fail
          exact ⟨⟨j + 1, by omega, by go_num, k2, k0', kb⟩, by simp [intOf]; omega⟩
        have hj8e : Hid (j = 8) := Lib.hid (by omega)
        have dj : decide ((j : Int) < 8) = false := decide_eq_false (by omega)
        rw [hj8e.out] at k0
        obtain ⟨jc, hjc⟩ : ∃ jc : Int, (j : Int) = jc := ⟨_, rfl⟩
        rw [hjc] at dj ⊢
        clear hjc hj8 hj j0 hj8e
        rw [hXe.out] at k0
        clear c2
        obtain ⟨P, hP⟩ : ∃ P, shXb L = P := ⟨_, rfl⟩
        rw [hP] at k0
        replace hP := Lib.hid hP
        clear hXe
        have hn8 : Hid (IntKind.u64.wrap ((lg : Int) * 8) = IntKind.u64.wrap (8 * L.length : Int)) := Lib.hid (by rw [wrap_u64_mod, wrap_u64_mod, ← hlg2.out, ← hN.out]; omega)
        obtain ⟨E, hE⟩ : ∃ E, be8 (8 * L.length : Int) = E := ⟨_, rfl⟩
        have hat : Hid (∀ k, k < 8 → ∃ c : UInt8, E.take (k + 1) = E.take k ++ [c] ∧ IntKind.u64.wrap ((lg : Int) * 8) / 2 ^ (8 * (7 - k)) % 256 = (c.toNat : Int)) := Lib.hid (fun k hk => by rw [hn8.out, ← hE]; exact be8_at _ k hk)
        have hEl : Hid (E.length = 8) := Lib.hid (by rw [← hE, be8_len])
        replace hE := Lib.hid hE
        clear hn8
        go_wp2_with fail
        clear dj
        go_loopw [8] (fun kv wr => ∃ k : Nat, k ≤ 8 ∧ kv = .int .i64 (7 - (k : Int)) ∧ Arr wr g2 (bytn 64 0) ∧ SStb wr g lg (P ++ E.take k) ∧ Below w.heap.size w wr) (fun kv _ => (intOf kv + 1).toNat)
        case atStart => exact ⟨0, Nat.zero_le _, rfl, k2, by rw [List.take_zero, List.append_nil]; exact k0, kb⟩
        case round =>
        clear k2 k0 kb
        obtain ⟨k, hk, rfl, k2, k0, kb⟩ := hrel
        by_cases hkn : k < 8
        · obtain ⟨c, hc1, hc2⟩ := hat.out k hkn
          have c3 := Lib.hid (takeb_st g lg (P ++ E.take k) c wr k0)
          have hes : P ++ E.take (k + 1) = P ++ E.take k ++ [c] := by rw [hc1, List.append_assoc]
          rw [← hes] at c3
          obtain ⟨q, hq⟩ : ∃ q, 7 - k = q := ⟨_, rfl⟩
          have hq7 : 7 - (k : Int) = (q : Int) := by omega
          have hq0 : (0 : Int) ≤ (q : Int) := by omega
          have hq1 : (q : Int) ≤ 7 := by omega
          obtain ⟨s, hs⟩ : ∃ s, 8 * q = s := ⟨_, rfl⟩
          have hs8 : 8 * (q : Int) = (s : Int) := by omega
          have hs0 : (0 : Int) ≤ (s : Int) := by omega
          have hs1 : (s : Int) < 64 := by omega
          rw [hq, hs] at hc2
          obtain ⟨y, hy⟩ : ∃ y, c.toNat = y := ⟨_, rfl⟩
          rw [hy] at hc2 c3
          have ly : y < 256 := by rw [← hy]; exact c.toNat_lt
          obtain ⟨hce, -⟩ := k0.l
          clear hc1 hes hy
          replace hq := Lib.hid hq
          replace hs := Lib.hid hs
          go_wp2_with fail
          refine c3.out.mono ?_
          rintro e w5 ⟨rfl, k0', hg⟩
          replace k2 := k2.kept hg (by omega)
          replace kb := below_gr kb hg (by omega) kb.size
          clear c3 hg k0 hc2 hce
          go_wp2_with fail
          exact ⟨⟨k + 1, by omega, by congr 1; omega, k2, k0', kb⟩, by simp [intOf]; omega⟩
        · have hk8 : Hid (k = 8) := Lib.hid (by omega)
          have hM : Hid (P ++ E.take 8 = shMb L) := Lib.hid (by rw [List.take_of_length_le (by rw [hEl.out]; exact Nat.le_refl _), ← hP.out, ← hE.out]; rfl)
          rw [hk8.out, hM.out] at k0
          have dk : decide ((0 : Int) ≤ 7 - (k : Int)) = false := decide_eq_false (by omega)
          have dk2 : ¬ (0 : Int) ≤ 7 - (k : Int) := by omega
          obtain ⟨kc, hkc⟩ : ∃ kc, 7 - (k : Int) = kc := ⟨_, rfl⟩
          rw [hkc] at dk dk2 ⊢
          clear hkc hk hkn hat hM hEl
          obtain ⟨h, hh⟩ : ∃ h, shHb (shMb L) ((shMb L).length / 128) = h := ⟨_, rfl⟩
          have ok := shHb_ok (shMb L) ((shMb L).length / 128)
          obtain ⟨bs, -, -, k0⟩ := k0
          rw [hh] at k0 ok
          have hX2 := hX.out
          rw [shab, hh] at hX2
          replace hX := Lib.hid hX2
          obtain ⟨nn, hnn⟩ : ∃ nn, (shMb L).length % 128 = nn := ⟨_, rfl⟩
          rw [hnn] at k0
          replace ok := Lib.hid ok
          clear hnn hh hX2
          go_upto_region 24 with fail
          refine wp_new1 (fun w8 hsz k9 hb8 => ?_)
          replace k9 : Arr w8 wr.heap.size (bytn 64 (shOb h 0)) := by rw [shOb]; exact k9
          have h09 := k0.lt
          replace k0 := k0.below hb8
          replace k2 := k2.below hb8
          replace kb := bel kb hb8
          obtain ⟨g9, hg9⟩ : ∃ g, wr.heap.size = g := ⟨_, rfl⟩
          rw [hg9] at k9 h09 ⊢
          clear hb8 hsz hg9 dk dk2
          go_wp2_with fail
          go_loopw [68] (fun iv wr => ∃ i : Nat, i ≤ 64 ∧ iv = .int .i64 i ∧ Arr wr g2 (bytn 64 0) ∧ Arr wr g (stvb h bs nn lg) ∧ Arr wr g9 (bytn 64 (shOb h i)) ∧ Below w.heap.size w wr) (fun iv _ => 64 - (intOf iv).toNat)
          case atStart => exact ⟨0, Nat.zero_le _, rfl, k2, k0, k9, kb⟩
          case round =>
          clear k2 k0 k9 kb
          obtain ⟨i, hi, rfl, k2, k0, k9, kb⟩ := hrel
          have hi0 : (0 : Int) ≤ (i : Int) := by omega
          by_cases hin : i < 64
          · have hi1 : (i : Int) < 64 := by omega
            obtain ⟨q, hq⟩ : ∃ q, i / 8 = q := ⟨_, rfl⟩
            have hq8 : q < 8 := by omega
            have cq := stvb_hj (bs := bs) (n := nn) (lg := lg) ok.out.1 hq8
            have cq := k0.cell cq
            have fq : (i : Int) / 8 = (q : Int) := by omega
            have hq0 : (0 : Int) ≤ (q : Int) := by omega
            have hq1 : (q : Int) < 8 := by omega
            have fw : IntKind.i64.wrap (q : Int) = (q : Int) := i64_in (by omega)
            obtain ⟨r, hr⟩ : ∃ r, i % 8 = r := ⟨_, rfl⟩
            have fr : (i : Int) % 8 = (r : Int) := by omega
            have fr2 : Int.tmod (i : Int) 8 = (r : Int) := by rw [Int.tmod_eq_emod_of_nonneg hi0]; omega
            have hr0 : (0 : Int) ≤ (r : Int) := by omega
            have hr1 : (r : Int) < 8 := by omega
            obtain ⟨s, hs⟩ : ∃ s, 56 - 8 * r = s := ⟨_, rfl⟩
            have f8 : IntKind.i64.wrap (8 * (r : Int)) = 8 * (r : Int) := i64_in (by omega)
            have fs : IntKind.i64.wrap (56 - 8 * (r : Int)) = (s : Int) := by rw [i64_in (by omega)]; omega
            have fs2 : 56 - 8 * (r : Int) = (s : Int) := by omega
            have hs0 : (0 : Int) ≤ (s : Int) := by omega
            have hs1 : (s : Int) < 64 := by omega
            obtain ⟨x, hx⟩ : ∃ x, h.getD q 0 = x := ⟨_, rfl⟩
            rw [hx] at cq
            have hB : Hid (shBb h i = x / 2 ^ s % 256) := Lib.hid (by rw [shBb, hq, hr, hs, hx])
            have hset : Hid ((bytn 64 (shOb h i)).set i (.int .u8 ((x / 2 ^ s % 256 : Nat) : Int)) = bytn 64 (shOb h (i + 1))) := Lib.hid (by rw [bytn_snoc (shOb_lt h i) (Nat.mod_lt _ (by decide)), shOb, hB.out])
            have hlen9 : Hid ((bytn 64 (shOb h i)).length = 64) := Lib.hid (bytn_len _ _)
            have c9 := k9.cell (bytn_get 64 (shOb h i) i hin)
            have z9 := k9.frozen i
            generalize shOb h i / 256 ^ i % 256 = y at c9
            replace hq := Lib.hid hq
            replace hr := Lib.hid hr
            replace hs := Lib.hid hs
            clear hx hB
            go_wp2_with fail
            have e8 : ((x / 2 ^ s % 256 : Nat) : Int) = (x : Int) / 2 ^ s % 256 := by simp
            rw [← e8]
            replace k2 := k2.other (a := ⟨g9, i, none⟩) (by simp; omega) (.int .u8 ((x / 2 ^ s % 256 : Nat) : Int))
            replace k0 := k0.other (a := ⟨g9, i, none⟩) (by simp; omega) (.int .u8 ((x / 2 ^ s % 256 : Nat) : Int))
            replace k9 := k9.set i (.int .u8 ((x / 2 ^ s % 256 : Nat) : Int))
            rw [hset.out] at k9
            exact ⟨⟨i + 1, by omega, by go_num, k2, k0, k9, kb.setCell (by simp; omega) _⟩, by simp [intOf]; omega⟩
          · have dj : decide ((i : Int) < 64) = false := decide_eq_false (by omega)
            have hie : Hid (i = 64) := Lib.hid (by omega)
            rw [hie.out] at k9
            go_wp2_with (first | (refine wpList_load_arr2 rfl _ _ rfl _ rfl (by decide +kernel) _ k9 (by rw [bytn_len]; kernel_rfl) ?_) | (refine wpl_storeG rfl _ _ _ rfl _ (bytn 64 (shOb h 64)) rfl rfl _ k2 (by rw [bytn_len]; kernel_rfl) (by rw [bytn_len, bytn_len]) (bytn_one _ _) (fun w9 k2 hg hsz => ?_)))
            have qb := below_gr kb hg (by omega) kb.size
            exact bodyPost_ret (results_arr2 Tryz.results117 _ _ _ rfl (by kernel_rfl) _ k2 (by rw [bytn_len]; kernel_rfl)) rfl ⟨hX.out, qb⟩
      · have dn : ((m : Int) == 112) = false := by simp; omega
        have hz2 : z + 1 ≤ shZb N := by rw [hzz] at hz ⊢; omega
        have c3 := Lib.hid (c2.out wr _ k0)
        have hes : L ++ [128] ++ List.replicate z 0 ++ [0] = L ++ [128] ++ List.replicate (z + 1) 0 := by rw [List.replicate_succ', List.append_assoc]
        rw [hes] at c3
        clear hes hm hzz
        replace hm2 := Lib.hid hm2
        have hmne : (m : Int) ≠ 112 := by omega
        go_wp2_with fail
        refine c3.out.mono ?_
        rintro e w5 ⟨rfl, k0', hg⟩
        replace k2 := k2.kept hg (by omega)
        replace kb := below_gr kb hg (by omega) kb.size
        clear c3 hg k0
        have hce2 := k0'.n
        obtain ⟨m', hm'⟩ : ∃ m, (L ++ [128] ++ List.replicate (z + 1) 0).length % 128 = m := ⟨_, rfl⟩
        rw [hm'] at hce2
        have hm3 : m' = (m + 1) % 128 := by
          rw [← hm', hm2.out, ← hN.out]
          simp
          omega
        have hml : m < 128 := by rw [hm2.out]; exact Nat.mod_lt _ (by decide)
        replace hce := Lib.hid hce
        replace hce2 := Lib.hid hce2
        clear hm'
        replace hm3 := Lib.hid hm3
        go_wp2_with fail
        refine ⟨⟨z + 1, hz2, k2, k0', kb⟩, ?_⟩
        rw [hce.out, hce2.out]
        simp only [Option.getD_some, intOf, Int.toNat_natCast]
        have := hm3.out
        omega
end Go.Proofs.YtibdgkhkhmdihaaGreatDoor


namespace Go.Proofs.YtibdgkhkhmdihaaGreatDoor
open Go.RowKit
/-- A slice over a whole array. -/
theorem Sl.of_arr {w : World} {g : Nat} {xs : List Value} (h : Arr w g xs) (hm : xs.length ≤ maxLen) : Sl w (.slice (some ⟨g, 0, none⟩) xs.length xs.length) xs :=
  ⟨some ⟨g, 0, none⟩, xs.length, rfl, Nat.le_refl _, hm, fun h => (by cases h), fun x hx => by
    cases hx
    intro j u hu
    rw [Addr.add_lit, Nat.zero_add]
    exact h.cell hu⟩
end Go.Proofs.YtibdgkhkhmdihaaGreatDoor


namespace Go.Proofs.YtibdgkhkhmdihaaGreatDoor
open Go.RowKit
theorem byts_nb (R : Nat) : byts R = u8s (nb 32 R) := nb_u8s 32 R
end Go.Proofs.YtibdgkhkhmdihaaGreatDoor


namespace Go.Proofs.YtibdgkhkhmdihaaGreatDoor
open Go.RowKit
/-- A seed's bytes, hashed. -/
def seedN (K : Nat) : Nat := shab (nb 32 K)
/-- A seed's number. -/
def secN (K : Nat) : Nat := clampN (seedN K % 256 ^ 32)
theorem secN_lt (K : Nat) : secN K < 256 ^ 32 := Nat.lt_trans (clamp_lt _) (by decide)
/-- The bytes beside it. -/
def sideL (K : Nat) : List UInt8 := nb 32 (seedN K / 256 ^ 32)
/-- A seed's public key. -/
def pubN (K : Nat) : Nat := encP (tmsP bP (secN K) 256)
theorem bytn64_lo {w : World} {k N : Nat} (h : Arr w k (bytn 64 N)) : w.rangeAt k 0 (byts (N % 256 ^ 32)) := h.range (fun j hj => bytn_part N j hj)
theorem bytn64_hi (N j : Nat) (hj : j < 32) : (bytn 64 N)[32 + j]? = (bytn 32 (N / 256 ^ 32))[j]? := by
  rw [bytn_get _ _ _ (by omega), bytn_get _ _ _ hj, Nat.pow_add, ← Nat.div_div_eq_div_mul]
set_option maxHeartbeats 4000000 in
set_option maxRecDepth 100000 in
theorem csecret_any (K : Nat) (w : World) :
    Calls Tryz.prog 75 #[.agg (byts K).toArray] w fun e w' => ∃ g, e = .returned (.tuple #[.agg (byts (secN K)).toArray, .slice (some ⟨g, 32, none⟩) 32 32]) ∧ Sl w' (.slice (some ⟨g, 32, none⟩) 32 32) (u8s (sideL K)) ∧ Below w.heap.size w w' := by
  obtain ⟨N, hN⟩ : ∃ N, seedN K = N := ⟨_, rfl⟩
  have cS := Lib.hid (fun (w : World) g (h : Sls w (.slice (some ⟨g, 0, none⟩) 1 1) [nb 32 K]) => show Calls Tryz.prog 117 #[.slice (some ⟨g, 0, none⟩) 1 1] w fun e w' => e = .returned (.agg (bytn 64 N).toArray) ∧ Below w.heap.size w w' from by
    have q := shsumb_any (some ⟨g, 0, none⟩) 1 [nb 32 K] w h
    rw [show [nb 32 K].flatten = nb 32 K by simp, show shab (nb 32 K) = N from hN] at q
    exact q)
  have cC := Lib.hid (fun w => lclamp_any (N % 256 ^ 32) (Nat.mod_lt _ (by decide)) w)
  unfold secN sideL
  rw [hN]
  obtain ⟨A, hA⟩ : ∃ A, clampN (N % 256 ^ 32) = A := ⟨_, rfl⟩
  rw [hA] at cC ⊢
  clear hN hA
  go_enter Tryz.func75, Tryz.ntmps75
  go_upto_region 1 with fail
  refine wp_new2 (fun W hsz k1 k2 kb => ?_)
  replace k2 : Arr W (w.heap.size + 1) (byts 0) := k2
  have h1 := Lib.hid (show Sl W (.slice (some ⟨w.heap.size, 0, none⟩) 32 32) (u8s (nb 32 K)) from Sl.ofArrN (by rw [← byts_nb]; exact k1) (nb_len _ _) (by decide))
  have kb2 := below_alloc W (.cells #[.slice (some ⟨w.heap.size, 0, none⟩) 32 32] 26)
  have h2 := Lib.hid (Sls.new1 h1.out 26)
  clear hsz h1 k1
  go_wp2_with fail
  refine (cS.out _ _ h2.out).mono ?_
  rintro e w1 ⟨rfl, hb⟩
  replace hb := bel kb2 hb
  replace k2 := k2.below hb
  replace kb := bel kb hb
  clear hb kb2 h2 cS
  go_upto_region 2 with (refine wpl_storeG rfl _ _ _ rfl _ (bytn 64 N) rfl rfl _ (Arr.new _ _ _) (by rw [bytn_len]; kernel_rfl) (by rw [bytn_len]; rfl) (bytn_one _ _) (fun wE k5 hg hsz => ?_))
  have hb := below_fresh hg
  have lt2 := k2.lt
  replace k2 := k2.below hb
  replace kb : Below w.heap.size w wE := bel kb hb
  obtain ⟨g5, hg5⟩ : ∃ g, w1.heap.size = g := ⟨_, rfl⟩
  rw [hg5] at k5 lt2 ⊢
  clear hb hg hsz hg5
  have hat2 : ∀ w o, (Instr.arrayAt 34 (.slice (some ⟨o, 0, none⟩) 32 64)).run Tryz.prog w = .ok (.pointer (some ⟨o, 0, none⟩)) w := fun w o => run_arrayAt w 34 5 32 _ 32 64 Tryz.underlying34 (by decide)
  refine Tx.start (fun w' => Below (wE).heap.size (wE) w') 5 7 rfl (by kernel_rfl) ?_
  have hS_1 : Below (wE).heap.size (wE) (World.drew wE) := (Below.refl _ _).drew
  refine Tx.seg (A := ?_) 4 7 (by kernel_rfl) (by exact hS_1) [0, 1, 2] (by kernel_rfl) ?_ ?_
  rotate_left
  · intro w' hB
    have y5 := bytn64_lo (k5.below hB)
    iterate 3 (first | (refine rd_skip rfl rfl ?_; simp only [Act.put, List.setIfInBounds_toArray, List.set_cons_zero, List.set_cons_succ]) | (refine rd_load_mid rfl rfl _ _ rfl _ _ rfl (by decide +kernel) _ y5 (by first | (rw [lims_len]; kernel_rfl) | (rw [el_rep]; kernel_rfl) | (rw [el_len]; kernel_rfl) | (rw [byts_len]; kernel_rfl) | (rw [us_len]; kernel_rfl) | (rw [bytn_len]; kernel_rfl) | (rw [ens_len, digs_len]; kernel_rfl) | (rw [ptL_len]; kernel_rfl) | (rw [pcs_len]; kernel_rfl) | kernel_rfl) ?_; simp only [Act.put, List.setIfInBounds_toArray, List.set_cons_zero, List.set_cons_succ]) | (refine rd_load_arr rfl rfl _ _ rfl _ rfl (by decide +kernel) _ (by assumption) (by first | (rw [lims_len]; kernel_rfl) | (rw [el_rep]; kernel_rfl) | (rw [el_len]; kernel_rfl) | (rw [byts_len]; kernel_rfl) | (rw [us_len]; kernel_rfl) | (rw [bytn_len]; kernel_rfl) | (rw [ens_len, digs_len]; kernel_rfl) | (rw [ptL_len]; kernel_rfl) | (rw [pcs_len]; kernel_rfl) | kernel_rfl) ?_; simp only [Act.put, List.setIfInBounds_toArray, List.set_cons_zero, List.set_cons_succ]) | (refine rd_take (v := ?_) rfl rfl ?_ ?_; rotate_left; (focus (go_simp; try (with_reducible rfl))); simp only [Act.put, List.setIfInBounds_toArray, List.set_cons_zero, List.set_cons_succ]))
    exact rd_nil
  refine Tx.pure (A := ?_) 3 23 (by kernel_rfl) (by exact hS_1) [4] (by kernel_rfl) ?_ ?_
  rotate_left
  · intro w'
    iterate 1 (first | (refine rd_skip rfl rfl ?_; simp only [Act.put, List.setIfInBounds_toArray, List.set_cons_zero, List.set_cons_succ]) | (refine rd_take (v := ?_) rfl rfl ?_ ?_; rotate_left; (focus (go_simp; try (with_reducible rfl))); simp only [Act.put, List.setIfInBounds_toArray, List.set_cons_zero, List.set_cons_succ]))
    exact rd_nil
  refine Tx.eff 3 31 rfl (by decide +kernel) (fun K hK => ?_)
  go_simp
  refine (cC.out _).mono ?_
  rintro e w_2 ⟨rfl, hb_2⟩
  have hS_2 := ext_trans hS_1 (Nat.le_refl _) hb_2
  refine hK (fun w' => Below (wE).heap.size (wE) w') _ _ hS_2 (fun _ h => h) ?_
  clear hK K hb_2 hS_1
  try simp only [Act.put, List.setIfInBounds_toArray, List.set_cons_zero, List.set_cons_succ]
  have k2 := k2.below hS_2
  have k5 := k5.below hS_2
  have kb := bel kb hS_2
  refine Tx.bar 63 rfl (by decide +kernel) (fun K hK => ?_)
  refine step_store_arr rfl _ _ _ rfl _ _ rfl rfl _ (by assumption) (by first | (rw [lims_len]; kernel_rfl) | (rw [el_rep]; kernel_rfl) | (rw [el_len]; kernel_rfl) | (rw [byts_len]; kernel_rfl) | (rw [us_len]; kernel_rfl) | (rw [bytn_len]; kernel_rfl) | (rw [ens_len, digs_len]; kernel_rfl) | (rw [ptL_len]; kernel_rfl) | (rw [pcs_len]; kernel_rfl) | kernel_rfl) (by first | (rw [lims_len, lims_len]) | (rw [el_rep, el_rep]) | (rw [el_rep, el_len]; rfl) | (rw [el_len, el_rep]; rfl) | (rw [el_len, el_len]; rfl) | (rw [byts_len, byts_len]) | (rw [lims_len]; rfl) | (rw [byts_len]; rfl) | (rw [us_len, us_len]; rfl) | (rw [bytn_len, bytn_len]) | (rw [bytn_len]; rfl) | (rw [ptL_len, ptL_len]) | (rw [pcs_len, pcs_len]) | (rw [ptL_len, pcs_len]) | (rw [pcs_len, ptL_len]) | (rw [ens_len, ens_len, digs_len, digs_len]) | rfl) (by first | exact lims_one _ _ | exact el_one _ | exact byts_one _ | exact us_one _ | exact bytn_one _ _ | exact ens_one _ | exact ptL_one _ _ _ _ | exact pcs_one _ | (intro v hv; simp at hv; rcases hv with rfl | rfl | rfl | rfl <;> rfl)) ?_
  refine hK (fun _ => True) 9999 _ _ ?_
  clear hK K
  try simp only [Act.put]
  try simp only [List.setIfInBounds_toArray, List.set_cons_zero, List.set_cons_succ]
  refine Tx.seg (A := ?_) 0 127 (by kernel_rfl) (by exact trivial) [6] (by kernel_rfl) ?_ ?_
  rotate_left
  · intro w' hB
    iterate 1 (first | (refine rd_skip rfl rfl ?_; simp only [Act.put, List.setIfInBounds_toArray, List.set_cons_zero, List.set_cons_succ]) | (refine rd_load_arr rfl rfl _ _ rfl _ rfl (by decide +kernel) _ (by assumption) (by first | (rw [lims_len]; kernel_rfl) | (rw [el_rep]; kernel_rfl) | (rw [el_len]; kernel_rfl) | (rw [byts_len]; kernel_rfl) | (rw [us_len]; kernel_rfl) | (rw [bytn_len]; kernel_rfl) | (rw [ens_len, digs_len]; kernel_rfl) | (rw [ptL_len]; kernel_rfl) | (rw [pcs_len]; kernel_rfl) | kernel_rfl) ?_; simp only [Act.put, List.setIfInBounds_toArray, List.set_cons_zero, List.set_cons_succ]) | (refine rd_take (v := ?_) rfl rfl ?_ ?_; rotate_left; (focus (go_simp; try (with_reducible rfl))); simp only [Act.put, List.setIfInBounds_toArray, List.set_cons_zero, List.set_cons_succ]))
    exact rd_nil
  refine Tx.done (by kernel_rfl) ?_
  refine then_row k2 (fun w_3 k2 hoth hbel => ?_)
  have k5 := hoth _ _ (by omega) k5
  have kb := hbel _ _ (by omega) kb
  clear hoth hbel
  go_wp2_with fail
  refine bodyPost_ret (results_arr_tmp Tryz.results75 _ _ _ _ rfl Tryz.underlying34 rfl _ k2 (by rw [byts_len]; kernel_rfl) _ rfl) rfl ⟨g5, rfl, ?_, kb⟩
  refine ⟨some ⟨g5, 32, none⟩, 32, by rw [u8s_len, nb_len], by rw [u8s_len, nb_len]; decide, by decide, fun h => (by cases h), fun x hx j u hu => ?_⟩
  cases hx
  rw [Addr.add_lit]
  rw [← nb_u8s] at hu
  have hj : j < 32 := by
    have := (List.getElem?_eq_some_iff.1 hu).1
    rwa [bytn_len] at this
  exact k5.cell (by rw [bytn64_hi N j hj]; exact hu)
set_option maxHeartbeats 4000000 in
set_option maxRecDepth 100000 in
theorem cpublic_any (K : Nat) (w : World) :
    Calls Tryz.prog 48 #[.agg (byts K).toArray] w fun e w' => e = .returned (.agg (byts (pubN K)).toArray) ∧ Below w.heap.size w w' := by
  have cS := Lib.hid (fun w => csecret_any K w)
  have lS := secN_lt K
  unfold pubN
  obtain ⟨A, hA⟩ : ∃ A, secN K = A := ⟨_, rfl⟩
  rw [hA] at lS ⊢
  simp only [hA] at cS
  have c0 := Lib.hid (fun w => pbase_any w)
  have c1 := Lib.hid (fun w => ptimes_any bP A bP_ok lS w)
  have c2 := Lib.hid (fun w => pbytes_any (tmsP bP A 256) (tmsP_ok _ _ _) w)
  obtain ⟨T, hT⟩ : ∃ P, tmsP bP A 256 = P := ⟨_, rfl⟩
  rw [hT] at c1 c2 ⊢
  obtain ⟨b, hb⟩ : ∃ b, bP = b := ⟨_, rfl⟩
  rw [hb] at c0 c1
  obtain ⟨E, hE⟩ : ∃ b, encP T = b := ⟨_, rfl⟩
  rw [hE] at c2 ⊢
  clear hA hT hb hE lS
  go_enter Tryz.func48, Tryz.ntmps48
  go_upto_region 1 with fail
  refine wp_new2 (fun W hsz k1 k2 kb => ?_)
  replace k2 : Arr W (w.heap.size + 1) (byts 0) := k2
  clear hsz
  go_wp2_with (refine wpList_load_arr2 rfl _ _ rfl _ rfl (by decide +kernel) _ (by assumption) (by first | (rw [lims_len]; kernel_rfl) | (rw [el_rep]; kernel_rfl) | (rw [el_len]; kernel_rfl) | (rw [byts_len]; kernel_rfl) | (rw [us_len]; kernel_rfl) | (rw [bytn_len]; kernel_rfl) | (rw [ens_len, digs_len]; kernel_rfl) | (rw [ptL_len]; kernel_rfl) | (rw [pcs_len]; kernel_rfl) | kernel_rfl) ?_)
  refine (cS.out _).mono ?_
  rintro e w1 ⟨g, rfl, -, hb⟩
  replace k2 := k2.below hb
  replace kb := bel kb hb
  clear hb k1 cS
  go_upto_region 2 with (refine wpl_storeG rfl _ _ _ rfl _ (byts A) rfl rfl _ (Arr.new _ _ _) (by rw [byts_len]; kernel_rfl) (by rw [byts_len]; rfl) (byts_one _) (fun wE k5 hg hsz => ?_))
  have hb := below_fresh hg
  have lt2 := k2.lt
  replace k2 := k2.below hb
  replace kb : Below w.heap.size w wE := bel kb hb
  obtain ⟨g5, hg5⟩ : ∃ g, w1.heap.size = g := ⟨_, rfl⟩
  rw [hg5] at k5 lt2 ⊢
  clear hb hg hsz hg5
  refine Tx.start (fun w' => Below (wE).heap.size (wE) w') 4 5 rfl (by kernel_rfl) ?_
  have hS_4 : Below (wE).heap.size (wE) (World.drew wE) := (Below.refl _ _).drew
  refine Tx.seg (A := ?_) 4 2 (by kernel_rfl) (by exact hS_4) [1] (by kernel_rfl) ?_ ?_
  rotate_left
  · intro w' hB
    have y5 := k5.below hB
    iterate 1 (first | (refine rd_skip rfl rfl ?_; simp only [Act.put, List.setIfInBounds_toArray, List.set_cons_zero, List.set_cons_succ]) | (refine rd_load_arr rfl rfl _ _ rfl _ rfl (by decide +kernel) _ (by assumption) (by first | (rw [lims_len]; kernel_rfl) | (rw [el_rep]; kernel_rfl) | (rw [el_len]; kernel_rfl) | (rw [byts_len]; kernel_rfl) | (rw [us_len]; kernel_rfl) | (rw [bytn_len]; kernel_rfl) | (rw [ens_len, digs_len]; kernel_rfl) | (rw [ptL_len]; kernel_rfl) | (rw [pcs_len]; kernel_rfl) | kernel_rfl) ?_; simp only [Act.put, List.setIfInBounds_toArray, List.set_cons_zero, List.set_cons_succ]) | (refine rd_take (v := ?_) rfl rfl ?_ ?_; rotate_left; (focus (go_simp; try (with_reducible rfl))); simp only [Act.put, List.setIfInBounds_toArray, List.set_cons_zero, List.set_cons_succ]))
    exact rd_nil
  refine Tx.eff 0 3 rfl (by decide +kernel) (fun K hK => ?_)
  go_simp
  refine (c0.out _).mono ?_
  rintro e w_5 ⟨rfl, hb_5⟩
  have hS_5 := ext_trans hS_4 (Nat.le_refl _) hb_5
  refine hK (fun w' => Below (wE).heap.size (wE) w') _ _ hS_5 (fun _ h => h) ?_
  clear hK K hb_5 hS_4
  try simp only [Act.put, List.setIfInBounds_toArray, List.set_cons_zero, List.set_cons_succ]
  refine Tx.eff 2 7 rfl (by decide +kernel) (fun K hK => ?_)
  go_simp
  refine (c1.out _).mono ?_
  rintro e w_6 ⟨rfl, hb_6⟩
  have hS_6 := ext_trans hS_5 (Nat.le_refl _) hb_6
  refine hK (fun w' => Below (wE).heap.size (wE) w') _ _ hS_6 (fun _ h => h) ?_
  clear hK K hb_6 hS_5
  try simp only [Act.put, List.setIfInBounds_toArray, List.set_cons_zero, List.set_cons_succ]
  refine Tx.eff 3 15 rfl (by decide +kernel) (fun K hK => ?_)
  go_simp
  refine (c2.out _).mono ?_
  rintro e w_7 ⟨rfl, hb_7⟩
  have hS_7 := ext_trans hS_6 (Nat.le_refl _) hb_7
  refine hK (fun w' => Below (wE).heap.size (wE) w') _ _ hS_7 (fun _ h => h) ?_
  clear hK K hb_7 hS_6
  try simp only [Act.put, List.setIfInBounds_toArray, List.set_cons_zero, List.set_cons_succ]
  have k2 := k2.below hS_7
  have kb := bel kb hS_7
  refine Tx.bar 31 rfl (by decide +kernel) (fun K hK => ?_)
  refine step_store_arr rfl _ _ _ rfl _ _ rfl rfl _ (by assumption) (by first | (rw [lims_len]; kernel_rfl) | (rw [el_rep]; kernel_rfl) | (rw [el_len]; kernel_rfl) | (rw [byts_len]; kernel_rfl) | (rw [us_len]; kernel_rfl) | (rw [bytn_len]; kernel_rfl) | (rw [ens_len, digs_len]; kernel_rfl) | (rw [ptL_len]; kernel_rfl) | (rw [pcs_len]; kernel_rfl) | kernel_rfl) (by first | (rw [lims_len, lims_len]) | (rw [el_rep, el_rep]) | (rw [el_rep, el_len]; rfl) | (rw [el_len, el_rep]; rfl) | (rw [el_len, el_len]; rfl) | (rw [byts_len, byts_len]) | (rw [lims_len]; rfl) | (rw [byts_len]; rfl) | (rw [us_len, us_len]; rfl) | (rw [bytn_len, bytn_len]) | (rw [bytn_len]; rfl) | (rw [ptL_len, ptL_len]) | (rw [pcs_len, pcs_len]) | (rw [ptL_len, pcs_len]) | (rw [pcs_len, ptL_len]) | (rw [ens_len, ens_len, digs_len, digs_len]) | rfl) (by first | exact lims_one _ _ | exact el_one _ | exact byts_one _ | exact us_one _ | exact bytn_one _ _ | exact ens_one _ | exact ptL_one _ _ _ _ | exact pcs_one _ | (intro v hv; simp at hv; rcases hv with rfl | rfl | rfl | rfl <;> rfl)) ?_
  refine hK (fun _ => True) 9999 _ _ ?_
  clear hK K
  try simp only [Act.put]
  try simp only [List.setIfInBounds_toArray, List.set_cons_zero, List.set_cons_succ]
  refine Tx.done (by kernel_rfl) ?_
  refine then_row k2 (fun w_8 k2 hoth hbel => ?_)
  have kb := hbel _ _ (by omega) kb
  clear hoth hbel
  go_wp2_with fail
  exact bodyPost_ret (results_arr2 Tryz.results48 _ _ _ rfl (by kernel_rfl) _ k2 (by rw [byts_len]; kernel_rfl)) rfl ⟨rfl, kb⟩
end Go.Proofs.YtibdgkhkhmdihaaGreatDoor

