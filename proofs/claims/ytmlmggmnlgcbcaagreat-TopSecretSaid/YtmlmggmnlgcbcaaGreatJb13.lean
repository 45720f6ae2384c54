import Derived.Test.YtmlmggmnlgcbcaaGreatJb06
import Derived.Test.YtmlmggmnlgcbcaaGreatJb09
import Derived.Test.YtmlmggmnlgcbcaaGreatJb10
import Derived.Test.YtmlmggmnlgcbcaaGreatJb12
import Derived.Test.YtmlmggmnlgcbcaaGreatJb05
import Derived.Laws.MakeOwn
import Derived.Test.YtmlmggmnlgcbcaaGreatJb04

namespace Go.Proofs.YtmlmggmnlgcbcaaGreat
open Go.RowKit
/-- What is put behind a message: 128, noughts, its length in bits. -/
def shZa (n : Nat) : Nat := (119 - n % 64) % 64
def shXa (L : List UInt8) : List UInt8 := L ++ [128] ++ List.replicate (shZa L.length) 0
def shMa (L : List UInt8) : List UInt8 := shXa L ++ be8 (8 * L.length : Int)
/-- The bytes of a state's words, so many of them, as a number. -/
def shBa (h : List Nat) (i : Nat) : Nat := h.getD (i / 4) 0 / 2 ^ (24 - 8 * (i % 4)) % 256
def shOa (h : List Nat) : Nat → Nat
  | 0 => 0
  | i + 1 => shOa h i + 256 ^ i * shBa h i
theorem shOa_lt (h : List Nat) : ∀ i, shOa h i < 256 ^ i
  | 0 => by rw [shOa]; decide
  | i + 1 => by
    have h1 := shOa_lt h i
    have h2 : shBa h i < 256 := Nat.mod_lt _ (by decide)
    have h3 : 256 ^ i * shBa h i ≤ 256 ^ i * 255 := Nat.mul_le_mul_left _ (by omega)
    rw [shOa, Nat.pow_succ]
    omega
/-- SHA-2 of a list, as a number whose lowest byte comes first. -/
def shaa (L : List UInt8) : Nat := shOa (shHa (shMa L) ((shMa L).length / 64)) 32
set_option maxHeartbeats 4000000 in
set_option maxRecDepth 100000 in
theorem shsuma_any (d : Option Addr) (cap : Nat) (ls : List (List UInt8)) (w : World) (hs : Sls w (.slice d ls.length cap) ls) :
    Calls Tryz.prog 148 #[.slice d ls.length cap] w fun e w' => e = .returned (.agg (bytn 32 (shaa ls.flatten)).toArray) ∧ Below w.heap.size w w' := by
  have hlen := hs.len
  obtain ⟨-, hlc, hcm⟩ := hlen
  unfold maxLen at hcm
  obtain ⟨X, hX⟩ : ∃ X, Ending.returned (.agg (bytn 32 (shaa ls.flatten)).toArray) = X := ⟨_, rfl⟩
  rw [hX]
  replace hX := Lib.hid hX
  replace hs := Lib.hid hs
  go_enter Tryz.func148, Tryz.ntmps148
  go_upto_region 1 with fail
  refine wp_new1 (fun W hsz k2 kb => ?_)
  replace k2 : Arr W w.heap.size (bytn 32 0) := k2
  clear hsz
  go_wp2_with fail
  refine (begina_any _).mono ?_
  rintro e w1 ⟨g, rfl, hg, k0, hb⟩
  have k0 := SSta.start k0
  have lt2 := k2.lt
  replace k2 := k2.below hb
  replace kb := bel kb hb
  obtain ⟨g2, hg2⟩ : ∃ g2, w.heap.size = g2 := ⟨_, rfl⟩
  rw [hg2] at k2 lt2 ⊢
  have h2g : g2 < g := by omega
  have hw2 : w.heap.size ≤ g2 := by omega
  clear hb hg lt2 hg2
  have ib : (ls.length : Int) ≤ 9223372036854775807 := by omega
  go_wp2_with fail
  go_loopw [14] (fun iv wr => ∃ i : Nat, i ≤ ls.length ∧ iv = .int .i64 i ∧ Arr wr g2 (bytn 32 0) ∧ SSta wr g ((ls.take i).flatten.length % 18446744073709551616) (ls.take i).flatten ∧ Below w.heap.size w wr) (fun iv _ => ls.length - (intOf iv).toNat)
  case atStart => exact ⟨0, Nat.zero_le _, rfl, k2, k0, kb⟩
  case round =>
    clear k2 k0 kb
    obtain ⟨i, hi, rfl, k2, k0, kb⟩ := hrel
    by_cases hlt : i < ls.length
    · obtain ⟨b, o, x, c, rfl, hcel0, hsl⟩ := hs.out.at hlt
      have hcel : wr.cell? ⟨b, o + i, none⟩ = some (.slice x ls[i].length c) := by rw [kb.cell (World.block_lt_of_cell? w _ hcel0)]; exact hcel0
      have hsucc := flat_take_succ hlt
      obtain ⟨l, hl⟩ : ∃ l, ls[i] = l := ⟨_, rfl⟩
      rw [hl] at hsucc hcel hsl
      obtain ⟨pre, hpre⟩ : ∃ pre, (ls.take i).flatten = pre := ⟨_, rfl⟩
      rw [hpre] at k0 hsucc
      have hll := hsl.len
      rw [u8s_len] at hll
      obtain ⟨-, hlc2, hcm2⟩ := hll
      unfold maxLen at hcm2
      clear hpre hl hcel0
      replace hsucc := Lib.hid hsucc
      replace hsl := Lib.hid hsl
      have ilt : (i : Int) < (ls.length : Int) := by omega
      obtain ⟨lg, hlg⟩ : ∃ lg, pre.length % 18446744073709551616 = lg := ⟨_, rfl⟩
      rw [hlg] at k0
      have lgl : lg < 18446744073709551616 := by omega
      have hlg2 : Hid ((pre ++ l).length % 18446744073709551616 = (lg + l.length) % 18446744073709551616) := Lib.hid (by rw [List.length_append]; omega)
      clear hlg
      go_wp2_with fail
      clear hcel
      go_loopw [20] (fun jv wr => ∃ j : Nat, j ≤ l.length ∧ jv = .int .i64 j ∧ Arr wr g2 (bytn 32 0) ∧ SSta wr g lg (pre ++ l.take j) ∧ Below w.heap.size w wr) (fun jv _ => l.length - (intOf jv).toNat)
      case atStart => exact ⟨0, Nat.zero_le _, rfl, k2, by rw [List.take_zero, List.append_nil]; exact k0, kb⟩
      case round =>
        clear k2 k0 kb
        obtain ⟨j, hj, rfl, k2, k0, kb⟩ := hrel
        by_cases hltj : j < l.length
        · obtain ⟨b2, o2, rfl, -, -, -, hcc⟩ := hsl.out.at (by rw [u8s_len]; omega)
          have hcel := hcc j _ (u8s_get l j hltj)
          have hcel2 : wr.cell? ⟨b2, o2 + j, none⟩ = some (.int .u8 (l[j].toNat : Int)) := by rw [kb.cell (World.block_lt_of_cell? w _ hcel)]; exact hcel
          have hts : pre ++ l.take (j + 1) = pre ++ l.take j ++ [l[j]] := by rw [List.take_succ_eq_append_getElem hltj, List.append_assoc]
          have hyl : l[j].toNat < 256 := l[j].toNat_lt
          have c3 := Lib.hid (takea_st g lg (pre ++ l.take j) l[j] wr k0)
          generalize l[j] = y at *
          rw [← hts] at c3
          clear hcc hcel hts
          have jlt : (j : Int) < (l.length : Int) := by omega
          go_wp2_with fail
          clear hcel2
          refine c3.out.mono ?_
          rintro e w4 ⟨rfl, k0', hg⟩
          have k2 := k2.kept hg (by omega)
          have kb := below_gr kb hg (by omega) kb.size
          clear c3 hg k0
          go_wp2_with fail
          exact ⟨⟨j + 1, by omega, by go_num, k2, k0', kb⟩, by simp [intOf]; omega⟩
        · obtain rfl : j = l.length := by omega
          rw [List.take_of_length_le (Nat.le_refl _), ← hsucc.out] at k0
          obtain ⟨lg2, hl2⟩ : ∃ n, (lg + l.length) % 18446744073709551616 = n := ⟨_, rfl⟩
          have fl : IntKind.u64.wrap ((lg : Int) + (l.length : Int)) = (lg2 : Int) := by rw [wrap_u64_mod]; omega
          have hl3 : Hid (((ls.take (i + 1)).flatten).length % 18446744073709551616 = lg2) := Lib.hid (by rw [hsucc.out, hlg2.out, hl2])
          have ll0 : (0 : Int) ≤ (l.length : Int) := by omega
          have ll1 : (l.length : Int) ≤ 9223372036854775807 := by omega
          have fu : IntKind.u64.wrap (l.length : Int) = (l.length : Int) := by rw [wrap_u64_mod]; omega
          obtain ⟨hce, hfr⟩ := k0.l
          clear hl2
          go_wp2_with fail
          replace k2 := k2.other (a := ⟨g, 137, none⟩) (by simp; omega) (.int .u64 (lg2 : Int))
          replace k0 := k0.set (m := lg2)
          exact ⟨⟨i + 1, by omega, by go_num, k2, by rw [hl3.out]; exact k0, kb.setCell (by simp; omega) _⟩, by simp [intOf]; omega⟩
    · obtain rfl : i = ls.length := by omega
      rw [List.take_of_length_le (Nat.le_refl _)] at k0
      obtain ⟨L, hL⟩ : ∃ L, ls.flatten = L := ⟨_, rfl⟩
      have hX2 := hX.out
      rw [hL] at hX2 k0
      replace hX := Lib.hid hX2
      obtain ⟨N, hN⟩ : ∃ N, L.length = N := ⟨_, rfl⟩
      obtain ⟨lg, hlg⟩ : ∃ lg, N % 18446744073709551616 = lg := ⟨_, rfl⟩
      rw [hN, hlg] at k0
      have c1 : Hid (Calls Tryz.prog 173 #[.pointer (some ⟨g, 0, none⟩), .int .u8 128] wr fun e w' => e = .returned (.tuple #[]) ∧ SSta w' g lg (L ++ [128]) ∧ wr.grownBy w' (some g)) := Lib.hid (takea_st g lg L 128 wr k0)
      have c2 : Hid (∀ wr M, SSta wr g lg M → Calls Tryz.prog 173 #[.pointer (some ⟨g, 0, none⟩), .int .u8 0] wr fun e w' => e = .returned (.tuple #[]) ∧ SSta w' g lg (M ++ [0]) ∧ wr.grownBy w' (some g)) := Lib.hid (fun wr M k => takea_st g lg M 0 wr k)
      replace hN := Lib.hid hN
      have hlg2 := Lib.hid hlg
      clear hL hX2 hs hlg
      go_wp2_with fail
      refine c1.out.mono ?_
      rintro e w4 ⟨rfl, k0', hg⟩
      replace k2 := k2.kept hg (by omega)
      replace kb := below_gr kb hg (by omega) kb.size
      replace k0 : SSta w4 g lg (L ++ [128] ++ List.replicate 0 0) := by rw [List.replicate_zero, List.append_nil]; exact k0'
      clear c1 hg k0'
      go_wp2_with fail
      go_loopw [44] (fun _ wr => ∃ z : Nat, z ≤ shZa N ∧ Arr wr g2 (bytn 32 0) ∧ SSta wr g lg (L ++ [128] ++ List.replicate z 0) ∧ Below w.heap.size w wr) (fun _ wr => ((56 + 64 - (intOf ((wr.cell? ⟨g, 136, none⟩).getD undef)).toNat) % 64))
      case atStart => exact ⟨0, Nat.zero_le _, k2, k0, kb⟩
      case round =>
      clear k2 k0 kb
      obtain ⟨z, hz, k2, k0, kb⟩ := hrel
      have hce := k0.n
      obtain ⟨m, hm⟩ : ∃ m, (L ++ [128] ++ List.replicate z 0).length % 64 = m := ⟨_, rfl⟩
      rw [hm] at hce
      have hm2 : m = (N + 1 + z) % 64 := by
        rw [← hm, ← hN.out]
        simp
        omega
      have hzz : shZa N = (119 - N % 64) % 64 := rfl
      by_cases hmn : m = 56
      · have dn : ((m : Int) != 56) = false := by rw [hmn]; rfl
        have hze : Hid (z = shZa N) := Lib.hid (by rw [hzz] at hz ⊢; omega)
        rw [hze.out] at k0
        have hXe : Hid (L ++ [128] ++ List.replicate (shZa N) 0 = shXa L) := Lib.hid (by rw [← hN.out]; rfl)
        clear hm hm2 hzz hz hze hmn
        rw [hXe.out] at k0
        clear c2
        obtain ⟨P, hP⟩ : ∃ P, shXa L = P := ⟨_, rfl⟩
        rw [hP] at k0
        replace hP := Lib.hid hP
        clear hXe
        have hn8 : Hid (IntKind.u64.wrap ((lg : Int) * 8) = IntKind.u64.wrap (8 * L.length : Int)) := Lib.hid (by rw [wrap_u64_mod, wrap_u64_mod, ← hlg2.out, ← hN.out]; omega)
        obtain ⟨E, hE⟩ : ∃ E, be8 (8 * L.length : Int) = E := ⟨_, rfl⟩
        have hat : Hid (∀ k, k < 8 → ∃ c : UInt8, E.take (k + 1) = E.take k ++ [c] ∧ IntKind.u64.wrap ((lg : Int) * 8) / 2 ^ (8 * (7 - k)) % 256 = (c.toNat : Int)) := Lib.hid (fun k hk => by rw [hn8.out, ← hE]; exact be8_at _ k hk)
        have hEl : Hid (E.length = 8) := Lib.hid (by rw [← hE, be8_len])
        replace hE := Lib.hid hE
        clear hn8
        go_wp2_with fail
        clear dn hce
        go_loopw [8] (fun kv wr => ∃ k : Nat, k ≤ 8 ∧ kv = .int .i64 (7 - (k : Int)) ∧ Arr wr g2 (bytn 32 0) ∧ SSta wr g lg (P ++ E.take k) ∧ Below w.heap.size w wr) (fun kv _ => (intOf kv + 1).toNat)
        case atStart => exact ⟨0, Nat.zero_le _, rfl, k2, by rw [List.take_zero, List.append_nil]; exact k0, kb⟩
        case round =>
        clear k2 k0 kb
        obtain ⟨k, hk, rfl, k2, k0, kb⟩ := hrel
        by_cases hkn : k < 8
        · obtain ⟨c, hc1, hc2⟩ := hat.out k hkn
          have c3 := Lib.hid (takea_st g lg (P ++ E.take k) c wr k0)
          have hes : P ++ E.take (k + 1) = P ++ E.take k ++ [c] := by rw [hc1, List.append_assoc]
          rw [← hes] at c3
          obtain ⟨q, hq⟩ : ∃ q, 7 - k = q := ⟨_, rfl⟩
          have hq7 : 7 - (k : Int) = (q : Int) := by omega
          have hq0 : (0 : Int) ≤ (q : Int) := by omega
          have hq1 : (q : Int) ≤ 7 := by omega
          obtain ⟨s, hs⟩ : ∃ s, 8 * q = s := ⟨_, rfl⟩
          have hs8 : 8 * (q : Int) = (s : Int) := by omega
          have hs0 : (0 : Int) ≤ (s : Int) := by omega
          have hs1 : (s : Int) < 64 := by omega
          rw [hq, hs] at hc2
          obtain ⟨y, hy⟩ : ∃ y, c.toNat = y := ⟨_, rfl⟩
          rw [hy] at hc2 c3
          have ly : y < 256 := by rw [← hy]; exact c.toNat_lt
          obtain ⟨hce, -⟩ := k0.l
          clear hc1 hes hy
          replace hq := Lib.hid hq
          replace hs := Lib.hid hs
          go_wp2_with fail
          refine c3.out.mono ?_
          rintro e w5 ⟨rfl, k0', hg⟩
          replace k2 := k2.kept hg (by omega)
          replace kb := below_gr kb hg (by omega) kb.size
          clear c3 hg k0 hc2 hce
          go_wp2_with fail
          exact ⟨⟨k + 1, by omega, by congr 1; omega, k2, k0', kb⟩, by simp [intOf]; omega⟩
        · have hk8 : Hid (k = 8) := Lib.hid (by omega)
          have hM : Hid (P ++ E.take 8 = shMa L) := Lib.hid (by rw [List.take_of_length_le (by rw [hEl.out]; exact Nat.le_refl _), ← hP.out, ← hE.out]; rfl)
          rw [hk8.out, hM.out] at k0
          have dk : decide ((0 : Int) ≤ 7 - (k : Int)) = false := decide_eq_false (by omega)
          have dk2 : ¬ (0 : Int) ≤ 7 - (k : Int) := by omega
          obtain ⟨kc, hkc⟩ : ∃ kc, 7 - (k : Int) = kc := ⟨_, rfl⟩
          rw [hkc] at dk dk2 ⊢
          clear hkc hk hkn hat hM hEl
          obtain ⟨h, hh⟩ : ∃ h, shHa (shMa L) ((shMa L).length / 64) = h := ⟨_, rfl⟩
          have ok := shHa_ok (shMa L) ((shMa L).length / 64)
          obtain ⟨bs, -, -, k0⟩ := k0
          rw [hh] at k0 ok
          have hX2 := hX.out
          rw [shaa, hh] at hX2
          replace hX := Lib.hid hX2
          obtain ⟨nn, hnn⟩ : ∃ nn, (shMa L).length % 64 = nn := ⟨_, rfl⟩
          rw [hnn] at k0
          replace ok := Lib.hid ok
          clear hnn hh hX2
          go_upto_region 20 with fail
          refine wp_new1 (fun w8 hsz k9 hb8 => ?_)
          replace k9 : Arr w8 wr.heap.size (bytn 32 (shOa h 0)) := by rw [shOa]; exact k9
          have h09 := k0.lt
          replace k0 := k0.below hb8
          replace k2 := k2.below hb8
          replace kb := bel kb hb8
          obtain ⟨g9, hg9⟩ : ∃ g, wr.heap.size = g := ⟨_, rfl⟩
          rw [hg9] at k9 h09 ⊢
          clear hb8 hsz hg9 dk dk2
          go_wp2_with fail
          go_loopw [63] (fun iv wr => ∃ i : Nat, i ≤ 32 ∧ iv = .int .i64 i ∧ Arr wr g2 (bytn 32 0) ∧ Arr wr g (stva h bs nn lg) ∧ Arr wr g9 (bytn 32 (shOa h i)) ∧ Below w.heap.size w wr) (fun iv _ => 32 - (intOf iv).toNat)
          case atStart => exact ⟨0, Nat.zero_le _, rfl, k2, k0, k9, kb⟩
          case round =>
          clear k2 k0 k9 kb
          obtain ⟨i, hi, rfl, k2, k0, k9, kb⟩ := hrel
          have hi0 : (0 : Int) ≤ (i : Int) := by omega
          by_cases hin : i < 32
          · have hi1 : (i : Int) < 32 := by omega
            obtain ⟨q, hq⟩ : ∃ q, i / 4 = q := ⟨_, rfl⟩
            have hq8 : q < 8 := by omega
            have cq := stva_hj (bs := bs) (n := nn) (lg := lg) ok.out.1 hq8
            have cq := k0.cell cq
            have fq : (i : Int) / 4 = (q : Int) := by omega
            have hq0 : (0 : Int) ≤ (q : Int) := by omega
            have hq1 : (q : Int) < 8 := by omega
            have fw : IntKind.i64.wrap (q : Int) = (q : Int) := i64_in (by omega)
            obtain ⟨r, hr⟩ : ∃ r, i % 4 = r := ⟨_, rfl⟩
            have fr : (i : Int) % 4 = (r : Int) := by omega
            have fr2 : Int.tmod (i : Int) 4 = (r : Int) := by rw [Int.tmod_eq_emod_of_nonneg hi0]; omega
            have hr0 : (0 : Int) ≤ (r : Int) := by omega
            have hr1 : (r : Int) < 4 := by omega
            obtain ⟨s, hs⟩ : ∃ s, 24 - 8 * r = s := ⟨_, rfl⟩
            have f8 : IntKind.i64.wrap (8 * (r : Int)) = 8 * (r : Int) := i64_in (by omega)
            have fs : IntKind.i64.wrap (24 - 8 * (r : Int)) = (s : Int) := by rw [i64_in (by omega)]; omega
            have fs2 : 24 - 8 * (r : Int) = (s : Int) := by omega
            have hs0 : (0 : Int) ≤ (s : Int) := by omega
            have hs1 : (s : Int) < 32 := by omega
            obtain ⟨x, hx⟩ : ∃ x, h.getD q 0 = x := ⟨_, rfl⟩
            rw [hx] at cq
            have hB : Hid (shBa h i = x / 2 ^ s % 256) := Lib.hid (by rw [shBa, hq, hr, hs, hx])
            have hset : Hid ((bytn 32 (shOa h i)).set i (.int .u8 ((x / 2 ^ s % 256 : Nat) : Int)) = bytn 32 (shOa h (i + 1))) := Lib.hid (by rw [bytn_snoc (shOa_lt h i) (Nat.mod_lt _ (by decide)), shOa, hB.out])
            have hlen9 : Hid ((bytn 32 (shOa h i)).length = 32) := Lib.hid (bytn_len _ _)
            have c9 := k9.cell (bytn_get 32 (shOa h i) i hin)
            have z9 := k9.frozen i
            generalize shOa h i / 256 ^ i % 256 = y at c9
            replace hq := Lib.hid hq
            replace hr := Lib.hid hr
            replace hs := Lib.hid hs
            clear hx hB
            go_wp2_with fail
            have e8 : ((x / 2 ^ s % 256 : Nat) : Int) = (x : Int) / 2 ^ s % 256 := by simp
            rw [← e8]
            replace k2 := k2.other (a := ⟨g9, i, none⟩) (by simp; omega) (.int .u8 ((x / 2 ^ s % 256 : Nat) : Int))
            replace k0 := k0.other (a := ⟨g9, i, none⟩) (by simp; omega) (.int .u8 ((x / 2 ^ s % 256 : Nat) : Int))
            replace k9 := k9.set i (.int .u8 ((x / 2 ^ s % 256 : Nat) : Int))
            rw [hset.out] at k9
            exact ⟨⟨i + 1, by omega, by go_num, k2, k0, k9, kb.setCell (by simp; omega) _⟩, by simp [intOf]; omega⟩
          · have dj : decide ((i : Int) < 32) = false := decide_eq_false (by omega)
            have hie : Hid (i = 32) := Lib.hid (by omega)
            rw [hie.out] at k9
            go_wp2_with (first | (refine wpList_load_arr2 rfl _ _ rfl _ rfl (by decide +kernel) _ k9 (by rw [bytn_len]; kernel_rfl) ?_) | (refine wpl_storeG rfl _ _ _ rfl _ (bytn 32 (shOa h 32)) rfl rfl _ k2 (by rw [bytn_len]; kernel_rfl) (by rw [bytn_len, bytn_len]) (bytn_one _ _) (fun w9 k2 hg hsz => ?_)))
            have qb := below_gr kb hg (by omega) kb.size
            exact bodyPost_ret (results_arr2 Tryz.results148 _ _ _ rfl (by kernel_rfl) _ k2 (by rw [bytn_len]; kernel_rfl)) rfl ⟨hX.out, qb⟩
      · have dn : ((m : Int) == 56) = false := by simp; omega
        have hz2 : z + 1 ≤ shZa N := by rw [hzz] at hz ⊢; omega
        have c3 := Lib.hid (c2.out wr _ k0)
        have hes : L ++ [128] ++ List.replicate z 0 ++ [0] = L ++ [128] ++ List.replicate (z + 1) 0 := by rw [List.replicate_succ', List.append_assoc]
        rw [hes] at c3
        clear hes hm hzz
        replace hm2 := Lib.hid hm2
        have hmne : (m : Int) ≠ 56 := by omega
        go_wp2_with fail
        refine c3.out.mono ?_
        rintro e w5 ⟨rfl, k0', hg⟩
        replace k2 := k2.kept hg (by omega)
        replace kb := below_gr kb hg (by omega) kb.size
        clear c3 hg k0
        have hce2 := k0'.n
        obtain ⟨m', hm'⟩ : ∃ m, (L ++ [128] ++ List.replicate (z + 1) 0).length % 64 = m := ⟨_, rfl⟩
        rw [hm'] at hce2
        have hm3 : m' = (m + 1) % 64 := by
          rw [← hm', hm2.out, ← hN.out]
          simp
          omega
        have hml : m < 64 := by rw [hm2.out]; exact Nat.mod_lt _ (by decide)
        replace hce := Lib.hid hce
        replace hce2 := Lib.hid hce2
        clear hm'
        replace hm3 := Lib.hid hm3
        go_wp2_with fail
        refine ⟨⟨z + 1, hz2, k2, k0', kb⟩, ?_⟩
        rw [hce.out, hce2.out]
        simp only [Option.getD_some, intOf, Int.toNat_natCast]
        have := hm3.out
        omega
end Go.Proofs.YtmlmggmnlgcbcaaGreat


namespace Go.Proofs.YtmlmggmnlgcbcaaGreat
open Go.RowKit
/-- The i-th byte of the stream. -/
def ksB (k c n i : Nat) : Nat := blkB k ((c + i / 64) % 4294967296) n (i % 64)
theorem ksB_lt (k c n i : Nat) : ksB k c n i < 256 := blkB_lt _ _ _ _
/-- Bytes turned by the stream, so many of them. -/
def trT (k c n : Nat) (bs : List UInt8) : Nat → List UInt8
  | 0 => List.replicate bs.length 0
  | i + 1 => (trT k c n bs i).set i (UInt8.ofNat ((bs.getD i 0).toNat ^^^ ksB k c n i))
def trB (k c n : Nat) (bs : List UInt8) : List UInt8 := trT k c n bs bs.length
theorem trT_len (k c n : Nat) (bs : List UInt8) : ∀ i, (trT k c n bs i).length = bs.length
  | 0 => by simp [trT]
  | i + 1 => by rw [trT, List.length_set, trT_len k c n bs i]
theorem trT_get (k c n : Nat) (bs : List UInt8) : ∀ i j, j < i → i ≤ bs.length → (trT k c n bs i)[j]? = some (UInt8.ofNat ((bs.getD j 0).toNat ^^^ ksB k c n j))
  | 0, j, h, _ => absurd h (by omega)
  | i + 1, j, h, hi => by
    rw [trT, List.getElem?_set]
    by_cases e : i = j
    · subst e
      rw [if_pos rfl, if_pos (by rw [trT_len]; omega)]
    · rw [if_neg e, trT_get k c n bs i j (by omega) (by omega)]
theorem trB_len (k c n : Nat) (bs : List UInt8) : (trB k c n bs).length = bs.length := trT_len k c n bs _
theorem trB_get (k c n : Nat) {bs : List UInt8} {j : Nat} (h : j < bs.length) : (trB k c n bs)[j]? = some (UInt8.ofNat ((bs.getD j 0).toNat ^^^ ksB k c n j)) := trT_get k c n bs _ j h (Nat.le_refl _)
theorem xor_256 {x y : Nat} (hx : x < 256) (hy : y < 256) : x ^^^ y < 256 := Nat.xor_lt_two_pow (n := 8) hx hy
/-- Turned twice they are as they were. -/
theorem trB_twice (k c n : Nat) (bs : List UInt8) : trB k c n (trB k c n bs) = bs := by
  apply List.ext_getElem?
  intro j
  by_cases h : j < bs.length
  · rw [trB_get k c n (by rw [trB_len]; exact h), List.getElem?_eq_getElem h]
    have e : (trB k c n bs).getD j 0 = UInt8.ofNat ((bs.getD j 0).toNat ^^^ ksB k c n j) := by
      rw [List.getD_eq_getElem?_getD, trB_get k c n h]
      rfl
    have e2 : bs.getD j 0 = bs[j] := by rw [List.getD_eq_getElem?_getD, List.getElem?_eq_getElem h]; rfl
    have hx := (bs[j]).toNat_lt
    rw [e, e2, UInt8.toNat_ofNat', Nat.mod_eq_of_lt (xor_256 hx (ksB_lt _ _ _ _)), Nat.xor_assoc, Nat.xor_self, Nat.xor_zero]
    simp
  · rw [List.getElem?_eq_none (by rw [trB_len, trB_len]; omega), List.getElem?_eq_none (by omega)]
/-- The block's byte as it lies in memory. -/
theorem blkT_get (k c n : Nat) : ∀ m j, j < m → blkT k c n m / 256 ^ j % 256 = blkB k c n j
  | 0, j, h => absurd h (by omega)
  | m + 1, j, h => by
    rw [blkT]
    by_cases e : j = m
    · subst e
      rw [Nat.add_mul_div_left _ _ (Nat.pow_pos (by decide)), Nat.div_eq_of_lt (blkT_lt k c n j), Nat.zero_add, Nat.mod_eq_of_lt (blkB_lt k c n j)]
    · have e2 : 256 ^ m = 256 ^ j * (256 * 256 ^ (m - j - 1)) := by rw [← Nat.mul_assoc, ← Nat.pow_succ, ← Nat.pow_add, show j + 1 + (m - j - 1) = m by omega]
      rw [e2, Nat.mul_assoc, Nat.add_mul_div_left _ _ (Nat.pow_pos (by decide)), Nat.mul_assoc, Nat.add_mul_mod_self_left]
      exact blkT_get k c n m j (by omega)
end Go.Proofs.YtmlmggmnlgcbcaaGreat


namespace Go.Proofs.YtmlmggmnlgcbcaaGreat
open Go.RowKit
theorem make_u8c (n : Nat) (hn : n ≤ 100000) (w : World) : (Instr.makeSlice 26 (.int .i64 (n : Int)) (.int .i64 (n : Int))).run Tryz.prog w = .ok (.slice (some ⟨w.heap.size, 0, none⟩) n n) (w.alloc (.cells (u8s (List.replicate n 0)).toArray 5)) := by
  obtain ⟨i, hi, hz0, hz1, hz2⟩ := info_parts info_u8
  have h := run_makeSlice (P := Tryz.prog) w 26 5 i _ Tryz.underlying26 hi hz0 .i64 .i64 (n : Int) (n : Int) (by omega) (by omega) (by rw [hz1]; omega) (by rw [hz2]; omega) (by omega)
  rw [hz1, Int.toNat_natCast, Nat.mul_one] at h
  have e : madeCells (Value.int .u8 0).cells n = (u8s (List.replicate n 0)).toArray := by
    apply Array.ext
    · rw [size_madeCells]; simp [u8s]
    · intro j h1 h2
      simp [madeCells, u8s, Value.cells, Nat.mod_one]
  rw [e] at h
  exact h
theorem xor_u8c {a b : Nat} (ha : a < 256) (hb : b < 256) : bits .xor .u8 (a : Int) (b : Int) = ((a ^^^ b : Nat) : Int) := by
  have h8 : ∀ {a : Nat}, a < 256 → (BitVec.ofInt 8 (a : Int)).toNat = a := fun h => by
    rw [BitVec.ofInt_natCast, BitVec.toNat_ofNat]
    exact Nat.mod_eq_of_lt h
  show IntKind.u8.wrap ((BitVec.ofInt 8 (a : Int) ^^^ BitVec.ofInt 8 (b : Int)).toNat : Int) = _
  rw [BitVec.toNat_xor, h8 ha, h8 hb, u8_mod, Nat.mod_eq_of_lt (xor_256 ha hb)]
theorem tr_set {k c n i x y : Nat} {bs : List UInt8} (hx : (bs.getD i 0).toNat = x) (hk : ksB k c n i = y) (lx : x < 256) (ly : y < 256) :
    (u8s (trT k c n bs i)).set i (.int .u8 ((x ^^^ y : Nat) : Int)) = u8s (trT k c n bs (i + 1)) := by
  have e : ((x ^^^ y : Nat) : Int) = (((UInt8.ofNat (x ^^^ y)).toNat : Nat) : Int) := by rw [UInt8.toNat_ofNat', Nat.mod_eq_of_lt (xor_256 lx ly)]
  rw [e, trT, hx, hk]
  simp [u8s, List.map_set]
set_option maxHeartbeats 4000000 in
set_option maxRecDepth 100000 in
theorem cturn_any (k n c : Nat) (a : Option Addr) (cap : Nat) (bs : List UInt8) (hc : c < 4294967296) (hl : bs.length ≤ 100000) (w : World) (h : Sl w (.slice a bs.length cap) (u8s bs)) :
    Calls Tryz.prog 22 #[.agg (bytn 32 k).toArray, .int .i64 (c : Int), .agg (bytn 12 n).toArray, .slice a bs.length cap] w fun e w' =>
      ∃ g, e = .returned (.slice (some ⟨g, 0, none⟩) bs.length bs.length) ∧ w.heap.size ≤ g ∧ Arr w' g (u8s (trB k c n bs)) ∧ Below w.heap.size w w' := by
  have hmk := make_u8c bs.length hl
  have uc := u32_in hc
  have hs := Lib.hid h
  have hs1 := Lib.hid h
  clear h
  go_enter Tryz.func22, Tryz.ntmps22
  go_upto_region 1 with fail
  refine wp_new2 (fun W hsz k4 k6 kb => ?_)
  have k4 : Arr W w.heap.size (bytn 32 k) := k4
  have k6 : Arr W (w.heap.size + 1) (bytn 12 n) := k6
  have hs := Lib.hid (hs.out.below kb)
  clear hsz
  go_upto_region 2 with fail
  refine wp_new1 (fun w2 hsz k9 hb => ?_)
  replace k9 : Arr w2 W.heap.size (u8s (trT k c n bs 0)) := k9
  have h49 := k4.lt
  have h69 := k6.lt
  replace k4 := k4.below hb
  replace k6 := k6.below hb
  replace hs := Lib.hid (hs.out.below hb)
  replace kb := bel kb hb
  obtain ⟨g9, hg9⟩ : ∃ g, W.heap.size = g := ⟨_, rfl⟩
  rw [hg9] at k9 h49 h69 ⊢
  clear hb hsz hg9 hmk
  go_upto_region 3 with fail
  refine wp_new1 (fun w3 hsz k10 hb => ?_)
  replace k10 : Arr w3 w2.heap.size (bytn 64 0) := k10
  have h910 := k9.lt
  replace k4 := k4.below hb
  replace k6 := k6.below hb
  replace k9 := k9.below hb
  replace kb := bel kb hb
  obtain ⟨g10, hg10⟩ : ∃ g, w2.heap.size = g := ⟨_, rfl⟩
  rw [hg10] at k10 h910 ⊢
  clear hb hsz hg10
  obtain ⟨g4, hg4⟩ : ∃ g, w.heap.size = g := ⟨_, rfl⟩
  rw [hg4] at k4 k6 h49 h69 ⊢
  replace hg4 := Lib.hid hg4
  have hs0 := hs
  go_wp2_with fail
  go_loopw [21, 11] (fun iv cv wr => ∃ i X : Nat, i ≤ bs.length ∧ iv = .int .i64 i ∧ cv = .int .u32 (((c + (i + 63) / 64) % 4294967296 : Nat) : Int) ∧ Arr wr g4 (bytn 32 k) ∧ Arr wr (g4 + 1) (bytn 12 n) ∧ Arr wr g9 (u8s (trT k c n bs i)) ∧ Arr wr g10 (bytn 64 X) ∧ (i % 64 ≠ 0 → X = blkT k ((c + i / 64) % 4294967296) n 64) ∧ Below w.heap.size w wr) (fun iv _ _ => bs.length - (intOf iv).toNat)
  case atStart => exact ⟨0, 0, Nat.zero_le _, rfl, by rw [show (c + (0 + 63) / 64) % 4294967296 = c by omega], k4, k6, k9, k10, fun h => absurd rfl h, kb⟩
  case round =>
  clear k4 k6 k9 k10 kb
  obtain ⟨i, X, hi, rfl, rfl, k4, k6, k9, k10, hX, kb⟩ := hrel
  replace hX := Lib.hid hX
  have hi0 : (0 : Int) ≤ (i : Int) := by omega
  by_cases hin : i < bs.length
  · have hi1 : (i : Int) < (bs.length : Int) := by omega
    have hsr := Lib.hid (hs1.out.below kb)
    obtain ⟨b, o, rfl, -, -, -, hcl⟩ := hsr.out.at (by rw [u8s_len]; omega)
    have hcx := hcl i _ (u8s_get bs i hin)
    clear hcl
    obtain ⟨x, hx⟩ : ∃ x, (bs[i]).toNat = x := ⟨_, rfl⟩
    have lx : x < 256 := by rw [← hx]; exact (bs[i]).toNat_lt
    rw [hx] at hcx
    have hxd : Hid ((bs.getD i 0).toNat = x) := Lib.hid (by rw [← hx, List.getD_eq_getElem?_getD, List.getElem?_eq_getElem hin]; rfl)
    clear hx
    obtain ⟨d, hd⟩ : ∃ d, (c + (i + 63) / 64) % 4294967296 = d := ⟨_, rfl⟩
    have ld : d < 4294967296 := by omega
    rw [hd]
    obtain ⟨m, hm⟩ : ∃ m, i % 64 = m := ⟨_, rfl⟩
    have lm : m < 64 := by omega
    have ft : Int.tmod (i : Int) 64 = (m : Int) := by rw [Int.tmod_eq_emod_of_nonneg hi0]; omega
    have fm : IntKind.i64.wrap (m : Int) = (m : Int) := i64_in (by omega)
    have hm0 : (0 : Int) ≤ (m : Int) := by omega
    have hm1 : (m : Int) < 64 := by omega
    have dd : IntKind.i64.wrap (d : Int) = (d : Int) := i64_in (by omega)
    obtain ⟨ks, hks⟩ : ∃ ks, ksB k c n i = ks := ⟨_, rfl⟩
    by_cases hm64 : m = 0
    · subst hm64
      have ft0 : Int.tmod (i : Int) 64 = 0 := ft
      have fm0 : IntKind.i64.wrap 0 = 0 := by decide
      obtain ⟨d2, hd2⟩ : ∃ d2, (c + (i + 1 + 63) / 64) % 4294967296 = d2 := ⟨_, rfl⟩
      have fd : IntKind.u32.wrap ((d : Int) + 1) = (d2 : Int) := by
        rw [show ((d : Int) + 1) = ((d + 1 : Nat) : Int) by omega, u32_mod]
        omega
      have hdi : Hid (d = (c + i / 64) % 4294967296) := Lib.hid (by omega)
      have hXn : Hid (i + 1 ≤ i + 1 ∧ ((i + 1) % 64 ≠ 0 → blkT k d n 64 = blkT k ((c + (i + 1) / 64) % 4294967296) n 64)) := Lib.hid ⟨Nat.le_refl _, fun _ => by rw [hdi.out]; congr 3; omega⟩
      have hkb : Hid (blkT k d n 64 / 256 ^ 0 % 256 = ks) := Lib.hid (by rw [blkT_get k d n 64 0 (by decide), ← hks, ksB, hm, hdi.out])
      replace hd2 := Lib.hid hd2
      clear ft fm hd hm hX
      go_wp2_with (first | (refine wpList_load_arr2 rfl _ _ rfl _ rfl (by decide +kernel) _ k4 (by rw [bytn_len]; kernel_rfl) ?_) | (refine wpList_load_arr2 rfl _ _ rfl _ rfl (by decide +kernel) _ k6 (by rw [bytn_len]; kernel_rfl) ?_))
      refine (cblock_any k n d ld _).mono ?_
      rintro e w5 ⟨rfl, hb⟩
      replace k4 := k4.below hb
      replace k6 := k6.below hb
      replace k9 := k9.below hb
      replace k10 := k10.below hb
      replace kb := bel kb hb
      clear hb
      go_upto_region 9 with (refine wpl_storeG rfl _ _ _ rfl _ (bytn 64 (blkT k d n 64)) rfl rfl _ k10 (by rw [bytn_len]; kernel_rfl) (by rw [bytn_len, bytn_len]) (bytn_one _ _) (fun w6 k10 hg hsz => ?_))
      replace k4 := k4.kept hg (by omega)
      replace k6 := k6.kept hg (by omega)
      replace k9 := k9.kept hg (by omega)
      replace kb := below_gr kb hg (by rw [hg4.out]; omega) kb.size
      clear hg hsz
      have hce : w6.cell? ⟨g10, 0, none⟩ = some (.int .u8 (ks : Int)) := by
        have q := k10.cell (bytn_get 64 (blkT k d n 64) 0 (by decide))
        rw [hkb.out] at q
        exact q
      have lk : Hid (ks < 256) := Lib.hid (by rw [← hks]; exact ksB_lt _ _ _ _)
      have fx := xor_u8c lx lk.out
      have hset := Lib.hid (tr_set (bs := bs) hxd.out hks lx lk.out)
      have hlen := Lib.hid (show (u8s (trT k c n bs i)).length = bs.length by rw [u8s_len, trT_len])
      clear hks
      go_wp2_with (refine wpl_cellG rfl _ _ _ rfl g9 i (.int .u8 ((x ^^^ ks : Nat) : Int)) rfl rfl _ k9 (by kernel_rfl) (by rw [hlen.out]; exact hin) rfl (fun w7 k9 hg hsz => ?_))
      rw [hset.out] at k9
      have q4 := k4.kept hg (by omega)
      have q6 := k6.kept hg (by omega)
      have q10 := k10.kept hg (by omega)
      have qb := below_gr kb hg (by rw [hg4.out]; omega) kb.size
      go_wp2_with fail
      exact ⟨⟨i + 1, blkT k d n 64, by omega, by go_num, by rw [hd2.out], q4, q6, k9, q10, hXn.out.2, qb⟩, by simp [intOf]; omega⟩
    · have dm : ((m : Int) == 0) = false := by simp; omega
      have hkb : Hid (X / 256 ^ m % 256 = ks) := Lib.hid (by rw [hX.out (by omega), blkT_get k _ n 64 m lm, ← hks, ksB, hm])
      have hdn : Hid ((c + (i + 1 + 63) / 64) % 4294967296 = d) := Lib.hid (by omega)
      have hXn : Hid ((i + 1) % 64 ≠ 0 → X = blkT k ((c + (i + 1) / 64) % 4294967296) n 64) := Lib.hid (fun h => by rw [hX.out (by omega)]; congr 3; omega)
      have hce : wr.cell? ⟨g10, m, none⟩ = some (.int .u8 (ks : Int)) := by
        have q := k10.cell (bytn_get 64 X m lm)
        rw [hkb.out] at q
        exact q
      clear hd hm hX
      have lk : Hid (ks < 256) := Lib.hid (by rw [← hks]; exact ksB_lt _ _ _ _)
      have fx := xor_u8c lx lk.out
      have hset := Lib.hid (tr_set (bs := bs) hxd.out hks lx lk.out)
      have hlen := Lib.hid (show (u8s (trT k c n bs i)).length = bs.length by rw [u8s_len, trT_len])
      clear hks
      go_wp2_with (refine wpl_cellG rfl _ _ _ rfl g9 i (.int .u8 ((x ^^^ ks : Nat) : Int)) rfl rfl _ k9 (by kernel_rfl) (by rw [hlen.out]; exact hin) rfl (fun w7 k9 hg hsz => ?_))
      rw [hset.out] at k9
      have q4 := k4.kept hg (by omega)
      have q6 := k6.kept hg (by omega)
      have q10 := k10.kept hg (by omega)
      have qb := below_gr kb hg (by rw [hg4.out]; omega) kb.size
      go_wp2_with fail
      exact ⟨⟨i + 1, X, by omega, by go_num, by rw [hdn.out], q4, q6, k9, q10, hXn.out, qb⟩, by simp [intOf]; omega⟩
  · have dj : decide ((i : Int) < (bs.length : Int)) = false := decide_eq_false (by omega)
    have hie : Hid (i = bs.length) := Lib.hid (by omega)
    rw [hie.out] at k9
    go_wp2_with fail
    go_ret
    exact ⟨g9, rfl, by rw [hg4.out]; omega, k9, kb⟩
end Go.Proofs.YtmlmggmnlgcbcaaGreat


namespace Go.Proofs.YtmlmggmnlgcbcaaGreat
open Go.RowKit
def restN (n : Nat) : Nat := (16 - n % 16) % 16
set_option maxHeartbeats 1000000 in
set_option maxRecDepth 100000 in
theorem arest_any (n : Nat) (hn : n ≤ 1000000) (w : World) : Calls Tryz.prog 51 #[.int .i64 (n : Int)] w fun e w' =>
    ∃ g, e = .returned (.slice (some ⟨g, 0, none⟩) (restN n) (restN n)) ∧ w.heap.size ≤ g ∧ Arr w' g (u8s (List.replicate (restN n) 0)) ∧ Below w.heap.size w w' := by
  obtain ⟨p, hp⟩ : ∃ p, n % 16 = p := ⟨_, rfl⟩
  obtain ⟨q, hq⟩ : ∃ q, 16 - p = q := ⟨_, rfl⟩
  obtain ⟨m, hm⟩ : ∃ m, restN n = m := ⟨_, rfl⟩
  have hm2 : q % 16 = m := by rw [← hm, restN, hp, hq]
  have m1 : Int.tmod (n : Int) 16 = (p : Int) := by rw [Int.tmod_eq_emod_of_nonneg (by omega)]; omega
  have n1 : IntKind.i64.wrap (p : Int) = (p : Int) := i64_in (by omega)
  have e1 : (16 : Int) - (p : Int) = (q : Int) := by omega
  have n2 : IntKind.i64.wrap (q : Int) = (q : Int) := i64_in (by omega)
  have m2 : Int.tmod (q : Int) 16 = (m : Int) := by rw [Int.tmod_eq_emod_of_nonneg (by omega)]; omega
  have n3 : IntKind.i64.wrap (m : Int) = (m : Int) := i64_in (by omega)
  have hmk := make_u8c m (by omega)
  rw [hm]
  replace hp := Lib.hid hp
  replace hq := Lib.hid hq
  replace hm2 := Lib.hid hm2
  clear hm
  go_enter Tryz.func51, Tryz.ntmps51
  go_wp2_with fail
  go_ret
  exact ⟨w.heap.size, rfl, Nat.le_refl _, Arr.new _ _ _, below_alloc _ _⟩
set_option maxHeartbeats 4000000 in
set_option maxRecDepth 100000 in
theorem aeight_any (n : Nat) (hn : n ≤ 9223372036854775807) (w : World) : Calls Tryz.prog 52 #[.int .i64 (n : Int)] w fun e w' =>
    ∃ g, e = .returned (.slice (some ⟨g, 0, none⟩) 8 8) ∧ w.heap.size ≤ g ∧ Arr w' g (bytn 8 n) ∧ Below w.heap.size w w' := by
  have hmk := make_u8c 8 (by decide)
  replace hmk : ∀ w, (Instr.makeSlice 26 (.int .i64 8) (.int .i64 8)).run Tryz.prog w = .ok (.slice (some ⟨w.heap.size, 0, none⟩) 8 8) (w.alloc (.cells (u8s (List.replicate 8 0)).toArray 5)) := hmk
  go_enter Tryz.func52, Tryz.ntmps52
  go_upto_region 2 with fail
  refine wp_new1 (fun w2 hsz k3 kb => ?_)
  replace k3 : Arr w2 w.heap.size (bytn 8 (n % 256 ^ 0)) := by
    rw [Nat.pow_zero, Nat.mod_one]
    exact k3
  obtain ⟨g, hg⟩ : ∃ g, w.heap.size = g := ⟨_, rfl⟩
  rw [hg] at k3 ⊢
  replace hg := Lib.hid hg
  clear hsz hmk
  go_wp2_with fail
  go_loopw [8] (fun iv wr => ∃ i : Nat, i ≤ 8 ∧ iv = .int .i64 i ∧ Arr wr g (bytn 8 (n % 256 ^ i)) ∧ Below w.heap.size w wr) (fun iv _ => 8 - (intOf iv).toNat)
  case atStart => exact ⟨0, by omega, rfl, k3, kb⟩
  case round =>
  clear k3 kb
  obtain ⟨i, hi, rfl, k3, kb⟩ := hrel
  have hi0 : (0 : Int) ≤ (i : Int) := by omega
  by_cases hin : i < 8
  · have hi1 : (i : Int) < 8 := by omega
    have hi8 : i = 0 ∨ i = 1 ∨ i = 2 ∨ i = 3 ∨ i = 4 ∨ i = 5 ∨ i = 6 ∨ i = 7 := by omega
    obtain ⟨b, hb⟩ : ∃ b, n / 256 ^ i % 256 = b := ⟨_, rfl⟩
    have lb : b < 256 := by rw [← hb]; exact Nat.mod_lt _ (by decide)
    have hset : Hid ((bytn 8 (n % 256 ^ i)).set i (.int .u8 (b : Int)) = bytn 8 (n % 256 ^ (i + 1))) := Lib.hid (by
      rw [bytn_snoc (Nat.mod_lt _ (Nat.pow_pos (by decide))) lb, ← hb, Nat.pow_succ, Nat.mod_mul])
    rcases hi8 with he | he | he | he | he | he | he | he
    · have fe : 8 * (i : Int) = 0 := by omega
      have fb : IntKind.u8.wrap (n : Int) = (b : Int) := by
        rw [show (n : Int) = ((n / 1 : Nat) : Int) by omega, u8_mod, ← hb, he]
      replace he := Lib.hid he
      clear hb
      go_wp2_with (refine wpl_cellG rfl _ _ _ rfl g i (.int .u8 (b : Int)) rfl rfl _ k3 (by kernel_rfl) (by rw [bytn_len]; exact hin) rfl (fun w7 k3 hg2 hsz => ?_))
      rw [hset.out] at k3
      have qb := below_gr kb hg2 (by rw [hg.out]; exact Nat.le_refl _) kb.size
      go_wp2_with fail
      exact ⟨⟨i + 1, by omega, by go_num, k3, qb⟩, by simp [intOf]; omega⟩
    · have fe : 8 * (i : Int) = 8 := by omega
      have fb : IntKind.u8.wrap ((n : Int) / 256) = (b : Int) := by
        rw [show ((n : Int) / 256) = ((n / 256 : Nat) : Int) by omega, u8_mod, ← hb, he]
      replace he := Lib.hid he
      clear hb
      go_wp2_with (refine wpl_cellG rfl _ _ _ rfl g i (.int .u8 (b : Int)) rfl rfl _ k3 (by kernel_rfl) (by rw [bytn_len]; exact hin) rfl (fun w7 k3 hg2 hsz => ?_))
      rw [hset.out] at k3
      have qb := below_gr kb hg2 (by rw [hg.out]; exact Nat.le_refl _) kb.size
      go_wp2_with fail
      exact ⟨⟨i + 1, by omega, by go_num, k3, qb⟩, by simp [intOf]; omega⟩
    · have fe : 8 * (i : Int) = 16 := by omega
      have fb : IntKind.u8.wrap ((n : Int) / 65536) = (b : Int) := by
        rw [show ((n : Int) / 65536) = ((n / 65536 : Nat) : Int) by omega, u8_mod, ← hb, he]
      replace he := Lib.hid he
      clear hb
      go_wp2_with (refine wpl_cellG rfl _ _ _ rfl g i (.int .u8 (b : Int)) rfl rfl _ k3 (by kernel_rfl) (by rw [bytn_len]; exact hin) rfl (fun w7 k3 hg2 hsz => ?_))
      rw [hset.out] at k3
      have qb := below_gr kb hg2 (by rw [hg.out]; exact Nat.le_refl _) kb.size
      go_wp2_with fail
      exact ⟨⟨i + 1, by omega, by go_num, k3, qb⟩, by simp [intOf]; omega⟩
    · have fe : 8 * (i : Int) = 24 := by omega
      have fb : IntKind.u8.wrap ((n : Int) / 16777216) = (b : Int) := by
        rw [show ((n : Int) / 16777216) = ((n / 16777216 : Nat) : Int) by omega, u8_mod, ← hb, he]
      replace he := Lib.hid he
      clear hb
      go_wp2_with (refine wpl_cellG rfl _ _ _ rfl g i (.int .u8 (b : Int)) rfl rfl _ k3 (by kernel_rfl) (by rw [bytn_len]; exact hin) rfl (fun w7 k3 hg2 hsz => ?_))
      rw [hset.out] at k3
      have qb := below_gr kb hg2 (by rw [hg.out]; exact Nat.le_refl _) kb.size
      go_wp2_with fail
      exact ⟨⟨i + 1, by omega, by go_num, k3, qb⟩, by simp [intOf]; omega⟩
    · have fe : 8 * (i : Int) = 32 := by omega
      have fb : IntKind.u8.wrap ((n : Int) / 4294967296) = (b : Int) := by
        rw [show ((n : Int) / 4294967296) = ((n / 4294967296 : Nat) : Int) by omega, u8_mod, ← hb, he]
      replace he := Lib.hid he
      clear hb
      go_wp2_with (refine wpl_cellG rfl _ _ _ rfl g i (.int .u8 (b : Int)) rfl rfl _ k3 (by kernel_rfl) (by rw [bytn_len]; exact hin) rfl (fun w7 k3 hg2 hsz => ?_))
      rw [hset.out] at k3
      have qb := below_gr kb hg2 (by rw [hg.out]; exact Nat.le_refl _) kb.size
      go_wp2_with fail
      exact ⟨⟨i + 1, by omega, by go_num, k3, qb⟩, by simp [intOf]; omega⟩
    · have fe : 8 * (i : Int) = 40 := by omega
      have fb : IntKind.u8.wrap ((n : Int) / 1099511627776) = (b : Int) := by
        rw [show ((n : Int) / 1099511627776) = ((n / 1099511627776 : Nat) : Int) by omega, u8_mod, ← hb, he]
      replace he := Lib.hid he
      clear hb
      go_wp2_with (refine wpl_cellG rfl _ _ _ rfl g i (.int .u8 (b : Int)) rfl rfl _ k3 (by kernel_rfl) (by rw [bytn_len]; exact hin) rfl (fun w7 k3 hg2 hsz => ?_))
      rw [hset.out] at k3
      have qb := below_gr kb hg2 (by rw [hg.out]; exact Nat.le_refl _) kb.size
      go_wp2_with fail
      exact ⟨⟨i + 1, by omega, by go_num, k3, qb⟩, by simp [intOf]; omega⟩
    · have fe : 8 * (i : Int) = 48 := by omega
      have fb : IntKind.u8.wrap ((n : Int) / 281474976710656) = (b : Int) := by
        rw [show ((n : Int) / 281474976710656) = ((n / 281474976710656 : Nat) : Int) by omega, u8_mod, ← hb, he]
      replace he := Lib.hid he
      clear hb
      go_wp2_with (refine wpl_cellG rfl _ _ _ rfl g i (.int .u8 (b : Int)) rfl rfl _ k3 (by kernel_rfl) (by rw [bytn_len]; exact hin) rfl (fun w7 k3 hg2 hsz => ?_))
      rw [hset.out] at k3
      have qb := below_gr kb hg2 (by rw [hg.out]; exact Nat.le_refl _) kb.size
      go_wp2_with fail
      exact ⟨⟨i + 1, by omega, by go_num, k3, qb⟩, by simp [intOf]; omega⟩
    · have fe : 8 * (i : Int) = 56 := by omega
      have fb : IntKind.u8.wrap ((n : Int) / 72057594037927936) = (b : Int) := by
        rw [show ((n : Int) / 72057594037927936) = ((n / 72057594037927936 : Nat) : Int) by omega, u8_mod, ← hb, he]
      replace he := Lib.hid he
      clear hb
      go_wp2_with (refine wpl_cellG rfl _ _ _ rfl g i (.int .u8 (b : Int)) rfl rfl _ k3 (by kernel_rfl) (by rw [bytn_len]; exact hin) rfl (fun w7 k3 hg2 hsz => ?_))
      rw [hset.out] at k3
      have qb := below_gr kb hg2 (by rw [hg.out]; exact Nat.le_refl _) kb.size
      go_wp2_with fail
      exact ⟨⟨i + 1, by omega, by go_num, k3, qb⟩, by simp [intOf]; omega⟩
  · have dj : decide ((i : Int) < 8) = false := decide_eq_false (by omega)
    have hie : Hid (i = 8) := Lib.hid (by omega)
    rw [hie.out] at k3
    go_wp2_with fail
    go_ret
    refine ⟨g, rfl, by rw [hg.out]; exact Nat.le_refl _, ?_, kb⟩
    have e : bytn 8 (n % 256 ^ 8) = bytn 8 n := by rw [Nat.mod_eq_of_lt (by omega)]
    rw [e] at k3
    exact k3
end Go.Proofs.YtmlmggmnlgcbcaaGreat


namespace Go.Proofs.YtmlmggmnlgcbcaaGreat
open Go.RowKit
/-- A row of one's own, as a fact that is carried along. -/
def Ow (w : World) (B : Nat) (e : TypeId) (v : Value) (n : Nat) (xs : List Value) : Prop := w.ownsRow B e 1 v n xs
theorem Ow.below {w w' : World} {B : Nat} {e : TypeId} {v : Value} {n : Nat} {xs : List Value} (h : Ow w B e v n xs) (hb : Below w.heap.size w w') : Ow w' B e v n xs := own_below h hb
theorem Ow.grown {w w' : World} {B g : Nat} {e : TypeId} {v : Value} {n : Nat} {xs : List Value} (h : Ow w B e v n xs) (hg : w.grownBy w' (some g)) (hb : g < B) : Ow w' B e v n xs := own_keptN h hg (fun q => by have := (World.ownsRow.lt h g q).1; omega)
section
variable {P : Program} {Q : Exit → Act → World → Prop}
/-- A block that has just been made is forgotten but for what is said of it. -/
theorem Tx.newF {l : List Oper} {S : World → Prop} {B f d : Nat} {a : Act} {w w0 : World} {o : Obj} {F : World → Prop} (hF : F (w0.alloc o)) (hd : ∀ w, F w → F w.drew) (hw : w = w0.alloc o ∨ w = (w0.alloc o).drew)
    (h : ∀ w', F w' → Below w0.heap.size w0 w' → Tx P l Q S B f d a w') : Tx P l Q S B f d a w := by
  rcases hw with rfl | rfl
  · exact h _ hF (below_alloc _ _)
  · exact h _ (hd _ hF) (below_alloc _ _).drew
end
end Go.Proofs.YtmlmggmnlgcbcaaGreat

