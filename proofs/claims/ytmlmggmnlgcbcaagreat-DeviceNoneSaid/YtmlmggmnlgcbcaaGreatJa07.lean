import Derived.Test.YtmlmggmnlgcbcaaGreatJa06
import Derived.Test.YtmlmggmnlgcbcaaGreatJa03
import Derived.Laws.MakeOwn

namespace Go.Proofs.YtmlmggmnlgcbcaaGreat
open Go.RowKit
/-- What is put behind a message: 128, noughts, its length in bits. -/
def shZa (n : Nat) : Nat := (119 - n % 64) % 64
def shXa (L : List UInt8) : List UInt8 := L ++ [128] ++ List.replicate (shZa L.length) 0
def shMa (L : List UInt8) : List UInt8 := shXa L ++ be8 (8 * L.length : Int)
/-- The bytes of a state's words, so many of them, as a number. -/
def shBa (h : List Nat) (i : Nat) : Nat := h.getD (i / 4) 0 / 2 ^ (24 - 8 * (i % 4)) % 256
def shOa (h : List Nat) : Nat → Nat
  | 0 => 0
  | i + 1 => shOa h i + 256 ^ i * shBa h i
theorem shOa_lt (h : List Nat) : ∀ i, shOa h i < 256 ^ i
  | 0 => by rw [shOa]; decide
  | i + 1 => by
    have h1 := shOa_lt h i
    have h2 : shBa h i < 256 := Nat.mod_lt _ (by decide)
    have h3 : 256 ^ i * shBa h i ≤ 256 ^ i * 255 := Nat.mul_le_mul_left _ (by omega)
    rw [shOa, Nat.pow_succ]
    omega
/-- SHA-2 of a list, as a number whose lowest byte comes first. -/
def shaa (L : List UInt8) : Nat := shOa (shHa (shMa L) ((shMa L).length / 64)) 32
set_option maxHeartbeats 4000000 in
set_option maxRecDepth 100000 in
theorem shsuma_any (d : Option Addr) (cap : Nat) (ls : List (List UInt8)) (w : World) (hs : Sls w (.slice d ls.length cap) ls) :
    Calls Tryz.prog 148 #[.slice d ls.length cap] w fun e w' => e = .returned (.agg (bytn 32 (shaa ls.flatten)).toArray) ∧ Below w.heap.size w w' := by
  have hlen := hs.len
  obtain ⟨-, hlc, hcm⟩ := hlen
  unfold maxLen at hcm
  obtain ⟨X, hX⟩ : ∃ X, Ending.returned (.agg (bytn 32 (shaa ls.flatten)).toArray) = X := ⟨_, rfl⟩
  rw [hX]
  replace hX := Lib.hid hX
  replace hs := Lib.hid hs
  go_enter Tryz.func148, Tryz.ntmps148
  go_upto_region 1 with fail
  refine wp_new1 (fun W hsz k2 kb => ?_)
  replace k2 : Arr W w.heap.size (bytn 32 0) := k2
  clear hsz
  go_wp2_with fail
  refine (begina_any _).mono ?_
  rintro e w1 ⟨g, rfl, hg, k0, hb⟩
  have k0 := SSta.start k0
  have lt2 := k2.lt
  replace k2 := k2.below hb
  replace kb := bel kb hb
  obtain ⟨g2, hg2⟩ : ∃ g2, w.heap.size = g2 := ⟨_, rfl⟩
  rw [hg2] at k2 lt2 ⊢
  have h2g : g2 < g := by omega
  have hw2 : w.heap.size ≤ g2 := by omega
  clear hb hg lt2 hg2
  have ib : (ls.length : Int) ≤ 9223372036854775807 := by omega
  go_wp2_with fail
  go_loopw [14] (fun iv wr => ∃ i : Nat, i ≤ ls.length ∧ iv = .int .i64 i ∧ Arr wr g2 (bytn 32 0) ∧ SSta wr g ((ls.take i).flatten.length % 18446744073709551616) (ls.take i).flatten ∧ Below w.heap.size w wr) (fun iv _ => ls.length - (intOf iv).toNat)
  case atStart => exact ⟨0, Nat.zero_le _, rfl, k2, k0, kb⟩
  case round =>
    clear k2 k0 kb
    obtain ⟨i, hi, rfl, k2, k0, kb⟩ := hrel
    by_cases hlt : i < ls.length
    · obtain ⟨b, o, x, c, rfl, hcel0, hsl⟩ := hs.out.at hlt
      have hcel : wr.cell? ⟨b, o + i, none⟩ = some (.slice x ls[i].length c) := by rw [kb.cell (World.block_lt_of_cell? w _ hcel0)]; exact hcel0
      have hsucc := flat_take_succ hlt
      obtain ⟨l, hl⟩ : ∃ l, ls[i] = l := ⟨_, rfl⟩
      rw [hl] at hsucc hcel hsl
      obtain ⟨pre, hpre⟩ : ∃ pre, (ls.take i).flatten = pre := ⟨_, rfl⟩
      rw [hpre] at k0 hsucc
      have hll := hsl.len
      rw [u8s_len] at hll
      obtain ⟨-, hlc2, hcm2⟩ := hll
      unfold maxLen at hcm2
      clear hpre hl hcel0
      replace hsucc := Lib.hid hsucc
      replace hsl := Lib.hid hsl
      have ilt : (i : Int) < (ls.length : Int) := by omega
      obtain ⟨lg, hlg⟩ : ∃ lg, pre.length % 18446744073709551616 = lg := ⟨_, rfl⟩
      rw [hlg] at k0
      have lgl : lg < 18446744073709551616 := by omega
      have hlg2 : Hid ((pre ++ l).length % 18446744073709551616 = (lg + l.length) % 18446744073709551616) := Lib.hid (by rw [List.length_append]; omega)
      clear hlg
      go_wp2_with fail
      clear hcel
      go_loopw [20] (fun jv wr => ∃ j : Nat, j ≤ l.length ∧ jv = .int .i64 j ∧ Arr wr g2 (bytn 32 0) ∧ SSta wr g lg (pre ++ l.take j) ∧ Below w.heap.size w wr) (fun jv _ => l.length - (intOf jv).toNat)
      case atStart => exact ⟨0, Nat.zero_le _, rfl, k2, by rw [List.take_zero, List.append_nil]; exact k0, kb⟩
      case round =>
        clear k2 k0 kb
        obtain ⟨j, hj, rfl, k2, k0, kb⟩ := hrel
        by_cases hltj : j < l.length
        · obtain ⟨b2, o2, rfl, -, -, -, hcc⟩ := hsl.out.at (by rw [u8s_len]; omega)
          have hcel := hcc j _ (u8s_get l j hltj)
          have hcel2 : wr.cell? ⟨b2, o2 + j, none⟩ = some (.int .u8 (l[j].toNat : Int)) := by rw [kb.cell (World.block_lt_of_cell? w _ hcel)]; exact hcel
          have hts : pre ++ l.take (j + 1) = pre ++ l.take j ++ [l[j]] := by rw [List.take_succ_eq_append_getElem hltj, List.append_assoc]
          have hyl : l[j].toNat < 256 := l[j].toNat_lt
          have c3 := Lib.hid (takea_st g lg (pre ++ l.take j) l[j] wr k0)
          generalize l[j] = y at *
          rw [← hts] at c3
          clear hcc hcel hts
          have jlt : (j : Int) < (l.length : Int) := by omega
          go_wp2_with fail
          clear hcel2
          refine c3.out.mono ?_
          rintro e w4 ⟨rfl, k0', hg⟩
          have k2 := k2.kept hg (by omega)
          have kb := below_gr kb hg (by omega) kb.size
          clear c3 hg k0
          go_wp2_with fail
          exact ⟨⟨j + 1, by omega, by go_num, k2, k0', kb⟩, by simp [intOf]; omega⟩
        · obtain rfl : j = l.length := by omega
          rw [List.take_of_length_le (Nat.le_refl _), ← hsucc.out] at k0
          obtain ⟨lg2, hl2⟩ : ∃ n, (lg + l.length) % 18446744073709551616 = n := ⟨_, rfl⟩
          have fl : IntKind.u64.wrap ((lg : Int) + (l.length : Int)) = (lg2 : Int) := by rw [wrap_u64_mod]; omega
          have hl3 : Hid (((ls.take (i + 1)).flatten).length % 18446744073709551616 = lg2) := Lib.hid (by rw [hsucc.out, hlg2.out, hl2])
          have ll0 : (0 : Int) ≤ (l.length : Int) := by omega
          have ll1 : (l.length : Int) ≤ 9223372036854775807 := by omega
          have fu : IntKind.u64.wrap (l.length : Int) = (l.length : Int) := by rw [wrap_u64_mod]; omega
          obtain ⟨hce, hfr⟩ := k0.l
          clear hl2
          go_wp2_with fail
          replace k2 := k2.other (a := ⟨g, 137, none⟩) (by simp; omega) (.int .u64 (lg2 : Int))
          replace k0 := k0.set (m := lg2)
          exact ⟨⟨i + 1, by omega, by go_num, k2, by rw [hl3.out]; exact k0, kb.setCell (by simp; omega) _⟩, by simp [intOf]; omega⟩
    · obtain rfl : i = ls.length := by omega
      rw [List.take_of_length_le (Nat.le_refl _)] at k0
      obtain ⟨L, hL⟩ : ∃ L, ls.flatten = L := ⟨_, rfl⟩
      have hX2 := hX.out
      rw [hL] at hX2 k0
      replace hX := Lib.hid hX2
      obtain ⟨N, hN⟩ : ∃ N, L.length = N := ⟨_, rfl⟩
      obtain ⟨lg, hlg⟩ : ∃ lg, N % 18446744073709551616 = lg := ⟨_, rfl⟩
      rw [hN, hlg] at k0
      have c1 : Hid (Calls Tryz.prog 173 #[.pointer (some ⟨g, 0, none⟩), .int .u8 128] wr fun e w' => e = .returned (.tuple #[]) ∧ SSta w' g lg (L ++ [128]) ∧ wr.grownBy w' (some g)) := Lib.hid (takea_st g lg L 128 wr k0)
      have c2 : Hid (∀ wr M, SSta wr g lg M → Calls Tryz.prog 173 #[.pointer (some ⟨g, 0, none⟩), .int .u8 0] wr fun e w' => e = .returned (.tuple #[]) ∧ SSta w' g lg (M ++ [0]) ∧ wr.grownBy w' (some g)) := Lib.hid (fun wr M k => takea_st g lg M 0 wr k)
      replace hN := Lib.hid hN
      have hlg2 := Lib.hid hlg
      clear hL hX2 hs hlg
      go_wp2_with fail
      refine c1.out.mono ?_
      rintro e w4 ⟨rfl, k0', hg⟩
      replace k2 := k2.kept hg (by omega)
      replace kb := below_gr kb hg (by omega) kb.size
      replace k0 : SSta w4 g lg (L ++ [128] ++ List.replicate 0 0) := by rw [List.replicate_zero, List.append_nil]; exact k0'
      clear c1 hg k0'
      go_wp2_with fail
      go_loopw [44] (fun _ wr => ∃ z : Nat, z ≤ shZa N ∧ Arr wr g2 (bytn 32 0) ∧ SSta wr g lg (L ++ [128] ++ List.replicate z 0) ∧ Below w.heap.size w wr) (fun _ wr => ((56 + 64 - (intOf ((wr.cell? ⟨g, 136, none⟩).getD undef)).toNat) % 64))
      case atStart => exact ⟨0, Nat.zero_le _, k2, k0, kb⟩
      case round =>
      clear k2 k0 kb
      obtain ⟨z, hz, k2, k0, kb⟩ := hrel
      have hce := k0.n
      obtain ⟨m, hm⟩ : ∃ m, (L ++ [128] ++ List.replicate z 0).length % 64 = m := ⟨_, rfl⟩
      rw [hm] at hce
      have hm2 : m = (N + 1 + z) % 64 := by
        rw [← hm, ← hN.out]
        simp
        omega
      have hzz : shZa N = (119 - N % 64) % 64 := rfl
      by_cases hmn : m = 56
      · have dn : ((m : Int) != 56) = false := by rw [hmn]; rfl
        have hze : Hid (z = shZa N) := Lib.hid (by rw [hzz] at hz ⊢; omega)
        rw [hze.out] at k0
        have hXe : Hid (L ++ [128] ++ List.replicate (shZa N) 0 = shXa L) := Lib.hid (by rw [← hN.out]; rfl)
        clear hm hm2 hzz hz hze hmn
        rw [hXe.out] at k0
        clear c2
        obtain ⟨P, hP⟩ : ∃ P, shXa L = P := ⟨_, rfl⟩
        rw [hP] at k0
        replace hP := Lib.hid hP
        clear hXe
        have hn8 : Hid (IntKind.u64.wrap ((lg : Int) * 8) = IntKind.u64.wrap (8 * L.length : Int)) := Lib.hid (by rw [wrap_u64_mod, wrap_u64_mod, ← hlg2.out, ← hN.out]; omega)
        obtain ⟨E, hE⟩ : ∃ E, be8 (8 * L.length : Int) = E := ⟨_, rfl⟩
        have hat : Hid (∀ k, k < 8 → ∃ c : UInt8, E.take (k + 1) = E.take k ++ [c] ∧ IntKind.u64.wrap ((lg : Int) * 8) / 2 ^ (8 * (7 - k)) % 256 = (c.toNat : Int)) := Lib.hid (fun k hk => by rw [hn8.out, ← hE]; exact be8_at _ k hk)
        have hEl : Hid (E.length = 8) := Lib.hid (by rw [← hE, be8_len])
        replace hE := Lib.hid hE
        clear hn8
        go_wp2_with fail
        clear dn hce
        go_loopw [8] (fun kv wr => ∃ k : Nat, k ≤ 8 ∧ kv = .int .i64 (7 - (k : Int)) ∧ Arr wr g2 (bytn 32 0) ∧ SSta wr g lg (P ++ E.take k) ∧ Below w.heap.size w wr) (fun kv _ => (intOf kv + 1).toNat)
        case atStart => exact ⟨0, Nat.zero_le _, rfl, k2, by rw [List.take_zero, List.append_nil]; exact k0, kb⟩
        case round =>
        clear k2 k0 kb
        obtain ⟨k, hk, rfl, k2, k0, kb⟩ := hrel
        by_cases hkn : k < 8
        · obtain ⟨c, hc1, hc2⟩ := hat.out k hkn
          have c3 := Lib.hid (takea_st g lg (P ++ E.take k) c wr k0)
          have hes : P ++ E.take (k + 1) = P ++ E.take k ++ [c] := by rw [hc1, List.append_assoc]
          rw [← hes] at c3
          obtain ⟨q, hq⟩ : ∃ q, 7 - k = q := ⟨_, rfl⟩
          have hq7 : 7 - (k : Int) = (q : Int) := by omega
          have hq0 : (0 : Int) ≤ (q : Int) := by omega
          have hq1 : (q : Int) ≤ 7 := by omega
          obtain ⟨s, hs⟩ : ∃ s, 8 * q = s := ⟨_, rfl⟩
          have hs8 : 8 * (q : Int) = (s : Int) := by omega
          have hs0 : (0 : Int) ≤ (s : Int) := by omega
          have hs1 : (s : Int) < 64 := by omega
          rw [hq, hs] at hc2
          obtain ⟨y, hy⟩ : ∃ y, c.toNat = y := ⟨_, rfl⟩
          rw [hy] at hc2 c3
          have ly : y < 256 := by rw [← hy]; exact c.toNat_lt
          obtain ⟨hce, -⟩ := k0.l
          clear hc1 hes hy
          replace hq := Lib.hid hq
          replace hs := Lib.hid hs
          go_wp2_with fail
          refine c3.out.mono ?_
          rintro e w5 ⟨rfl, k0', hg⟩
          replace k2 := k2.kept hg (by omega)
          replace kb := below_gr kb hg (by omega) kb.size
          clear c3 hg k0 hc2 hce
          go_wp2_with fail
          exact ⟨⟨k + 1, by omega, by congr 1; omega, k2, k0', kb⟩, by simp [intOf]; omega⟩
        · have hk8 : Hid (k = 8) := Lib.hid (by omega)
          have hM : Hid (P ++ E.take 8 = shMa L) := Lib.hid (by rw [List.take_of_length_le (by rw [hEl.out]; exact Nat.le_refl _), ← hP.out, ← hE.out]; rfl)
          rw [hk8.out, hM.out] at k0
          have dk : decide ((0 : Int) ≤ 7 - (k : Int)) = false := decide_eq_false (by omega)
          have dk2 : ¬ (0 : Int) ≤ 7 - (k : Int) := by omega
          obtain ⟨kc, hkc⟩ : ∃ kc, 7 - (k : Int) = kc := ⟨_, rfl⟩
          rw [hkc] at dk dk2 ⊢
          clear hkc hk hkn hat hM hEl
          obtain ⟨h, hh⟩ : ∃ h, shHa (shMa L) ((shMa L).length / 64) = h := ⟨_, rfl⟩
          have ok := shHa_ok (shMa L) ((shMa L).length / 64)
          obtain ⟨bs, -, -, k0⟩ := k0
          rw [hh] at k0 ok
          have hX2 := hX.out
          rw [shaa, hh] at hX2
          replace hX := Lib.hid hX2
          obtain ⟨nn, hnn⟩ : ∃ nn, (shMa L).length % 64 = nn := ⟨_, rfl⟩
          rw [hnn] at k0
          replace ok := Lib.hid ok
          clear hnn hh hX2
          go_upto_region 20 with fail
          refine wp_new1 (fun w8 hsz k9 hb8 => ?_)
          replace k9 : Arr w8 wr.heap.size (bytn 32 (shOa h 0)) := by rw [shOa]; exact k9
          have h09 := k0.lt
          replace k0 := k0.below hb8
          replace k2 := k2.below hb8
          replace kb := bel kb hb8
          obtain ⟨g9, hg9⟩ : ∃ g, wr.heap.size = g := ⟨_, rfl⟩
          rw [hg9] at k9 h09 ⊢
          clear hb8 hsz hg9 dk dk2
          go_wp2_with fail
          go_loopw [63] (fun iv wr => ∃ i : Nat, i ≤ 32 ∧ iv = .int .i64 i ∧ Arr wr g2 (bytn 32 0) ∧ Arr wr g (stva h bs nn lg) ∧ Arr wr g9 (bytn 32 (shOa h i)) ∧ Below w.heap.size w wr) (fun iv _ => 32 - (intOf iv).toNat)
          case atStart => exact ⟨0, Nat.zero_le _, rfl, k2, k0, k9, kb⟩
          case round =>
          clear k2 k0 k9 kb
          obtain ⟨i, hi, rfl, k2, k0, k9, kb⟩ := hrel
          have hi0 : (0 : Int) ≤ (i : Int) := by omega
          by_cases hin : i < 32
          · have hi1 : (i : Int) < 32 := by omega
            obtain ⟨q, hq⟩ : ∃ q, i / 4 = q := ⟨_, rfl⟩
            have hq8 : q < 8 := by omega
            have cq := stva_hj (bs := bs) (n := nn) (lg := lg) ok.out.1 hq8
            have cq := k0.cell cq
            have fq : (i : Int) / 4 = (q : Int) := by omega
            have hq0 : (0 : Int) ≤ (q : Int) := by omega
            have hq1 : (q : Int) < 8 := by omega
            have fw : IntKind.i64.wrap (q : Int) = (q : Int) := i64_in (by omega)
            obtain ⟨r, hr⟩ : ∃ r, i % 4 = r := ⟨_, rfl⟩
            have fr : (i : Int) % 4 = (r : Int) := by omega
            have fr2 : Int.tmod (i : Int) 4 = (r : Int) := by rw [Int.tmod_eq_emod_of_nonneg hi0]; omega
            have hr0 : (0 : Int) ≤ (r : Int) := by omega
            have hr1 : (r : Int) < 4 := by omega
            obtain ⟨s, hs⟩ : ∃ s, 24 - 8 * r = s := ⟨_, rfl⟩
            have f8 : IntKind.i64.wrap (8 * (r : Int)) = 8 * (r : Int) := i64_in (by omega)
            have fs : IntKind.i64.wrap (24 - 8 * (r : Int)) = (s : Int) := by rw [i64_in (by omega)]; omega
            have fs2 : 24 - 8 * (r : Int) = (s : Int) := by omega
            have hs0 : (0 : Int) ≤ (s : Int) := by omega
            have hs1 : (s : Int) < 32 := by omega
            obtain ⟨x, hx⟩ : ∃ x, h.getD q 0 = x := ⟨_, rfl⟩
            rw [hx] at cq
            have hB : Hid (shBa h i = x / 2 ^ s % 256) := Lib.hid (by rw [shBa, hq, hr, hs, hx])
            have hset : Hid ((bytn 32 (shOa h i)).set i (.int .u8 ((x / 2 ^ s % 256 : Nat) : Int)) = bytn 32 (shOa h (i + 1))) := Lib.hid (by rw [bytn_snoc (shOa_lt h i) (Nat.mod_lt _ (by decide)), shOa, hB.out])
            have hlen9 : Hid ((bytn 32 (shOa h i)).length = 32) := Lib.hid (bytn_len _ _)
            have c9 := k9.cell (bytn_get 32 (shOa h i) i hin)
            have z9 := k9.frozen i
            generalize shOa h i / 256 ^ i % 256 = y at c9
            replace hq := Lib.hid hq
            replace hr := Lib.hid hr
            replace hs := Lib.hid hs
            clear hx hB
            go_wp2_with fail
            have e8 : ((x / 2 ^ s % 256 : Nat) : Int) = (x : Int) / 2 ^ s % 256 := by simp
            rw [← e8]
            replace k2 := k2.other (a := ⟨g9, i, none⟩) (by simp; omega) (.int .u8 ((x / 2 ^ s % 256 : Nat) : Int))
            replace k0 := k0.other (a := ⟨g9, i, none⟩) (by simp; omega) (.int .u8 ((x / 2 ^ s % 256 : Nat) : Int))
            replace k9 := k9.set i (.int .u8 ((x / 2 ^ s % 256 : Nat) : Int))
            rw [hset.out] at k9
            exact ⟨⟨i + 1, by omega, by go_num, k2, k0, k9, kb.setCell (by simp; omega) _⟩, by simp [intOf]; omega⟩
          · have dj : decide ((i : Int) < 32) = false := decide_eq_false (by omega)
            have hie : Hid (i = 32) := Lib.hid (by omega)
            rw [hie.out] at k9
            go_wp2_with (first | (refine wpList_load_arr2 rfl _ _ rfl _ rfl (by decide +kernel) _ k9 (by rw [bytn_len]; kernel_rfl) ?_) | (refine wpl_storeG rfl _ _ _ rfl _ (bytn 32 (shOa h 32)) rfl rfl _ k2 (by rw [bytn_len]; kernel_rfl) (by rw [bytn_len, bytn_len]) (bytn_one _ _) (fun w9 k2 hg hsz => ?_)))
            have qb := below_gr kb hg (by omega) kb.size
            exact bodyPost_ret (results_arr2 Tryz.results148 _ _ _ rfl (by kernel_rfl) _ k2 (by rw [bytn_len]; kernel_rfl)) rfl ⟨hX.out, qb⟩
      · have dn : ((m : Int) == 56) = false := by simp; omega
        have hz2 : z + 1 ≤ shZa N := by rw [hzz] at hz ⊢; omega
        have c3 := Lib.hid (c2.out wr _ k0)
        have hes : L ++ [128] ++ List.replicate z 0 ++ [0] = L ++ [128] ++ List.replicate (z + 1) 0 := by rw [List.replicate_succ', List.append_assoc]
        rw [hes] at c3
        clear hes hm hzz
        replace hm2 := Lib.hid hm2
        have hmne : (m : Int) ≠ 56 := by omega
        go_wp2_with fail
        refine c3.out.mono ?_
        rintro e w5 ⟨rfl, k0', hg⟩
        replace k2 := k2.kept hg (by omega)
        replace kb := below_gr kb hg (by omega) kb.size
        clear c3 hg k0
        have hce2 := k0'.n
        obtain ⟨m', hm'⟩ : ∃ m, (L ++ [128] ++ List.replicate (z + 1) 0).length % 64 = m := ⟨_, rfl⟩
        rw [hm'] at hce2
        have hm3 : m' = (m + 1) % 64 := by
          rw [← hm', hm2.out, ← hN.out]
          simp
          omega
        have hml : m < 64 := by rw [hm2.out]; exact Nat.mod_lt _ (by decide)
        replace hce := Lib.hid hce
        replace hce2 := Lib.hid hce2
        clear hm'
        replace hm3 := Lib.hid hm3
        go_wp2_with fail
        refine ⟨⟨z + 1, hz2, k2, k0', kb⟩, ?_⟩
        rw [hce.out, hce2.out]
        simp only [Option.getD_some, intOf, Int.toNat_natCast]
        have := hm3.out
        omega
end Go.Proofs.YtmlmggmnlgcbcaaGreat


namespace Go.Proofs.YtmlmggmnlgcbcaaGreat
open Go.RowKit
theorem xor_256 {x y : Nat} (hx : x < 256) (hy : y < 256) : x ^^^ y < 256 := Nat.xor_lt_two_pow (n := 8) hx hy
end Go.Proofs.YtmlmggmnlgcbcaaGreat


namespace Go.Proofs.YtmlmggmnlgcbcaaGreat
open Go.RowKit
theorem make_u8c (n : Nat) (hn : n ≤ 100000) (w : World) : (Instr.makeSlice 26 (.int .i64 (n : Int)) (.int .i64 (n : Int))).run Tryz.prog w = .ok (.slice (some ⟨w.heap.size, 0, none⟩) n n) (w.alloc (.cells (u8s (List.replicate n 0)).toArray 5)) := by
  obtain ⟨i, hi, hz0, hz1, hz2⟩ := info_parts info_u8
  have h := run_makeSlice (P := Tryz.prog) w 26 5 i _ Tryz.underlying26 hi hz0 .i64 .i64 (n : Int) (n : Int) (by omega) (by omega) (by rw [hz1]; omega) (by rw [hz2]; omega) (by omega)
  rw [hz1, Int.toNat_natCast, Nat.mul_one] at h
  have e : madeCells (Value.int .u8 0).cells n = (u8s (List.replicate n 0)).toArray := by
    apply Array.ext
    · rw [size_madeCells]; simp [u8s]
    · intro j h1 h2
      simp [madeCells, u8s, Value.cells, Nat.mod_one]
  rw [e] at h
  exact h
theorem xor_u8c {a b : Nat} (ha : a < 256) (hb : b < 256) : bits .xor .u8 (a : Int) (b : Int) = ((a ^^^ b : Nat) : Int) := by
  have h8 : ∀ {a : Nat}, a < 256 → (BitVec.ofInt 8 (a : Int)).toNat = a := fun h => by
    rw [BitVec.ofInt_natCast, BitVec.toNat_ofNat]
    exact Nat.mod_eq_of_lt h
  show IntKind.u8.wrap ((BitVec.ofInt 8 (a : Int) ^^^ BitVec.ofInt 8 (b : Int)).toNat : Int) = _
  rw [BitVec.toNat_xor, h8 ha, h8 hb, u8_mod, Nat.mod_eq_of_lt (xor_256 ha hb)]
end Go.Proofs.YtmlmggmnlgcbcaaGreat


namespace Go.Proofs.YtmlmggmnlgcbcaaGreat
open Go.RowKit
/-- A row of one's own, as a fact that is carried along. -/
def Ow (w : World) (B : Nat) (e : TypeId) (v : Value) (n : Nat) (xs : List Value) : Prop := w.ownsRow B e 1 v n xs
theorem Ow.below {w w' : World} {B : Nat} {e : TypeId} {v : Value} {n : Nat} {xs : List Value} (h : Ow w B e v n xs) (hb : Below w.heap.size w w') : Ow w' B e v n xs := own_below h hb
theorem Ow.grown {w w' : World} {B g : Nat} {e : TypeId} {v : Value} {n : Nat} {xs : List Value} (h : Ow w B e v n xs) (hg : w.grownBy w' (some g)) (hb : g < B) : Ow w' B e v n xs := own_keptN h hg (fun q => by have := (World.ownsRow.lt h g q).1; omega)
section
variable {P : Program} {Q : Exit → Act → World → Prop}
/-- A block that has just been made is forgotten but for what is said of it. -/
theorem Tx.newF {l : List Oper} {S : World → Prop} {B f d : Nat} {a : Act} {w w0 : World} {o : Obj} {F : World → Prop} (hF : F (w0.alloc o)) (hd : ∀ w, F w → F w.drew) (hw : w = w0.alloc o ∨ w = (w0.alloc o).drew)
    (h : ∀ w', F w' → Below w0.heap.size w0 w' → Tx P l Q S B f d a w') : Tx P l Q S B f d a w := by
  rcases hw with rfl | rfl
  · exact h _ hF (below_alloc _ _)
  · exact h _ (hd _ hF) (below_alloc _ _).drew
end
end Go.Proofs.YtmlmggmnlgcbcaaGreat


namespace Go.Proofs.YtmlmggmnlgcbcaaGreat
open Go.RowKit
theorem Sl.ofArrN {w : World} {g m : Nat} {l : List UInt8} (h : Arr w g (u8s l)) (hm : l.length = m) (hl : m ≤ 1000000) : Sl w (.slice (some ⟨g, 0, none⟩) m m) (u8s l) := by
  have hq : (u8s l).length ≤ maxLen := by rw [u8s_len]; unfold maxLen; omega
  have := Sl.of_part h rfl (Nat.le_refl _) hq (fun j _ => by rw [Nat.zero_add])
  rw [u8s_len, hm] at this
  exact this
end Go.Proofs.YtmlmggmnlgcbcaaGreat


namespace Go.Proofs.YtmlmggmnlgcbcaaGreat
open Go.RowKit
/-- copy into a whole array: the world forgotten. -/
theorem wpl_copyG {P : Program} {w : World} {ops : Array Oper} {rest : List Oper} {o : Oper} {a : Act} {Q : Exit → Act → World → Prop} (hw : Region.wanted o (yielded ops a.tmps) = true) (d s : Operand) (dT sT : TypeId)
    (ho : o.op = .call { callee := .builtin .copy, args := #[d, s], argTypes := #[dT, sT] }) (elem : TypeId) (hu : P.underlying dT = some (.slice elem)) (hsz : (P.info? elem).map (·.size) = some 1)
    (g off dLen dCap : Nat) (hd : a.eval d = .slice (some ⟨g, off, none⟩) dLen dCap) (xs : List Value) (hg : Arr w g xs) (hfit : off + dLen ≤ xs.length) (vs : Value) (hs : a.eval s = vs) (full : List Value) (hsl : Sl w vs full) (h1 : ∀ v ∈ full, v.oneCell' = true)
    (ys : List Value) (hys : xs.take off ++ full.take dLen ++ xs.drop (off + (full.take dLen).length) = ys)
    (h : ∀ (W : World) (m : Int), Arr W g ys → w.grownBy W (some g) → W.heap.size = w.heap.size → wpList P ops Q rest (a.put o.dst (.int .i64 m)) W) : wpList P ops Q (o :: rest) a w := by
  refine wpList_copy_arr hw d s dT sT ho elem hu hsz g off dLen dCap hd xs hg hfit vs hs full hsl h1 ?_
  rw [hys]
  exact h _ _ (hg.setRow ys) (gr_row w g _) (by simp [World.setRow])
/-- A number's so many bytes, as a list. -/
def nb (k n : Nat) : List UInt8 := (digs 256 k n).map UInt8.ofNat
theorem nb_len (k n : Nat) : (nb k n).length = k := by simp [nb, digs_len]
theorem nb_u8s (k n : Nat) : bytn k n = u8s (nb k n) := bytn_u8s k n
theorem u8s_rep (n : Nat) : u8s (List.replicate n 0) = List.replicate n (.int .u8 0) := by simp [u8s]
/-- A key of a block, so many of its bytes turned. -/
def padS (key : List UInt8) (b : UInt8) : Nat → List UInt8
  | 0 => key ++ List.replicate (64 - key.length) 0
  | i + 1 => (padS key b i).set i ((padS key b i).getD i 0 ^^^ b)
def padL (key : List UInt8) (b : UInt8) : List UInt8 := padS key b 64
theorem padS_len {key : List UInt8} (h : key.length ≤ 64) (b : UInt8) : ∀ i, (padS key b i).length = 64
  | 0 => by rw [padS, List.length_append, List.length_replicate]; omega
  | i + 1 => by rw [padS, List.length_set, padS_len h b i]
set_option maxHeartbeats 4000000 in
set_option maxRecDepth 100000 in
theorem padded_any (a : Option Addr) (cap : Nat) (key : List UInt8) (b : UInt8) (hk : key.length ≤ 64) (w : World) (hs : Sl w (.slice a key.length cap) (u8s key)) :
    Calls Tryz.prog 179 #[.slice a key.length cap, .int .u8 (b.toNat : Int)] w fun e w' =>
      ∃ g, e = .returned (.slice (some ⟨g, 0, none⟩) 64 64) ∧ w.heap.size ≤ g ∧ Arr w' g (u8s (padL key b)) ∧ Below w.heap.size w w' := by
  have hmk : ∀ w : World, (Instr.makeSlice 26 (.int .i64 64) (.int .i64 64)).run Tryz.prog w = .ok (.slice (some ⟨w.heap.size, 0, none⟩) 64 64) (w.alloc (.cells (u8s (List.replicate 64 0)).toArray 5)) := fun w => make_u8c 64 (by decide) w
  have hsz1 : (Tryz.prog.info? 5).map (·.size) = some 1 := by kernel_rfl
  have hone := Lib.hid (u8s_one key)
  have hmix : Hid ((u8s (List.replicate 64 0)).take 0 ++ (u8s key).take 64 ++ (u8s (List.replicate 64 0)).drop (0 + ((u8s key).take 64).length) = u8s (padS key b 0)) := Lib.hid (by
    rw [List.take_zero, List.nil_append, List.take_of_length_le (by rw [u8s_len]; omega), u8s_len, Nat.zero_add, padS, u8s_append]
    congr 1
    rw [u8s_rep, u8s_rep, List.drop_replicate])
  obtain ⟨y, hy⟩ : ∃ y, b.toNat = y := ⟨_, rfl⟩
  have ly : y < 256 := by rw [← hy]; exact b.toNat_lt
  rw [hy]
  replace hy := Lib.hid hy
  replace hsz1 := Lib.hid hsz1
  replace hs := Lib.hid hs
  replace hk := Lib.hid hk
  go_enter Tryz.func179, Tryz.ntmps179
  go_upto_region 2 with fail
  refine wp_new1 (fun W hsz k5 kb => ?_)
  replace k5 : Arr W w.heap.size (u8s (List.replicate 64 0)) := k5
  replace hs := Lib.hid (hs.out.below kb)
  clear hsz hmk
  obtain ⟨g5, hg5⟩ : ∃ g, w.heap.size = g := ⟨_, rfl⟩
  rw [hg5] at k5 ⊢
  have hw5 : w.heap.size ≤ g5 := by omega
  clear hg5
  go_wp2_with (refine wpl_copyG rfl _ _ 26 26 rfl 5 Tryz.underlying26 hsz1.out g5 0 64 64 rfl _ k5 (by rw [u8s_len]; decide) _ rfl _ hs.out hone.out _ hmix.out (fun W2 m k5 hg hsz => ?_))
  replace kb := below_gr kb hg hw5 kb.size
  go_loopw [13] (fun iv wr => ∃ i : Nat, i ≤ 64 ∧ iv = .int .i64 i ∧ Arr wr g5 (u8s (padS key b i)) ∧ Below w.heap.size w wr) (fun iv _ => 64 - (intOf iv).toNat)
  case atStart => exact ⟨0, by omega, rfl, k5, kb⟩
  case round =>
  clear k5 kb hs hmix hone
  obtain ⟨i, hi, rfl, k5, kb⟩ := hrel
  have hi0 : (0 : Int) ≤ (i : Int) := by omega
  by_cases hin : i < 64
  · have hi1 : (i : Int) < 64 := by omega
    have hl := padS_len hk.out b i
    have hil : i < (padS key b i).length := by rw [hl]; exact hin
    have hc := k5.cell (u8s_get _ i hil)
    have hf := k5.frozen i
    obtain ⟨x, hx⟩ : ∃ x, ((padS key b i)[i]).toNat = x := ⟨_, rfl⟩
    have lx : x < 256 := by rw [← hx]; exact ((padS key b i)[i]).toNat_lt
    have hset : Hid ((u8s (padS key b i)).set i (.int .u8 ((x ^^^ y : Nat) : Int)) = u8s (padS key b (i + 1))) := Lib.hid (by
      rw [padS, List.getD_eq_getElem?_getD, List.getElem?_eq_getElem hil, Option.getD_some, ← hx, ← hy.out, ← UInt8.toNat_xor]
      simp [u8s, List.map_set])
    rw [hx] at hc
    have fx := xor_u8c lx ly
    obtain ⟨z, hz⟩ : ∃ z, x ^^^ y = z := ⟨_, rfl⟩
    rw [hz] at fx hset
    clear hx hz hil hl
    go_wp2_with fail
    replace k5 := k5.set i (.int .u8 (z : Int))
    rw [hset.out] at k5
    exact ⟨⟨i + 1, by omega, by go_num, k5, kb.setCell (by simp; omega) _⟩, by simp [intOf]; omega⟩
  · have dj : decide ((i : Int) < 64) = false := decide_eq_false (by omega)
    have hie : Hid (i = 64) := Lib.hid (by omega)
    rw [hie.out] at k5
    go_wp2_with fail
    go_ret
    exact ⟨g5, rfl, hw5, k5, kb⟩
/-- HMAC, as a number whose lowest byte comes first. -/
def macK (key : List UInt8) : List UInt8 := if 64 < key.length then nb 32 (shaa key) else key
def macN (key bs : List UInt8) : Nat := shaa (padL (macK key) 92 ++ nb 32 (shaa (padL (macK key) 54 ++ bs)))
theorem Sls.vals {w : World} {v : Value} {ls : List (List UInt8)} (h : Sls w v ls) : ∃ vs, Sl w v vs ∧ vs.length = ls.length ∧ (∀ u ∈ vs, u.oneCell' = true) ∧ ∀ (j : Nat) (a : Value) (b : List UInt8), vs[j]? = some a → ls[j]? = some b → Sl w a (u8s b) := by
  obtain ⟨vs, h1, h2, h3⟩ := h
  refine ⟨vs, h1, h2, fun u hu => ?_, h3⟩
  obtain ⟨j, hj, rfl⟩ := List.mem_iff_getElem.1 hu
  obtain ⟨x, c, e, -⟩ := h3 j _ (ls[j]'(by omega)) (List.getElem?_eq_getElem hj) (List.getElem?_eq_getElem (by omega))
  rw [e]
  rfl
end Go.Proofs.YtmlmggmnlgcbcaaGreat

