/- TopSigned: part 9 of its proof: lemmas and contracts, each with its conditions in its own statement; the last part holds the law itself. -/
import Derived.Test.YtncnlfpiondpnaaGreatJt08
import Derived.ProofKit
import Derived.OpenShut
import Derived.Deep.Matrix

set_option maxHeartbeats 4000000
set_option maxRecDepth 100000
namespace Go.Proofs.YtncnlfpiondpnaaGreat
open Go.RowKit
namespace Nt
theorem sq_cases {p : Nat} (hp : Prime p) {x y : Nat} (hx : x < p) (hy : y < p) (h : x * x % p = y * y % p) : x = y ∨ x + y = p := by
 have key : ∀ {x y : Nat}, x < p → y < p → y ≤ x → x * x % p = y * y % p → x = y ∨ x + y = p := by
  intro x y hx hy hle h
  have h1 : p ∣ (x - y) * (x + y) := by
   have e : (x - y) * (x + y) = x * x - y * y := by
    obtain ⟨d, rfl⟩ : ∃ d, x = y + d := ⟨x - y, by omega⟩
    have : (y + d) * (y + d) = y * y + d * (y + d + y) := by simp only [Nat.add_mul, Nat.mul_add, Nat.mul_comm d y]; omega
    rw [this, Nat.add_sub_cancel_left, Nat.add_sub_cancel_left]
   rw [e]
   exact Nat.dvd_of_mod_eq_zero (Nat.sub_mod_eq_zero_of_mod_eq h)
  rcases hp.dvd_mul h1 with h2 | h2
  · left
    have := Nat.eq_zero_of_dvd_of_lt h2 zOm
    omega
  · obtain ⟨c, hc⟩ := h2
    rcases c with _ | _ | c
    · left; omega
    · right; omega
    · exfalso
      have : p * (c + 1 + 1) = p * c + p + p := by simp only [Nat.mul_add, Nat.mul_one]
      omega
 rcases Nat.le_total y x with hle | hle
 · exact key hx hy hle h
 · rcases key hy hx hle h.symm with h1 | h1
   · exact .inl h1.symm
   · exact .inr zOm
section
variable {p e h i : Nat}
def rtx (p e i a : Nat) : Nat := let x := a ^ e % p; if x * x % p = a then x else x * i % p
def rtok (p e i a : Nat) : Bool := rtx p e i a * rtx p e i a % p == a
def rtv (p e i a : Nat) : Nat := if rtok p e i a then (if rtx p e i a % 2 = 1 then p - rtx p e i a else rtx p e i a) else 0
theorem rtx_lt (hp : 0 < p) (a : Nat) : rtx p e i a < p := by
 unfold rtx; dsimp only; split <;> exact Nat.mod_lt _ hp
theorem half_cases (hp : Prime p) (hh : 2 * h = p - 1) {a : Nat} (ha : a % p ≠ 0) : a ^ h % p = 1 ∨ a ^ h % p = p - 1 := by
 have h2 : 2 ≤ p := hp.1
 have hf : a ^ (p - 1) % p = 1 := fermat hp (fun hd => ha (Nat.mod_eq_zero_of_dvd hd))
 have := sq_cases hp (x := a ^ h % p) (y := 1) (Nat.mod_lt _ zOm) zOm (by
  rw [← Nat.mul_mod, ← Nat.pow_add, ← Nat.two_mul, hh, hf, Nat.mod_eq_of_lt zOm])
 rcases this with h1 | h1
 · exact .inl h1
 · exact .inr zOm
theorem mod_neg {p s a : Nat} (hs : s + a = p) : (s * (p - 1)) % p = a % p := by
 have e : s * (p - 1) + p = a + p * s := by
  rcases p with _ | p
  · have : s = 0 := by omega
    subst this; omega
  · have e1 : s * (p + 1 - 1) = p * s := by rw [Nat.add_sub_cancel, Nat.mul_comm]
    have e2 : (p + 1) * s = p * s + s := by rw [Nat.add_mul, Nat.one_mul]
    omega
 have := congrArg (· % p) e
 simpa using this
theorem rt_four (he : 4 * e = h + 2) (a : Nat) : (a ^ e % p) * (a ^ e % p) % p * ((a ^ e % p) * (a ^ e % p) % p) % p = (a ^ h % p) * (a * a) % p := by
 have e1 : a ^ e % p * (a ^ e % p) % p = a ^ (e + e) % p := by rw [← Nat.mul_mod, ← Nat.pow_add]
 have e2 : a ^ (e + e) % p * (a ^ (e + e) % p) % p = a ^ (e + e + (e + e)) % p := by rw [← Nat.mul_mod, ← Nat.pow_add]
 rw [e1, e2, show e + e + (e + e) = h + 2 by omega, Nat.mod_mul_mod, Nat.pow_add, show a ^ 2 = a * a from Nat.pow_two a]
theorem rtok_iff (hp : Prime p) (hp2 : p % 2 = 1) (hh : 2 * h = p - 1) (he : 4 * e = h + 2) (hi : i * i % p = p - 1) {a : Nat} (ha : a < p) (h0 : a ≠ 0) : rtok p e i a = true ↔ a ^ h % p = 1 := by
 have h2 : 2 ≤ p := hp.1
 have hpos : 0 < p := by omega
 have h4 := rt_four (p := p) he a
 have hun : rtok p e i a = true ↔ rtx p e i a * rtx p e i a % p = a := by unfold rtok; exact beq_iff_eq
 obtain ⟨s, hs⟩ : ∃ s, (a ^ e % p) * (a ^ e % p) % p = s := ⟨_, rfl⟩
 have hsl : s < p := by rw [← hs]; exact Nat.mod_lt _ hpos
 have hxx : s ≠ a → rtx p e i a * rtx p e i a % p = s * (p - 1) % p := by
  intro hne
  unfold rtx
  dsimp only
  rw [hs, if_neg hne, ← Nat.mul_mod, show a ^ e % p * i * (a ^ e % p * i) = (a ^ e % p * (a ^ e % p)) * (i * i) from Nat.mul_mul_mul_comm _ _ _ _, Nat.mul_mod, hs, hi]
 have hyes : s = a → rtx p e i a * rtx p e i a % p = a := by
  intro heq
  unfold rtx
  dsimp only
  rw [hs, if_pos heq, hs, heq]
 rw [hs] at h4
 rw [hun]
 constructor
 · intro hok
   rcases half_cases hp hh (a := a) (by rw [Nat.mod_eq_of_lt ha]; exact h0) with h1 | h1
   · exact h1
   exfalso
   -- s * s is less a * a, and a * a
   have h5 : s * s % p = a * a % p := by
    by_cases hsa : s = a
    · rw [hsa]
    · rw [hxx hsa] at hok
      have h6 : s + a = p := by
       have h7 : (s * (p - 1) + s) % p = 0 := by
        rw [show s * (p - 1) + s = p * s by rw [← Nat.mul_succ, show (p - 1).succ = p by omega, Nat.mul_comm]]
        exact Nat.mul_mod_right _ _
       rw [Nat.add_mod, hok, Nat.mod_eq_of_lt hsl] at h7
       have h8 : p ∣ a + s := Nat.dvd_of_mod_eq_zero h7
       obtain ⟨c, hc⟩ := h8
       rcases c with _ | _ | c
       · omega
       · omega
       · have : p * (c + 1 + 1) = p * c + p + p := by simp only [Nat.mul_add, Nat.mul_one]
         omega
      have h7 : s = p - a := by omega
      have e1 : s * s % p = (s * (p - 1)) * (s * (p - 1)) % p := by
       rw [show s * (p - 1) * (s * (p - 1)) = (s * s) * ((p - 1) * (p - 1)) from Nat.mul_mul_mul_comm _ _ _ _]
       have e2 : (p - 1) * (p - 1) % p = 1 := by
        have := mod_neg (p := p) (s := p - 1) (a := 1) zOm
        rw [this]; exact Nat.mod_eq_of_lt zOm
       rw [Nat.mul_mod (s * s), e2, Nat.mul_one, Nat.mod_mod]
      rw [e1, Nat.mul_mod, mod_neg h6, ← Nat.mul_mod]
   rw [h1, h5] at h4
   -- a * a = less a * a
   have h6 : (a * a + (p - 1) * (a * a)) % p = 0 := by
    rw [show a * a + (p - 1) * (a * a) = p * (a * a) by rw [show a * a + (p - 1) * (a * a) = (1 + (p - 1)) * (a * a) by rw [Nat.add_mul, Nat.one_mul], show 1 + (p - 1) = p by omega]]
    exact Nat.mul_mod_right _ _
   rw [Nat.add_mod, ← h4, ← Nat.add_mod] at h6
   have h7 : p ∣ 2 * (a * a) := by rw [Nat.two_mul]; exact Nat.dvd_of_mod_eq_zero h6
   rcases hp.dvd_mul h7 with h8 | h8
   · have := Nat.le_of_dvd zOm h8; omega
   · rcases hp.dvd_mul h8 with h9 | h9 <;> exact h0 (Nat.eq_zero_of_dvd_of_lt h9 ha)
 · intro hone
   rw [hone, Nat.one_mul] at h4
   rcases sq_cases hp hsl ha h4 with h5 | h5
   · exact hyes h5
   · by_cases hsa : s = a
     · exact hyes hsa
     · rw [hxx hsa, mod_neg h5, Nat.mod_eq_of_lt ha]
theorem rtok_zero (he : 0 < e) : rtok p e i 0 = true := by
 simp [rtok, rtx, Nat.zero_pow he]
theorem rtv_sq {a : Nat} (hok : rtok p e i a = true) (hp : 0 < p) : rtv p e i a * rtv p e i a % p = a := by
 have h1 : rtx p e i a * rtx p e i a % p = a := by unfold rtok at hok; exact beq_iff_eq.1 hok
 unfold rtv
 rw [if_pos hok]
 split
 · have hx := rtx_lt (e := e) (i := i) hp a
   obtain ⟨x, hxe⟩ : ∃ x, rtx p e i a = x := ⟨_, rfl⟩
   rw [hxe] at h1 hx ⊢
   rw [← h1]
   have h5 : (p - x) * (p - x) % p = x * (p - 1) * (x * (p - 1)) % p := by
    rw [Nat.mul_mod (x * (p - 1)), mod_neg (a := p - x) zOm, ← Nat.mul_mod]
   rw [h5, show x * (p - 1) * (x * (p - 1)) = (x * x) * ((p - 1) * (p - 1)) from Nat.mul_mul_mul_comm _ _ _ _]
   have e2 : (p - 1) * (p - 1) % p = 1 % p := mod_neg zOm
   rw [Nat.mul_mod (x * x), e2, ← Nat.mul_mod, Nat.mul_one]
 · exact h1
theorem rtv_even (hp2 : p % 2 = 1) (a : Nat) : rtv p e i a % 2 = 0 := by
 have hx := rtx_lt (e := e) (i := i) (p := p) zOm a
 unfold rtv
 split
 · split <;> omega
 · rfl
theorem rtv_lt (hp : 0 < p) (a : Nat) : rtv p e i a < p := by
 have hx := rtx_lt (e := e) (i := i) (p := p) hp a
 unfold rtv
 split
 · split <;> omega
 · exact hp
theorem half_mul (a b : Nat) : (a * b % p) ^ h % p = (a ^ h % p) * (b ^ h % p) % p := by
 rw [← Nat.pow_mod, Nat.mul_pow, Nat.mul_mod]
theorem rtok_sq (hp : Prime p) (hp2 : p % 2 = 1) (hh : 2 * h = p - 1) (he : 4 * e = h + 2) (hi : i * i % p = p - 1) {a : Nat} (ha : a < p) : rtok p e i (a * a % p) = true := by
 have h2 : 2 ≤ p := hp.1
 by_cases h0 : a = 0
 · subst h0
   rw [Nat.zero_mul, Nat.zero_mod]
   exact rtok_zero zOm
 · rw [rtok_iff hp hp2 hh he hi (Nat.mod_lt _ zOm)]
   · rw [half_mul]
     rcases half_cases hp hh (a := a) (by rw [Nat.mod_eq_of_lt ha]; exact h0) with h1 | h1
     · rw [h1]; exact Nat.mod_eq_of_lt zOm
     · rw [h1, mod_neg (a := 1) zOm]; exact Nat.mod_eq_of_lt zOm
   · intro hz
     rcases hp.dvd_mul (Nat.dvd_of_mod_eq_zero hz) with h9 | h9 <;> exact h0 (Nat.eq_zero_of_dvd_of_lt h9 ha)
end
end Nt
def eN : Nat := 7237005577332262213973186563042994240829374041602535252466099000494570602494
def hN : Nat := 28948022309329048855892746252171976963317496166410141009864396001978282409974
def iN : Nat := 19681161376707505956807079304988542015446066515923890162744021073123829784752
theorem hN_two : 2 * hN = pN - 1 := by decide
theorem eN_four : 4 * eN = hN + 2 := by decide
theorem iN_sq : iN * iN % pN = pN - 1 := by decide
theorem pN_odd : pN % 2 = 1 := by decide
theorem pN_prime : Nt.Prime pN := Nt.prime_p
theorem lims_e : (lims 4 eN).toArray = #[.int .u64 18446744073709551614, .int .u64 18446744073709551615, .int .u64 18446744073709551615, .int .u64 1152921504606846975] := by kernel_rfl
theorem lims_i : (lims 4 iN).toArray = #[.int .u64 14190309331451158704, .int .u64 3405592160176694392, .int .u64 3120150775007532967, .int .u64 3135389899092516619] := by kernel_rfl
theorem eq_lims (m n : Nat) (hm : m < 18446744073709551616 ^ 4) (hn : n < 18446744073709551616 ^ 4) (w : World) :
 (Op.equalIn 10000 89 (.agg (lims 4 m).toArray) (.agg (lims 4 n).toArray)).run Tryz.prog w = .ok (decide (m = n)) w := by
 have h := run_eq_ints (P := Tryz.prog) (t := 89) (e := 87) (k := .u64) (n := 4) Tryz.underlying89 Tryz.underlying87 zKr zKr ((digs 18446744073709551616 4 m).map Int.ofNat) ((digs 18446744073709551616 4 n).map Int.ofNat) (by simp [digs_len]) (by simp [digs_len]) w
 have e : ∀ k, ((digs 18446744073709551616 4 k).map Int.ofNat).map (Value.int .u64) = lims 4 k := by intro k; simp only [lims, List.map_map]; rfl
 rw [e, e] at h
 have e2 : ((digs 18446744073709551616 4 m).map Int.ofNat = (digs 18446744073709551616 4 n).map Int.ofNat) = (m = n) := by
  refine propext ⟨fun h1 => digs_inj ((List.map_inj_right (fun a b h => Int.ofNat.inj h)).1 h1) hm hn, ?_⟩
  rintro rfl; rfl
 rw [h]
 simp only [e2]
theorem rtok_def (a : Nat) : Nt.rtok pN eN iN a = decide (Nt.rtx pN eN iN a * Nt.rtx pN eN iN a % pN = a) := by
 unfold Nt.rtok
 rw [Bool.eq_iff_iff]
 simp
theorem square_any (a : Nat) (ha : a < pN) (w : World) :
 Calls Tryz.prog 90 #[.agg (lims 4 a).toArray] w fun e w' =>
  e = .returned (.tuple #[.agg (lims 4 (Nt.rtv pN eN iN a)).toArray, .bool (Nt.rtok pN eN iN a)]) ∧ Below w.heap.size w w' := by
 have hp4 : pN < 18446744073709551616 ^ 4 := by decide
 have ha4 : a < 18446744073709551616 ^ 4 := Nat.lt_trans ha hp4
 obtain ⟨x, hx⟩ : ∃ x, a ^ eN % pN = x := ⟨_, rfl⟩
 obtain ⟨s, hs⟩ : ∃ s, x * x % pN = s := ⟨_, rfl⟩
 obtain ⟨X, hX⟩ : ∃ X, Nt.rtx pN eN iN a = X := ⟨_, rfl⟩
 obtain ⟨q, hq⟩ : ∃ q, X * X % pN = q := ⟨_, rfl⟩
 have hok := rtok_def a
 rw [hX, hq] at hok
 have hv : Nt.rtv pN eN iN a = if Nt.rtok pN eN iN a then (if X % 2 = 1 then pN - X else X) else 0 := by unfold Nt.rtv; rw [hX]
 have hxl : x < 18446744073709551616 ^ 4 := hx ▸ p_lt4 _
 have hsl : s < 18446744073709551616 ^ 4 := hs ▸ p_lt4 _
 have hXp : X < pN := hX ▸ Nt.rtx_lt pN_pos a
 have hXl : X < 18446744073709551616 ^ 4 := Nat.lt_trans hXp hp4
 have hql : q < 18446744073709551616 ^ 4 := hq ▸ p_lt4 _
 have c0 := fun w => power_any a eN ha4 zDc w
 rw [hx] at c0
 have c1 := fun w => times_any x x hxl hxl w
 rw [hs] at c1
 have c2 := fun w => times_any X X hXl hXl w
 rw [hq] at c2
 have c3 := fun w => limBit_any X 0 zDc w
 rw [Nat.pow_zero, Nat.div_one] at c3
 have c4 : X % 2 = 1 → ∀ w, _ := fun hodd w => minus_any 0 X zDc hXp w
 have q1 := eq_lims s a hsl ha4
 have q2 := eq_lims q a hql ha4
 have l0 : (lims 4 0).toArray = #[.int .u64 0, .int .u64 0, .int .u64 0, .int .u64 0] := lims_small 0 zDc
 have hm : X % 2 = 1 → (0 + pN - X) % pN = pN - X := fun h => by rw [Nat.zero_add]; exact Nat.mod_eq_of_lt zOm
 have hXs : s = a → X = x := by
  intro h; rw [← hX]; unfold Nt.rtx; dsimp only; rw [hx, hs, if_pos h]
 have hXn : s ≠ a → x * iN % pN = X := by
  intro h; rw [← hX]; unfold Nt.rtx; dsimp only; rw [hx, hs, if_neg h]
 have c5 := fun w => times_any x iN hxl zDc w
 replace c0 := zH c0
 replace c1 := zH c1
 replace c2 := zH c2
 replace c3 := zH c3
 replace c4 := zH c4
 replace q1 := zH q1
 replace q2 := zH q2
 replace hm := zH hm
 replace l0 := zH l0
 replace hok := zH hok
 replace hv := zH hv
 clear hX hx hs hq
 generalize Nt.rtv pN eN iN a = R at hv ⊢
 generalize Nt.rtok pN eN iN a = B at hv hok ⊢
 go_enter Tryz.func90, Tryz.ntmps90
 go_upto_region 1 with fail
 refine wp_new2 (fun W hsz k1 k2 kb => ?_)
 have k2 : Arr W (w.heap.size + 1) (lims 4 0) := k2
 go_upto_region 3 with (first | (refine zLd ?_) | (refine zSt ?_))
 refine wp_new2 (fun W9 hsz9 k4 k5 hb9 => ?_)
 rw [← lims_e, hsz] at k4
 rw [← lims_i, hsz] at k5
 have k4 : Arr W9 (w.heap.size + 2) (lims 4 eN) := k4
 have k5 : Arr W9 (w.heap.size + 2 + 1) (lims 4 iN) := k5
 have k1 := k1.below hb9
 have k2 := k2.below hb9
 have kb := bel kb hb9
 clear hb9 hsz9
 go_wp2_with (first | (refine zLd ?_) | (refine zSt ?_))
 refine (c0.out _).mono ?_
 rintro e w_1 ⟨rfl, hb_1⟩
 have k1 := k1.below hb_1
 have k2 := k2.below hb_1
 have k4 := k4.below hb_1
 have k5 := k5.below hb_1
 have kb := bel kb hb_1
 clear hb_1
 go_upto_region 4 with (first | (refine zLd ?_) | (refine zSt ?_))
 have hg_k6_k1 := k1.lt
 have hg_k6_k2 := k2.lt
 have hg_k6_k4 := k4.lt
 have hg_k6_k5 := k5.lt
 refine code_new (fun w_2 k6 hnew => ?_)
 have k1 := k1.below hnew
 have k2 := k2.below hnew
 have k4 := k4.below hnew
 have k5 := k5.below hnew
 have kb := bel kb hnew
 clear hnew
 generalize (w_1).heap.size = g_k6 at k6 hg_k6_k1 hg_k6_k2 hg_k6_k4 hg_k6_k5 ⊢
 refine Tx.start (fun w' => Below (w_2).heap.size (w_2) w') 9999 5 rfl zKr ?_
 have hS_3 : Below (w_2).heap.size (w_2) (World.drew w_2) := (Below.refl _ _).drew
 refine Tx.seg (A := ?_) 2 11 zKr (by exact hS_3) [0, 1, 3] zKr ?_ ?_
 rotate_left
 · intro w' hB
   have e1 := k6.below hB
   have e2 := k1.below hB
   exact zRd
 refine Tx.eff 2 15 rfl zDk (fun K hK => ?_)
 go_simp
 refine (c1.out _).mono ?_
 rintro e w_4 ⟨rfl, hb_4⟩
 have hS_4 := ext_trans hS_3 (Nat.le_refl _) hb_4
 refine hK (fun w' => Below (w_2).heap.size (w_2) w') _ _ hS_4 (fun _ h => h) ?_
 clear hK K hb_4 hS_3
 try simp only [Act.put, zSa, zSz, zSs]
 refine Tx.seg (A := ?_) 0 31 zKr (by exact hS_4) [4] zKr ?_ ?_
 rotate_left
 · intro w' hB
   have e1 := q1.out w'
   exact zRd
 refine Tx.done zKr ?_
 have k1 := k1.below hS_4
 have k2 := k2.below hS_4
 have k4 := k4.below hS_4
 have k5 := k5.below hS_4
 have k6 := k6.below hS_4
 have kb := bel kb hS_4
 clear hS_4
 by_cases hsa : s = a
 · have hds : decide (s = a) = true := decide_eq_true hsa
   have hXs := hXs hsa
   rw [hds]
   replace hsa := zH hsa
   clear hds hXn
   subst hXs
   go_upto_region 6 with fail
   refine Tx.start (fun w' => Below (w_4).heap.size (w_4) w') 9999 5 rfl zKr ?_
   have hS_5 : Below (w_4).heap.size (w_4) (World.drew w_4) := (Below.refl _ _).drew
   refine Tx.seg (A := ?_) 2 11 zKr (by exact hS_5) [0, 1, 3] zKr ?_ ?_
   rotate_left
   · intro w' hB
     have e1 := k6.below hB
     have e2 := k1.below hB
     exact zRd
   refine Tx.eff 2 15 rfl zDk (fun K hK => ?_)
   go_simp
   refine (c2.out _).mono ?_
   rintro e w_6 ⟨rfl, hb_6⟩
   have hS_6 := ext_trans hS_5 (Nat.le_refl _) hb_6
   refine hK (fun w' => Below (w_4).heap.size (w_4) w') _ _ hS_6 (fun _ h => h) ?_
   clear hK K hb_6 hS_5
   try simp only [Act.put, zSa, zSz, zSs]
   refine Tx.seg (A := ?_) 0 31 zKr (by exact hS_6) [4] zKr ?_ ?_
   rotate_left
   · intro w' hB
     have e1 := q2.out w'
     exact zRd
   refine Tx.done zKr ?_
   have k1 := k1.below hS_6
   have k2 := k2.below hS_6
   have k6 := k6.below hS_6
   have kb := bel kb hS_6
   clear hS_6
   by_cases hqa : q = a
   · have hdq : decide (q = a) = true := decide_eq_true hqa
     rw [hdq]
     replace hqa := zH hqa
     clear hdq
     go_wp2_with (first | (refine zLd ?_))
     refine (c3.out _).mono ?_
     rintro e w_7 ⟨rfl, hb_7⟩
     have k1 := k1.below hb_7
     have k2 := k2.below hb_7
     have k6 := k6.below hb_7
     have kb := bel kb hb_7
     clear hb_7
     by_cases hodd : X % 2 = 1
     · have c4 := c4.out hodd
       have hm := hm.out hodd
       rw [hm, l0.out] at c4
       rw [hodd]
       replace c4 := zH c4
       have hodd' := zH hodd
       clear hm hodd
       go_wp2_with (first | (refine zLd ?_))
       refine (c4.out _).mono ?_
       rintro e w_8 ⟨rfl, hb_8⟩
       have k1 := k1.below hb_8
       have k2 := k2.below hb_8
       have k6 := k6.below hb_8
       have kb := bel kb hb_8
       clear hb_8
       go_upto_region 10 with (first | (refine zSt ?_))
       refine code_row k6 (fun w_9 k6 hoth hbel => ?_)
       have k2 := hoth _ _ zOm k2
       have kb := hbel _ _ zOm kb
       clear hoth hbel
       go_wp2_with (first | (refine zLd ?_) | (refine zSt ?_))
       exact bodyPost_ret (results_arr_tmp Tryz.results90 _ _ _ _ rfl Tryz.underlying89 rfl _ (k2.setRow _) (by first | (rw [lims_len]; kernel_rfl) | kernel_rfl) _ rfl) rfl ⟨by have h1 := hv.out; rw [hok.out, hqa.out, decide_eq_true rfl, if_pos rfl, if_pos hodd'.out] at h1; rw [h1, hok.out, hqa.out, decide_eq_true rfl]; rfl, below_setRow kb zOm _⟩
     · have hev : X % 2 = 0 := by omega
       rw [hev]
       have hodd' := zH hodd
       clear hodd hev
       go_wp2_with (first | (refine zLd ?_) | (refine zSt ?_))
       exact bodyPost_ret (results_arr_tmp Tryz.results90 _ _ _ _ rfl Tryz.underlying89 rfl _ (k2.setRow _) (by first | (rw [lims_len]; kernel_rfl) | kernel_rfl) _ rfl) rfl ⟨by have h1 := hv.out; rw [hok.out, hqa.out, decide_eq_true rfl, if_pos rfl, if_neg hodd'.out] at h1; rw [h1, hok.out, hqa.out, decide_eq_true rfl]; rfl, below_setRow kb zOm _⟩
   · have hdq : decide (q = a) = false := decide_eq_false hqa
     rw [hdq]
     replace hqa := zH hqa
     clear hdq
     go_wp2_with (first | (refine zLd ?_) | (refine zSt ?_))
     exact bodyPost_ret (results_arr_tmp Tryz.results90 _ _ _ _ rfl Tryz.underlying89 rfl _ (k2.setRow _) (by first | (rw [lims_len]; kernel_rfl) | kernel_rfl) _ rfl) rfl ⟨by have h1 := hv.out; rw [hok.out, decide_eq_false hqa.out, if_neg zDc] at h1; rw [h1, hok.out, decide_eq_false hqa.out]; rfl, below_setRow kb zOm _⟩
 · have hds : decide (s = a) = false := decide_eq_false hsa
   have hXn := hXn hsa
   rw [hds]
   rw [hXn] at c5
   replace hsa := zH hsa
   replace c5 := zH c5
   clear hds hXn
   go_wp2_with (first | (refine zLd ?_))
   refine (c5.out _).mono ?_
   rintro e w_10 ⟨rfl, hb_10⟩
   have k1 := k1.below hb_10
   have k2 := k2.below hb_10
   have k6 := k6.below hb_10
   have kb := bel kb hb_10
   clear hb_10
   go_upto_region 6 with (first | (refine zSt ?_))
   refine code_row k6 (fun w_11 k6 hoth hbel => ?_)
   have k1 := hoth _ _ zOm k1
   have k2 := hoth _ _ zOm k2
   have kb := hbel _ _ zOm kb
   clear hoth hbel
   refine Tx.start (fun w' => Below (w_11).heap.size (w_11) w') 9999 5 rfl zKr ?_
   have hS_12 : Below (w_11).heap.size (w_11) (World.drew w_11) := (Below.refl _ _).drew
   refine Tx.seg (A := ?_) 2 11 zKr (by exact hS_12) [0, 1, 3] zKr ?_ ?_
   rotate_left
   · intro w' hB
     have e1 := k6.below hB
     have e2 := k1.below hB
     exact zRd
   refine Tx.eff 2 15 rfl zDk (fun K hK => ?_)
   go_simp
   refine (c2.out _).mono ?_
   rintro e w_13 ⟨rfl, hb_13⟩
   have hS_13 := ext_trans hS_12 (Nat.le_refl _) hb_13
   refine hK (fun w' => Below (w_11).heap.size (w_11) w') _ _ hS_13 (fun _ h => h) ?_
   clear hK K hb_13 hS_12
   try simp only [Act.put, zSa, zSz, zSs]
   refine Tx.seg (A := ?_) 0 31 zKr (by exact hS_13) [4] zKr ?_ ?_
   rotate_left
   · intro w' hB
     have e1 := q2.out w'
     exact zRd
   refine Tx.done zKr ?_
   have k1 := k1.below hS_13
   have k2 := k2.below hS_13
   have k6 := k6.below hS_13
   have kb := bel kb hS_13
   clear hS_13
   by_cases hqa : q = a
   · have hdq : decide (q = a) = true := decide_eq_true hqa
     rw [hdq]
     replace hqa := zH hqa
     clear hdq
     go_wp2_with (first | (refine zLd ?_))
     refine (c3.out _).mono ?_
     rintro e w_14 ⟨rfl, hb_14⟩
     have k1 := k1.below hb_14
     have k2 := k2.below hb_14
     have k6 := k6.below hb_14
     have kb := bel kb hb_14
     clear hb_14
     by_cases hodd : X % 2 = 1
     · have c4 := c4.out hodd
       have hm := hm.out hodd
       rw [hm, l0.out] at c4
       rw [hodd]
       replace c4 := zH c4
       have hodd' := zH hodd
       clear hm hodd
       go_wp2_with (first | (refine zLd ?_))
       refine (c4.out _).mono ?_
       rintro e w_15 ⟨rfl, hb_15⟩
       have k1 := k1.below hb_15
       have k2 := k2.below hb_15
       have k6 := k6.below hb_15
       have kb := bel kb hb_15
       clear hb_15
       go_upto_region 10 with (first | (refine zSt ?_))
       refine code_row k6 (fun w_16 k6 hoth hbel => ?_)
       have k2 := hoth _ _ zOm k2
       have kb := hbel _ _ zOm kb
       clear hoth hbel
       go_wp2_with (first | (refine zLd ?_) | (refine zSt ?_))
       exact bodyPost_ret (results_arr_tmp Tryz.results90 _ _ _ _ rfl Tryz.underlying89 rfl _ (k2.setRow _) (by first | (rw [lims_len]; kernel_rfl) | kernel_rfl) _ rfl) rfl ⟨by have h1 := hv.out; rw [hok.out, hqa.out, decide_eq_true rfl, if_pos rfl, if_pos hodd'.out] at h1; rw [h1, hok.out, hqa.out, decide_eq_true rfl]; rfl, below_setRow kb zOm _⟩
     · have hev : X % 2 = 0 := by omega
       rw [hev]
       have hodd' := zH hodd
       clear hodd hev
       go_wp2_with (first | (refine zLd ?_) | (refine zSt ?_))
       exact bodyPost_ret (results_arr_tmp Tryz.results90 _ _ _ _ rfl Tryz.underlying89 rfl _ (k2.setRow _) (by first | (rw [lims_len]; kernel_rfl) | kernel_rfl) _ rfl) rfl ⟨by have h1 := hv.out; rw [hok.out, hqa.out, decide_eq_true rfl, if_pos rfl, if_neg hodd'.out] at h1; rw [h1, hok.out, hqa.out, decide_eq_true rfl]; rfl, below_setRow kb zOm _⟩
   · have hdq : decide (q = a) = false := decide_eq_false hqa
     rw [hdq]
     replace hqa := zH hqa
     clear hdq
     go_wp2_with (first | (refine zLd ?_) | (refine zSt ?_))
     exact bodyPost_ret (results_arr_tmp Tryz.results90 _ _ _ _ rfl Tryz.underlying89 rfl _ (k2.setRow _) (by first | (rw [lims_len]; kernel_rfl) | kernel_rfl) _ rfl) rfl ⟨by have h1 := hv.out; rw [hok.out, decide_eq_false hqa.out, if_neg zDc] at h1; rw [h1, hok.out, decide_eq_false hqa.out]; rfl, below_setRow kb zOm _⟩
open Go.RowKit Go.ChangeShapes Go.WideShapes
theorem wf_u8 {n : Int} (h : (Lit.int .u8 n).wf = true) : 0 ≤ n ∧ n ≤ 255 := by
 have := bounds_u8 h
 omega
theorem bytes_of (zs : List Int) (h : ∀ n ∈ zs, (Lit.int .u8 n).wf = true) : ∃ bs : List UInt8, zs.map (Value.int .u8) = u8s bs ∧ bs.length = zs.length := by
 refine ⟨zs.map fun n => UInt8.ofNat n.toNat, ?_, by simp⟩
 simp only [u8s, List.map_map]
 apply List.map_congr_left
 intro n hn
 have := wf_u8 (h n hn)
 simp
 omega
section
variable {H : Type} {enc : TypeId × Value → H} {P : Program} {w : World}
theorem in_bytes {t e : TypeId} {a : Option Addr} {len cap : Nat} {d : DataW H} {p : List MemPlace} (ht : P.underlying t = some (.slice e)) (he : P.underlying e = some (.int .u8)) (hc : P.cellsOf e = 1)
 (h : DataW.Trod enc P w 0 (fun _ => true) true t (.slice a len cap) d p) : ∃ bs : List UInt8, len = bs.length ∧ Sl w (.slice a bs.length cap) (u8s bs) := by
 obtain ⟨fuel, hf⟩ := h
 rcases open_ints ht he hc hf with ⟨hcs, _⟩ | ⟨x, l, c, zs, hcs, _, hl, hm, hz, _, hcell, hwz⟩
 · simp [Value.cells] at hcs
   obtain ⟨rfl, rfl, rfl⟩ := hcs
   exact ⟨[], rfl, Sl.nil w⟩
 · simp [Value.cells] at hcs
   obtain ⟨rfl, rfl, rfl⟩ := hcs
   have hz' : zs.length = cap := by simpa using hz
   obtain ⟨bs, hb1, hb2⟩ := bytes_of (zs.take len) (fun n hn => hwz n (List.mem_of_mem_take hn))
   have hlen : bs.length = len := by rw [hb2, List.length_take]; omega
   refine ⟨bs, hlen.symm, some x, cap, by rw [u8s_len], by rw [u8s_len]; omega, hm, fun h => (by cases h), fun y hy => ?_⟩
   cases hy
   intro j u hu
   rw [← hb1] at hu
   have hj : j < len := by
    have := (List.getElem?_eq_some_iff.1 hu).1
    simp at this; omega
   have h1 := hcell j zOm
   rw [h1]
   rw [List.getElem?_map, List.getElem?_take, if_pos hj, List.getElem?_eq_getElem zOm] at hu
   simpa [List.getD, List.getElem?_eq_getElem (show j < zs.length by omega)] using hu
end
theorem byts_lit (v : Nat) (hv : v < 256) : (byts v).toArray = #[.int .u8 (v : Int), .int .u8 0, .int .u8 0, .int .u8 0, .int .u8 0, .int .u8 0, .int .u8 0, .int .u8 0, .int .u8 0, .int .u8 0, .int .u8 0, .int .u8 0, .int .u8 0, .int .u8 0, .int .u8 0, .int .u8 0, .int .u8 0, .int .u8 0, .int .u8 0, .int .u8 0, .int .u8 0, .int .u8 0, .int .u8 0, .int .u8 0, .int .u8 0, .int .u8 0, .int .u8 0, .int .u8 0, .int .u8 0, .int .u8 0, .int .u8 0, .int .u8 0] := by
 have e : ∀ i, 0 < i → v / 256 ^ i % 256 = 0 := by
  intro i hi
  obtain ⟨j, rfl⟩ : ∃ j, i = j + 1 := ⟨i - 1, by omega⟩
  rw [Nat.pow_succ, Nat.mul_comm, ← Nat.div_div_eq_div_mul, Nat.div_eq_of_lt hv, Nat.zero_div]
 simp only [byts, digs, show List.range 32 = 0 :: (List.range' 1 31) from by decide, List.map_cons, List.map_map, Nat.pow_zero, Nat.div_one, Nat.mod_eq_of_lt hv]
 rw [show List.map ((fun (x : Nat) => Value.int IntKind.u8 (x : Int)) ∘ fun i => v / 256 ^ i % 256) (List.range' 1 31) = List.map (fun _ => Value.int .u8 0) (List.range' 1 31) from List.map_congr_left (fun i hi => by
  simp only [List.mem_range'_1] at hi
  simp only [Function.comp_apply, e i zOm]
  rfl)]
 rfl
theorem byts_0 : (byts 0).toArray = #[.int .u8 0, .int .u8 0, .int .u8 0, .int .u8 0, .int .u8 0, .int .u8 0, .int .u8 0, .int .u8 0, .int .u8 0, .int .u8 0, .int .u8 0, .int .u8 0, .int .u8 0, .int .u8 0, .int .u8 0, .int .u8 0, .int .u8 0, .int .u8 0, .int .u8 0, .int .u8 0, .int .u8 0, .int .u8 0, .int .u8 0, .int .u8 0, .int .u8 0, .int .u8 0, .int .u8 0, .int .u8 0, .int .u8 0, .int .u8 0, .int .u8 0, .int .u8 0] := byts_lit 0 zDc
theorem eq_num {m n : Nat} {b : Bool} (hb : decide (m = n) = b) (hm : m < 256 ^ 32) (hn : n < 256 ^ 32) (w : World) :
 (Op.equalIn 10000 25 (.agg (byts m).toArray) (.agg (byts n).toArray)).run Tryz.prog w = .ok b w := by rw [eq_byts m n hm hn w, hb]
theorem eq_num0 {m : Nat} {b : Bool} (hb : decide (m = 0) = b) (hm : m < 256 ^ 32) (w : World) :
 (Op.equalIn 10000 25 (.agg (byts m).toArray) (.agg #[.int .u8 0, .int .u8 0, .int .u8 0, .int .u8 0, .int .u8 0, .int .u8 0, .int .u8 0, .int .u8 0, .int .u8 0, .int .u8 0, .int .u8 0, .int .u8 0, .int .u8 0, .int .u8 0, .int .u8 0, .int .u8 0, .int .u8 0, .int .u8 0, .int .u8 0, .int .u8 0, .int .u8 0, .int .u8 0, .int .u8 0, .int .u8 0, .int .u8 0, .int .u8 0, .int .u8 0, .int .u8 0, .int .u8 0, .int .u8 0, .int .u8 0, .int .u8 0])).run Tryz.prog w = .ok b w := by
 have := eq_byts m 0 hm zDc w
 rw [byts_0, hb] at this
 exact this
end Go.Proofs.YtncnlfpiondpnaaGreat
